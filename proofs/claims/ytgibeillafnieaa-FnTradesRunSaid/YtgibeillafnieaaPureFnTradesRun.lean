/-
  The pure statement of FnTradesRun.
-/
import Derived.Test.YtgibeillafnieaaQN
import Derived.ProofKit
import Derived.IntWalk
namespace Go.Proofs.Ytgibeillafnieaa.EPure
open Go Go.RowKit Go.Proofs.Ytgibeillafnieaa.Eng
set_option linter.unusedVariables false
set_option linter.unusedSimpArgs false

/-! Rounds without counting them. -/
def Ev {α : Type} (g : Nat → Option α) (r : α) : Prop := ∃ K, ∀ k, K ≤ k → g k = some r
theorem ev_some {α : Type} {a r : α} : Ev (fun _ => some a) r ↔ a = r := by
  constructor
  · rintro ⟨K, h⟩
    exact Option.some.inj (h K (Nat.le_refl _))
  · rintro rfl
    exact ⟨0, fun _ _ => rfl⟩
theorem ev_bind {α β : Type} {g : Nat → Option α} {f : Nat → α → Option β} {a : α} (h : Ev g a) {r : β} (h2 : Ev (fun k => f k a) r) : Ev (fun k => (g k).bind (f k)) r := by
  obtain ⟨K, h⟩ := h
  obtain ⟨L, h2⟩ := h2
  exact ⟨max K L, fun k hk => by simp only [h k (by omega), Option.bind_some]; exact h2 k (by omega)⟩
theorem ev_succ {α : Type} {g f : Nat → Option α} {r : α} (h : ∀ k, g (k + 1) = f k) (e : Ev f r) : Ev g r := by
  obtain ⟨K, e⟩ := e
  refine ⟨K + 1, fun k hk => ?_⟩
  obtain ⟨j, rfl⟩ : ∃ j, k = j + 1 := ⟨k - 1, by omega⟩
  rw [h]
  exact e j (by omega)
theorem ev_true {g : Nat → Option Bool} (h : Ev g true) : ∃ k, g k = some true := by
  obtain ⟨K, h⟩ := h
  exact ⟨K, h K (Nat.le_refl _)⟩
theorem ev_gate {α : Type} {c : Bool} {g : Nat → Option α} {r : α} (hc : c = true) (e : Ev g r) : Ev (fun k => gate c (g k)) r := by
  subst hc
  exact e
theorem ev_gd {α : Type} {p : Prop} [Decidable p] {g : Nat → Option α} {r : α} (hp : p) (e : Ev g r) : Ev (fun k => gate (decide p) (g k)) r := ev_gate (decide_eq_true hp) e
theorem ev_bt {α : Type} {c : Bool} {g h : Nat → Option α} {r : α} (hc : c = true) (e : Ev g r) : Ev (fun k => br c (g k) (h k)) r := by
  subst hc
  exact e
theorem ev_bf {α : Type} {c : Bool} {g h : Nat → Option α} {r : α} (hc : c = false) (e : Ev h r) : Ev (fun k => br c (g k) (h k)) r := by
  subst hc
  exact e
theorem ev_dt {α : Type} {p : Prop} [Decidable p] {g h : Nat → Option α} {r : α} (hp : p) (e : Ev g r) : Ev (fun k => br (decide p) (g k) (h k)) r := ev_bt (decide_eq_true hp) e
theorem ev_df {α : Type} {p : Prop} [Decidable p] {g h : Nat → Option α} {r : α} (hp : ¬ p) (e : Ev h r) : Ev (fun k => br (decide p) (g k) (h k)) r := ev_bf (decide_eq_false hp) e
theorem ev_nt {α : Type} {c : Bool} {g h : Nat → Option α} {r : α} (hc : c = false) (e : Ev g r) : Ev (fun k => br (!c) (g k) (h k)) r := by
  subst hc
  exact e
theorem ev_nf {α : Type} {c : Bool} {g h : Nat → Option α} {r : α} (hc : c = true) (e : Ev h r) : Ev (fun k => br (!c) (g k) (h k)) r := by
  subst hc
  exact e
/-! What comes of some rounds, with a property. -/
def EvP {α : Type} (g : Nat → Option α) (Q : α → Prop) : Prop := ∃ r, Ev g r ∧ Q r
theorem Ev.p {α : Type} {g : Nat → Option α} {Q : α → Prop} {r : α} (h : Ev g r) (q : Q r) : EvP g Q := ⟨r, h, q⟩
theorem evp_some {α : Type} {Q : α → Prop} {r : α} (q : Q r) : EvP (fun _ => some r) Q := ⟨r, ev_some.2 rfl, q⟩
theorem evp_bind {α β : Type} {g : Nat → Option α} {f : Nat → α → Option β} {P : α → Prop} {Q : β → Prop} (h : EvP g P) (e : ∀ a, P a → EvP (fun k => f k a) Q) : EvP (fun k => (g k).bind (f k)) Q := by
  obtain ⟨a, h1, p⟩ := h
  obtain ⟨r, h2, q⟩ := e a p
  exact ⟨r, ev_bind h1 h2, q⟩
theorem evp_bindv {α β : Type} {g : Nat → Option α} {f : Nat → α → Option β} {a : α} {Q : β → Prop} (h : Ev g a) (e : EvP (fun k => f k a) Q) : EvP (fun k => (g k).bind (f k)) Q := by
  obtain ⟨r, h2, q⟩ := e
  exact ⟨r, ev_bind h h2, q⟩
theorem evp_succ {α : Type} {g f : Nat → Option α} {Q : α → Prop} (h : ∀ k, g (k + 1) = f k) (e : EvP f Q) : EvP g Q := by
  obtain ⟨r, h2, q⟩ := e
  exact ⟨r, ev_succ h h2, q⟩
theorem evp_mono {α : Type} {g : Nat → Option α} {P Q : α → Prop} (h : EvP g P) (hq : ∀ a, P a → Q a) : EvP g Q := by
  obtain ⟨r, h2, p⟩ := h
  exact ⟨r, h2, hq r p⟩
theorem evp_gd {α : Type} {p : Prop} [Decidable p] {g : Nat → Option α} {Q : α → Prop} (hp : p) (e : EvP g Q) : EvP (fun k => gate (decide p) (g k)) Q := by
  obtain ⟨r, h, q⟩ := e
  exact ⟨r, ev_gd hp h, q⟩
theorem evp_gn {α : Type} {p : Prop} [Decidable p] {g : Nat → Option α} {Q : α → Prop} (hp : ¬ p) (e : EvP g Q) : EvP (fun k => gate (!decide p) (g k)) Q := by
  obtain ⟨r, h, q⟩ := e
  exact ⟨r, ev_gate (by simp [hp]) h, q⟩
theorem evp_b {α : Type} {c : Bool} {g h : Nat → Option α} {Q : α → Prop} (e1 : c = true → EvP g Q) (e2 : c = false → EvP h Q) : EvP (fun k => br c (g k) (h k)) Q := by
  cases c with
  | true => exact e1 rfl
  | false => exact e2 rfl
theorem evp_d {α : Type} {p : Prop} [Decidable p] {g h : Nat → Option α} {Q : α → Prop} (e1 : p → EvP g Q) (e2 : ¬ p → EvP h Q) : EvP (fun k => br (decide p) (g k) (h k)) Q :=
  evp_b (fun h => e1 (of_decide_eq_true h)) (fun h => e2 (of_decide_eq_false h))
theorem evp_true {g : Nat → Option Bool} (h : EvP g (fun b => b = true)) : ∃ k, g k = some true := by
  obtain ⟨r, h, rfl⟩ := h
  exact ev_true h
theorem wr_eq (x : Int) : wr x = wrap64 x := by unfold wrap64; exact IntKind.wrap_i64 x
theorem w64 {x : Int} (h0 : -9223372036854775808 ≤ x) (h1 : x ≤ 9223372036854775807) : wr x = x := by
  rw [wr_eq]
  unfold wrap64
  omega
theorem w_succ {i : Nat} (h : i < 9223372036854775807) : wr ((i : Int) + 1) = ((i + 1 : Nat) : Int) := by rw [w64] <;> omega
theorem get_nat {l : List Int} {i : Nat} (h : i < l.length) : l.getD (i : Int).toNat 0 = l[i] := by
  rw [Int.toNat_natCast, List.getD_eq_getElem?_getD, List.getElem?_eq_getElem h]
  rfl
theorem limE : lim = 1099511627776 := rfl
theorem ev_const {α : Type} {x : Option α} {r : α} (h : x = some r) : Ev (fun _ => x) r := ⟨0, fun _ _ => h⟩
theorem get_at {α : Type} {l : List α} {i : Nat} {d : α} (h : i < l.length) : l.getD (i : Int).toNat d = l[i] := by
  rw [Int.toNat_natCast, List.getD_eq_getElem?_getD, List.getElem?_eq_getElem h]
  rfl
theorem ev_eq {α : Type} {g : Nat → Option α} {a b : α} (h : Ev g a) (e : a = b) : Ev g b := e ▸ h
theorem sameInts_l0 (l : List Int) (hl : l.length < 9223372036854775807) : ∀ d i : Nat, i + d = l.length → Ev (fun k => laws_sameInts.l0 k l l (i : Int)) true := by
  intro d
  induction d with
  | zero =>
    intro i hi
    exact ev_succ (fun k => laws_sameInts.l0_eq k _ _ _) (ev_df (by omega) (ev_some.2 rfl))
  | succ d ih =>
    intro i hi
    refine ev_succ (fun k => laws_sameInts.l0_eq k _ _ _) (ev_dt (by omega) (ev_gd (by omega) (ev_gd (by omega) (ev_nf (by simp) ?_))))
    rw [w_succ (by omega)]
    exact ih (i + 1) (by omega)
theorem sameInts_self (l : List Int) (hl : l.length < 9223372036854775807) : Ev (fun k => laws_sameInts.f k l l) true :=
  ev_succ (fun k => laws_sameInts.f_eq k _ _) (ev_nf (by simp) (sameInts_l0 l hl l.length 0 (by omega)))
theorem l1In_ev (a b c : Int) : Ev (fun k => spec_l1In.f k a b c) (decide (a ≥ b) && decide (a ≤ c)) := by
  refine ev_succ (fun k => spec_l1In.f_eq k a b c) ?_
  by_cases h : a ≥ b
  · exact ev_dt h (ev_some.2 (by simp [h]))
  · exact ev_df h (ev_some.2 (by simp [h]))
/-! Trees, their rows, their order. -/
mutual
def fT : Term → List Int
  | ⟨c, e⟩ => c :: (e.length : Int) :: fL e
def fL : List Term → List Int
  | [] => []
  | t :: x => fT t ++ fL x
end
def row (x : List Term) : List Int := (x.length : Int) :: fL x
theorem fT_eq (t : Term) : fT t = t.f0 :: row t.f1 := by cases t; rw [fT]; rfl
theorem fL_nil : fL [] = [] := by rw [fL]
theorem fL_cons (t : Term) (x : List Term) : fL (t :: x) = t.f0 :: (row t.f1 ++ fL x) := by rw [fL, fT_eq]; rfl
theorem fL_app (x y : List Term) : fL (x ++ y) = fL x ++ fL y := by
  induction x with
  | nil => simp [fL_nil]
  | cons t x ih => simp [fL_cons, ih]
def size (x : List Term) : Nat := (row x).length
theorem size_eq (x : List Term) : size x = 1 + (fL x).length := by simp [size, row, Nat.add_comm]
theorem size_nil : size [] = 1 := by simp [size_eq, fL_nil]
theorem size_cons (t : Term) (x : List Term) : size (t :: x) = 1 + size t.f1 + size x := by
  simp only [size_eq, fL_cons, List.length_cons, List.length_append]
  have := size_eq t.f1
  simp only [size] at this
  omega
theorem size_pos (x : List Term) : 1 ≤ size x := by rw [size_eq]; omega
theorem size_len (x : List Term) : 1 + 2 * x.length ≤ size x := by
  induction x with
  | nil => simp [size_nil]
  | cons t x ih => rw [size_cons]; have := size_pos t.f1; simp; omega
theorem size_app (x y : List Term) : size (x ++ y) + 1 = size x + size y := by
  simp only [size_eq, fL_app, List.length_append]; omega
mutual
def mT : Term → Int
  | ⟨c, e⟩ => max c (mL e)
def mL : List Term → Int
  | [] => 0
  | t :: x => max (mT t) (mL x)
end
theorem mT_eq (t : Term) : mT t = max t.f0 (mL t.f1) := by cases t; rw [mT]
theorem mL_nil : mL [] = 0 := by rw [mL]
theorem mL_cons (t : Term) (x : List Term) : mL (t :: x) = max (max t.f0 (mL t.f1)) (mL x) := by rw [mL, mT_eq]
theorem mL_pos (x : List Term) : 0 ≤ mL x := by
  induction x with
  | nil => simp [mL_nil]
  | cons t x ih => rw [mL_cons]; omega
theorem mL_app (x y : List Term) : mL (x ++ y) = max (mL x) (mL y) := by
  induction x with
  | nil => rw [mL_nil, List.nil_append]; have := mL_pos y; omega
  | cons t x ih => simp only [List.cons_append, mL_cons, ih]; omega
theorem mL_mem {x : List Term} {t : Term} (h : t ∈ x) : t.f0 ≤ mL x ∧ mL t.f1 ≤ mL x := by
  induction x with
  | nil => cases h
  | cons s x ih =>
    rw [mL_cons]
    rcases List.mem_cons.1 h with h | h
    · rw [h]; omega
    · have := ih h; omega
mutual
def cT : Term → Term → Int
  | ⟨c, e⟩, ⟨d, f⟩ => if cL e f = 0 then (if c < d then -1 else if c > d then 1 else 0) else cL e f
def cL : List Term → List Term → Int
  | [], [] => 0
  | [], _ :: _ => -1
  | _ :: _, [] => 1
  | a :: x, b :: y => if cT a b = 0 then cL x y else cT a b
end
theorem cT_eq (a b : Term) : cT a b = if cL a.f1 b.f1 = 0 then (if a.f0 < b.f0 then -1 else if a.f0 > b.f0 then 1 else 0) else cL a.f1 b.f1 := by cases a; cases b; rw [cT]
theorem cL_nn : cL [] [] = 0 := by rw [cL]
theorem cL_nc (b : Term) (y : List Term) : cL [] (b :: y) = -1 := by rw [cL]
theorem cL_cn (a : Term) (x : List Term) : cL (a :: x) [] = 1 := by rw [cL]
theorem cL_cc (a b : Term) (x y : List Term) : cL (a :: x) (b :: y) = if cT a b = 0 then cL x y else cT a b := by rw [cL]
/-- A property of trees, by their parts. -/
theorem tree_ind {P : List Term → Prop} (h0 : P []) (h1 : ∀ t x, P t.f1 → P x → P (t :: x)) : ∀ x, P x
  | [] => h0
  | ⟨c, e⟩ :: x => h1 ⟨c, e⟩ x (tree_ind h0 h1 e) (tree_ind h0 h1 x)
termination_by x => SizeOf.sizeOf x
theorem c_range (x : List Term) : ∀ y, cL x y = -1 ∨ cL x y = 0 ∨ cL x y = 1 := by
  refine tree_ind (P := fun x => ∀ y, cL x y = -1 ∨ cL x y = 0 ∨ cL x y = 1) ?_ ?_ x
  · intro y
    cases y with
    | nil => rw [cL_nn]; omega
    | cons b y => rw [cL_nc]; omega
  · intro t x h1 h2 y
    cases y with
    | nil => rw [cL_cn]; omega
    | cons b y =>
      rw [cL_cc, cT_eq]
      have a1 := h1 b.f1
      have a2 := h2 y
      by_cases e : cL t.f1 b.f1 = 0
      · rw [if_pos e]
        rcases Int.lt_trichotomy t.f0 b.f0 with h | h | h
        · simp [h]
        · simpa [h] using a2
        · have : ¬ t.f0 < b.f0 := by omega
          simp [h, this]
      · rw [if_neg e, if_neg e]
        exact a1
theorem c_refl (x : List Term) : cL x x = 0 := by
  refine tree_ind (P := fun x => cL x x = 0) cL_nn ?_ x
  intro t x h1 h2
  rw [cL_cc, cT_eq, h1, h2]
  simp
theorem c_eq (x : List Term) : ∀ y, cL x y = 0 → x = y := by
  refine tree_ind (P := fun x => ∀ y, cL x y = 0 → x = y) ?_ ?_ x
  · intro y h
    cases y with
    | nil => rfl
    | cons b y => rw [cL_nc] at h; omega
  · intro t x h1 h2 y h
    cases y with
    | nil => rw [cL_cn] at h; omega
    | cons b y =>
      rw [cL_cc, cT_eq] at h
      by_cases e : cL t.f1 b.f1 = 0
      · have e1 := h1 _ e
        rw [if_pos e] at h
        have : t.f0 = b.f0 := by
          apply Classical.byContradiction
          intro hc
          rcases Int.lt_or_gt_of_ne hc with hl | hl
          · simp [hl] at h
          · have : ¬ t.f0 < b.f0 := by omega
            simp [hl, this] at h
        have h3 : cL x y = 0 := by simpa [this] using h
        rw [h2 _ h3]
        cases t; cases b; simp_all
      · rw [if_neg e, if_neg e] at h
        exact absurd h e
theorem c_swap (x : List Term) : ∀ y, cL y x = - cL x y := by
  refine tree_ind (P := fun x => ∀ y, cL y x = - cL x y) ?_ ?_ x
  · intro y
    cases y with
    | nil => rw [cL_nn]; omega
    | cons b y => rw [cL_nc, cL_cn]; omega
  · intro t x h1 h2 y
    cases y with
    | nil => rw [cL_cn, cL_nc]
    | cons b y =>
      rw [cL_cc, cL_cc, cT_eq, cT_eq, h1 b.f1, h2 y]
      by_cases e : cL t.f1 b.f1 = 0
      · rw [if_pos (show - cL t.f1 b.f1 = 0 by omega), if_pos e]
        rcases Int.lt_trichotomy t.f0 b.f0 with h | h | h
        · have : ¬ b.f0 < t.f0 := by omega
          simp [h, this]
        · simp [h]
        · have : ¬ t.f0 < b.f0 := by omega
          simp [h, this]
      · rw [if_neg (show ¬ - cL t.f1 b.f1 = 0 by omega), if_neg e, if_neg (show ¬ - cL t.f1 b.f1 = 0 by omega), if_neg e]
/-- Less. -/
def Lt (x y : List Term) : Prop := cL x y = -1
theorem lt_cc {a b : Term} {x y : List Term} : Lt (a :: x) (b :: y) ↔ Lt a.f1 b.f1 ∨ (a.f1 = b.f1 ∧ (a.f0 < b.f0 ∨ (a.f0 = b.f0 ∧ Lt x y))) := by
  unfold Lt
  rw [cL_cc, cT_eq]
  by_cases e : cL a.f1 b.f1 = 0
  · have e1 := c_eq _ _ e
    rw [if_pos e]
    rcases Int.lt_trichotomy a.f0 b.f0 with h | h | h
    · simp [h, e1]
    · have := c_refl b.f1
      simp [h, e1, this]
    · have h' : ¬ a.f0 < b.f0 := by omega
      have h'' : ¬ a.f0 = b.f0 := by omega
      have := c_refl b.f1
      simp [h, h', h'', e1, this]
  · rw [if_neg e, if_neg e]
    have : a.f1 ≠ b.f1 := fun h => e (by rw [h]; exact c_refl _)
    simp [this]
theorem lt_irrefl (x : List Term) : ¬ Lt x x := by unfold Lt; rw [c_refl]; omega
theorem lt_trans (x : List Term) : ∀ y z, Lt x y → Lt y z → Lt x z := by
  refine tree_ind (P := fun x => ∀ y z, Lt x y → Lt y z → Lt x z) ?_ ?_ x
  · intro y z h1 h2
    cases z with
    | nil => cases y with
      | nil => exact h2
      | cons b y => unfold Lt at h2; rw [cL_cn] at h2; omega
    | cons c z => exact cL_nc _ _
  · intro t x i1 i2 y z h1 h2
    cases y with
    | nil => unfold Lt at h1; rw [cL_cn] at h1; omega
    | cons b y =>
      cases z with
      | nil => unfold Lt at h2; rw [cL_cn] at h2; omega
      | cons c z =>
        rw [lt_cc] at h1 h2 ⊢
        rcases h1 with h1 | ⟨h1, h1'⟩
        · rcases h2 with h2 | ⟨h2, _⟩
          · exact .inl (i1 _ _ h1 h2)
          · exact .inl (by rw [← h2]; exact h1)
        · rcases h2 with h2 | ⟨h2, h2'⟩
          · exact .inl (by rw [h1]; exact h2)
          · refine .inr ⟨h1.trans h2, ?_⟩
            rcases h1' with h1' | ⟨h1', h3⟩
            · rcases h2' with h2' | ⟨h2', h4⟩ <;> exact .inl (by omega)
            · rcases h2' with h2' | ⟨h2', h4⟩
              · exact .inl (by omega)
              · exact .inr ⟨by omega, i2 _ _ h3 h4⟩
theorem lt_asymm {x y : List Term} (h : Lt x y) : ¬ Lt y x := fun h2 => lt_irrefl x (lt_trans _ _ _ h h2)
theorem c_lt {x y : List Term} : cL x y = -1 ↔ Lt x y := Iff.rfl
theorem c_gt {x y : List Term} : cL x y = 1 ↔ Lt y x := by unfold Lt; rw [c_swap x y]; omega
theorem c_zero {x y : List Term} : cL x y = 0 ↔ x = y := ⟨c_eq x y, fun h => by rw [h]; exact c_refl _⟩
theorem c_cases (x y : List Term) : (cL x y = -1 ∧ Lt x y) ∨ (cL x y = 0 ∧ x = y) ∨ (cL x y = 1 ∧ Lt y x) := by
  rcases c_range x y with h | h | h
  · exact .inl ⟨h, h⟩
  · exact .inr (.inl ⟨h, c_eq _ _ h⟩)
  · exact .inr (.inr ⟨h, c_gt.1 h⟩)
theorem not_lt_nil (x : List Term) : ¬ Lt x [] := by
  unfold Lt
  cases x with
  | nil => rw [cL_nn]; omega
  | cons t x => rw [cL_cn]; omega
theorem nil_lt (t : Term) (x : List Term) : Lt [] (t :: x) := cL_nc _ _
/-! Ordinals in normal form. -/
mutual
def vT : Term → Prop
  | ⟨c, e⟩ => 1 ≤ c ∧ vL e
def vL : List Term → Prop
  | [] => True
  | t :: x => vT t ∧ (∀ u ∈ x, Lt u.f1 t.f1) ∧ vL x
end
theorem vT_eq (t : Term) : vT t ↔ 1 ≤ t.f0 ∧ vL t.f1 := by cases t; rw [vT]
theorem vL_nil : vL [] := by rw [vL]; trivial
theorem vL_cons (t : Term) (x : List Term) : vL (t :: x) ↔ (1 ≤ t.f0 ∧ vL t.f1) ∧ (∀ u ∈ x, Lt u.f1 t.f1) ∧ vL x := by rw [vL, vT_eq]
theorem vL_one (t : Term) : vL [t] ↔ 1 ≤ t.f0 ∧ vL t.f1 := by
  rw [vL_cons]
  exact ⟨fun h => h.1, fun h => ⟨h, (by intro u hu; cases hu), vL_nil⟩⟩
theorem vL_app (x y : List Term) : vL (x ++ y) ↔ vL x ∧ vL y ∧ (∀ t ∈ x, ∀ u ∈ y, Lt u.f1 t.f1) := by
  induction x with
  | nil => simp [vL_nil]
  | cons t x ih =>
    rw [List.cons_append, vL_cons, vL_cons, ih]
    constructor
    · rintro ⟨a, b, c, d, e⟩
      exact ⟨⟨a, fun u hu => b u (List.mem_append_left _ hu), c⟩, d, fun s hs u hu => by
        rcases List.mem_cons.1 hs with h | h
        · rw [h]; exact b u (List.mem_append_right _ hu)
        · exact e s h u hu⟩
    · rintro ⟨⟨a, b, c⟩, d, e⟩
      exact ⟨a, fun u hu => by
        rcases List.mem_append.1 hu with h | h
        · exact b u h
        · exact e t List.mem_cons_self u h, c, d, fun s hs u hu => e s (List.mem_cons_of_mem _ hs) u hu⟩
theorem vL_mem {x : List Term} (h : vL x) {t : Term} (ht : t ∈ x) : 1 ≤ t.f0 ∧ vL t.f1 := by
  induction x with
  | nil => cases ht
  | cons u x ih =>
    rw [vL_cons] at h
    rcases List.mem_cons.1 ht with h1 | h1
    · rw [h1]; exact h.1
    · exact ih h.2.2 h1
/-! Trees read off rows. -/
def pv (p : Option (List Term)) (e : List Term) : Bool := match p with
  | none => false
  | some q => decide (cL e q ≥ 0)
def tO : Nat → Nat → Option (List Term) → List Int → Option (List Term × List Int)
  | _, 0, _, l => some ([], l)
  | f + 1, n + 1, p, c :: m :: l => if c < 1 ∨ c > 9999 ∨ m < 0 ∨ m > 60 then none else match tO f m.toNat none l with
    | none => none
    | some (e, r) => if pv p e = true then none else match tO f n (some e) r with
      | none => none
      | some (x, r') => some (⟨c, e⟩ :: x, r')
  | _, _ + 1, _, _ => none
theorem tO_sound : ∀ (f n : Nat) (p : Option (List Term)) (l : List Int) {x : List Term} {r : List Int}, tO f n p l = some (x, r) →
    x.length = n ∧ l = fL x ++ r ∧ vL x ∧ mL x ≤ 9999 ∧ ∀ q, p = some q → ∀ t ∈ x, Lt t.f1 q
  | f, 0, p, l, x, r, h => by
    unfold tO at h
    simp only [Option.some.injEq, Prod.mk.injEq] at h
    obtain ⟨rfl, rfl⟩ := h
    exact ⟨rfl, by rw [fL_nil]; rfl, vL_nil, by rw [mL_nil]; omega, fun q _ t ht => by cases ht⟩
  | 0, n + 1, p, l, x, r, h => by cases l with
    | nil => simp [tO] at h
    | cons c l => cases l <;> simp [tO] at h
  | f + 1, n + 1, p, [], x, r, h => by simp [tO] at h
  | f + 1, n + 1, p, [c], x, r, h => by simp [tO] at h
  | f + 1, n + 1, p, c :: m :: l, x, r, h => by
    rw [tO] at h
    split at h
    · cases h
    · rename_i hb
      split at h
      · cases h
      · rename_i e r1 h1
        split at h
        · cases h
        · rename_i hq
          split at h
          · cases h
          · rename_i x' r2 h2
            simp only [Option.some.injEq, Prod.mk.injEq] at h
            obtain ⟨rfl, rfl⟩ := h
            obtain ⟨a1, a2, a3, a4, a5⟩ := tO_sound f _ _ l h1
            obtain ⟨b1, b2, b3, b4, b5⟩ := tO_sound f n _ r1 h2
            have hm : m = (e.length : Int) := by omega
            refine ⟨by simp [b1], ?_, ?_, ?_, ?_⟩
            · rw [fL_cons, a2, b2, hm]
              simp [row]
            · rw [vL_cons]
              exact ⟨⟨by show 1 ≤ c; omega, a3⟩, b5 e rfl, b3⟩
            · rw [mL_cons]
              show max (max c (mL e)) (mL x') ≤ 9999
              omega
            · intro q hp t ht
              subst hp
              have hlt : Lt e q := by
                have := c_range e q
                unfold Lt
                simp only [pv, decide_eq_true_eq] at hq
                omega
              rcases List.mem_cons.1 ht with h | h
              · rw [h]; exact hlt
              · exact lt_trans _ _ _ (b5 e rfl t h) hlt
theorem tO_complete : ∀ (f : Nat) (x : List Term) (p : Option (List Term)) (r : List Int), vL x → mL x ≤ 9999 → size x ≤ 61 → (∀ q, p = some q → ∀ t ∈ x, Lt t.f1 q) → (fL x).length ≤ f → tO f x.length p (fL x ++ r) = some (x, r)
  | f, [], p, r, _, _, _, _, _ => by simp [fL_nil, tO]
  | 0, t :: x, p, r, _, _, _, _, h => by rw [fL_cons] at h; simp at h
  | f + 1, t :: x, p, r, hv, hm, hs, hp, h => by
    rw [vL_cons] at hv
    rw [mL_cons] at hm
    rw [size_cons] at hs
    rw [fL_cons] at h ⊢
    have hz := size_pos x
    have hz2 := size_len t.f1
    have hz3 := size_eq t.f1
    have hz4 := size_eq x
    rw [List.length_cons, List.length_append] at h
    have hr : (row t.f1).length = size t.f1 := rfl
    simp only [row, List.cons_append, List.length_cons, List.append_assoc]
    rw [tO, if_neg (by omega), Int.toNat_natCast, tO_complete f t.f1 none (fL x ++ r) hv.1.2 (by omega) (by omega) (fun q h => by cases h) (by omega)]
    have hpp : ¬ pv p t.f1 = true := by
      cases p with
      | none => exact Bool.false_ne_true
      | some q =>
        have := hp q rfl t List.mem_cons_self
        unfold Lt at this
        simp only [pv, decide_eq_true_eq]
        omega
    simp only []
    rw [if_neg hpp, tO_complete f x (some t.f1) r hv.2.2 (by omega) (by omega) (fun q h => by cases h; exact hv.2.1) (by omega)]
    cases t
    rfl
theorem tO_fuel : ∀ (f g n : Nat) (p : Option (List Term)) (l : List Int), l.length ≤ f → l.length ≤ g → tO f n p l = tO g n p l
  | f, g, 0, p, l, _, _ => by simp [tO]
  | 0, 0, n + 1, p, l, _, _ => rfl
  | 0, g + 1, n + 1, p, l, h, _ => by
    obtain rfl : l = [] := List.eq_nil_of_length_eq_zero (by omega)
    simp [tO]
  | f + 1, 0, n + 1, p, l, _, h => by
    obtain rfl : l = [] := List.eq_nil_of_length_eq_zero (by omega)
    simp [tO]
  | f + 1, g + 1, n + 1, p, [], _, _ => by simp [tO]
  | f + 1, g + 1, n + 1, p, [c], _, _ => by simp [tO]
  | f + 1, g + 1, n + 1, p, c :: m :: l, hf, hg => by
    simp only [List.length_cons] at hf hg
    rw [tO, tO]
    split
    · rfl
    · rw [tO_fuel f g m.toNat none l (by omega) (by omega)]
      cases h : tO g m.toNat none l with
      | none => rfl
      | some q =>
        obtain ⟨e, r⟩ := q
        have := congrArg List.length (tO_sound g _ _ l h).2.1
        rw [List.length_append] at this
        simp only
        rw [tO_fuel f g n (some e) r (by omega) (by omega)]
def tO1 (l : List Int) : Option (List Term × List Int) := match l with
  | [] => none
  | m :: l' => if m < 0 ∨ m > 60 then none else tO l'.length m.toNat none l'
theorem tO1_sound {l : List Int} {x : List Term} {r : List Int} (h : tO1 l = some (x, r)) : l = row x ++ r ∧ vL x ∧ mL x ≤ 9999 := by
  cases l with
  | nil => simp [tO1] at h
  | cons m l =>
    simp only [tO1] at h
    split at h
    · cases h
    · obtain ⟨a1, a2, a3, a4, _⟩ := tO_sound _ _ _ l h
      refine ⟨?_, a3, a4⟩
      rw [a2, row, a1, List.cons_append]
      congr 1
      omega
theorem tO1_complete {x : List Term} (r : List Int) (hv : vL x) (hm : mL x ≤ 9999) (hs : size x ≤ 61) : tO1 (row x ++ r) = some (x, r) := by
  have := size_len x
  simp only [row, List.cons_append, tO1]
  rw [if_neg (by omega), Int.toNat_natCast]
  exact tO_complete _ x none r hv hm (by omega) (fun q h => by cases h) (by simp)
theorem tO_step {f n : Nat} {p : Option (List Term)} {c : Int} {l : List Int} (hf : l.length ≤ f) : tO (f + 1) (n + 1) p (c :: l) = if c < 1 ∨ c > 9999 then none else match tO1 l with
    | none => none
    | some (e, r) => if pv p e = true then none else match tO r.length n (some e) r with
      | none => none
      | some (x, r') => some (⟨c, e⟩ :: x, r') := by
  cases l with
  | nil => simp [tO, tO1]
  | cons m l =>
    simp only [List.length_cons] at hf
    rw [tO]
    simp only [tO1]
    by_cases h1 : c < 1 ∨ c > 9999
    · rw [if_pos (by omega), if_pos h1]
    · rw [if_neg h1]
      by_cases h2 : m < 0 ∨ m > 60
      · rw [if_pos (by omega), if_pos h2]
      · rw [if_neg (by omega), if_neg h2, tO_fuel f l.length m.toNat none l (by omega) (by omega)]
        cases h : tO l.length m.toNat none l with
        | none => rfl
        | some q =>
          obtain ⟨e, r⟩ := q
          have := congrArg List.length (tO_sound _ _ _ l h).2.1
          rw [List.length_append] at this
          simp only
          rw [tO_fuel f r.length n (some e) r (by omega) (by omega)]
/-- A valid row. -/
def OV (r : List Int) : Bool := decide (1 ≤ r.length ∧ r.length ≤ 60) && match tO1 r with
  | some (_, r') => r'.isEmpty
  | none => false
/-- A tree whose row is valid. -/
structure Fit (x : List Term) : Prop where
  v : vL x
  m : mL x ≤ 9999
  s : size x ≤ 60
theorem OV_row {x : List Term} (h : vL x) : OV (row x) = decide (mL x ≤ 9999 ∧ size x ≤ 60) := by
  have hz := size_pos x
  have hr : (row x).length = size x := rfl
  by_cases hf : mL x ≤ 9999 ∧ size x ≤ 60
  · rw [decide_eq_true hf]
    unfold OV
    have := tO1_complete [] h hf.1 (by omega)
    rw [List.append_nil] at this
    rw [this, hr, decide_eq_true (by omega)]
    rfl
  · rw [decide_eq_false hf]
    unfold OV
    by_cases hl : size x ≤ 60
    · rw [hr, decide_eq_true (by omega), Bool.true_and]
      cases ht : tO1 (row x) with
      | none => rfl
      | some q =>
        obtain ⟨y, r⟩ := q
        obtain ⟨a1, a2, a3⟩ := tO1_sound ht
        cases r with
        | cons _ _ => rfl
        | nil =>
          exfalso
          rw [List.append_nil] at a1
          have hys : size y = size x := by unfold size; rw [a1]
          have h1 := tO1_complete (x := y) [] a2 a3 (by omega)
          have h2 : mL x ≤ 9999 := by
            -- rows tell trees
            have : ∀ (x : List Term) (y : List Term) (r s : List Int), row x ++ r = row y ++ s → x = y ∧ r = s := by
              intro x
              refine tree_ind (P := fun x => ∀ y r s, row x ++ r = row y ++ s → x = y ∧ r = s) ?_ ?_ x
              · intro y r s h
                cases y with
                | nil => exact ⟨rfl, by simpa [row, fL_nil] using h⟩
                | cons b y => simp only [row, List.length_nil, List.length_cons, List.cons_append, List.cons.injEq] at h; omega
              · intro t x i1 i2 y r s h
                cases y with
                | nil => simp only [row, List.length_nil, List.length_cons, List.cons_append, List.cons.injEq] at h; omega
                | cons b y =>
                  simp only [row, List.length_cons, List.cons_append, List.cons.injEq, fL_cons, List.append_assoc] at h
                  obtain ⟨h0, h1, h2⟩ := h
                  have h3 := i1 b.f1 (fL x ++ r) (fL y ++ s) (by simp only [row, List.cons_append]; rw [h2.1, h2.2])
                  have h4 := i2 y r s (by simp only [row, List.cons_append]; rw [h3.2]; congr 1; omega)
                  refine ⟨?_, h4.2⟩
                  cases t; cases b; simp_all
            have := (this x y [] [] (by simpa using a1)).1
            rw [this]; exact a3
          exact hf ⟨h2, hl⟩
    · rw [hr, decide_eq_false (by omega), Bool.false_and]
theorem OV_tree {r : List Int} (h : OV r = true) : ∃ x, r = row x ∧ Fit x ∧ tO1 r = some (x, []) := by
  unfold OV at h
  rw [Bool.and_eq_true, decide_eq_true_eq] at h
  obtain ⟨h1, h2⟩ := h
  cases ht : tO1 r with
  | none => rw [ht] at h2; cases h2
  | some q =>
    obtain ⟨x, r'⟩ := q
    rw [ht] at h2
    obtain ⟨a1, a2, a3⟩ := tO1_sound ht
    cases r' with
    | cons _ _ => cases h2
    | nil =>
      rw [List.append_nil] at a1
      exact ⟨x, a1, ⟨a2, a3, by unfold size; rw [← a1]; exact h1.2⟩, rfl⟩
theorem Fit.ov {x : List Term} (h : Fit x) : OV (row x) = true := by rw [OV_row h.v]; exact decide_eq_true ⟨h.m, h.s⟩
/-! Natural sums. -/
def natO : List Term → List Term → List Term
  | [], y => y
  | a :: x, [] => a :: x
  | a :: x, b :: y => if cL a.f1 b.f1 = 1 then a :: natO x (b :: y) else if cL a.f1 b.f1 = -1 then b :: natO (a :: x) y else ⟨a.f0 + b.f0, a.f1⟩ :: natO x y
termination_by x y => x.length + y.length
theorem nat_nl (y : List Term) : natO [] y = y := by rw [natO]
theorem nat_nr (x : List Term) : natO x [] = x := by cases x <;> rw [natO]
/-- How often an exponent comes. -/
def co : List Term → List Term → Int
  | [], _ => 0
  | t :: x, e => (if cL t.f1 e = 0 then t.f0 else 0) + co x e
theorem co_app (x y e : List Term) : co (x ++ y) e = co x e + co y e := by
  induction x with
  | nil => simp [co]
  | cons t x ih => simp only [List.cons_append, co, ih]; omega
/-- How the two first terms lie decides. -/
theorem nat_ind {P : List Term → List Term → Prop} (h1 : ∀ y, P [] y) (h2 : ∀ x, P x []) (h3 : ∀ a x b y, Lt b.f1 a.f1 → P x (b :: y) → P (a :: x) (b :: y)) (h4 : ∀ a x b y, Lt a.f1 b.f1 → P (a :: x) y → P (a :: x) (b :: y)) (h5 : ∀ a x b y, a.f1 = b.f1 → P x y → P (a :: x) (b :: y)) : ∀ x y, P x y
  | [], y => h1 y
  | a :: x, [] => h2 _
  | a :: x, b :: y => by
    rcases c_cases a.f1 b.f1 with ⟨_, h⟩ | ⟨_, h⟩ | ⟨_, h⟩
    · exact h4 a x b y h (nat_ind h1 h2 h3 h4 h5 (a :: x) y)
    · exact h5 a x b y h (nat_ind h1 h2 h3 h4 h5 x y)
    · exact h3 a x b y h (nat_ind h1 h2 h3 h4 h5 x (b :: y))
termination_by x y => x.length + y.length
theorem nat_gt {a b : Term} (x y : List Term) (h : Lt b.f1 a.f1) : natO (a :: x) (b :: y) = a :: natO x (b :: y) := by
  rw [natO, if_pos (c_gt.2 h)]
theorem nat_lt {a b : Term} (x y : List Term) (h : Lt a.f1 b.f1) : natO (a :: x) (b :: y) = b :: natO (a :: x) y := by
  have := c_lt.2 h
  rw [natO, if_neg (by omega), if_pos this]
theorem nat_eq {a b : Term} (x y : List Term) (h : a.f1 = b.f1) : natO (a :: x) (b :: y) = ⟨a.f0 + b.f0, a.f1⟩ :: natO x y := by
  have := c_zero.2 h
  rw [natO, if_neg (by omega), if_neg (by omega)]
theorem co_nat (x y e : List Term) : co (natO x y) e = co x e + co y e := by
  refine nat_ind (P := fun x y => co (natO x y) e = co x e + co y e) ?_ ?_ ?_ ?_ ?_ x y
  · intro y; rw [nat_nl]; simp [co]
  · intro x; rw [nat_nr]; simp [co]
  · intro a x b y h ih; rw [nat_gt x y h]; simp only [co] at ih ⊢; omega
  · intro a x b y h ih; rw [nat_lt x y h]; simp only [co] at ih ⊢; omega
  · intro a x b y h ih
    rw [nat_eq x y h]
    simp only [co] at ih ⊢
    rw [ih, h]
    split <;> omega
theorem nat_mem (x y : List Term) : ∀ t ∈ natO x y, ∃ u, (u ∈ x ∨ u ∈ y) ∧ u.f1 = t.f1 := by
  refine nat_ind (P := fun x y => ∀ t ∈ natO x y, ∃ u, (u ∈ x ∨ u ∈ y) ∧ u.f1 = t.f1) ?_ ?_ ?_ ?_ ?_ x y
  · intro y t ht; rw [nat_nl] at ht; exact ⟨t, .inr ht, rfl⟩
  · intro x t ht; rw [nat_nr] at ht; exact ⟨t, .inl ht, rfl⟩
  · intro a x b y h ih t ht
    rw [nat_gt x y h] at ht
    rcases List.mem_cons.1 ht with h1 | h1
    · exact ⟨a, .inl List.mem_cons_self, by rw [h1]⟩
    · obtain ⟨u, hu, he⟩ := ih t h1
      exact ⟨u, hu.imp (List.mem_cons_of_mem _) id, he⟩
  · intro a x b y h ih t ht
    rw [nat_lt x y h] at ht
    rcases List.mem_cons.1 ht with h1 | h1
    · exact ⟨b, .inr List.mem_cons_self, by rw [h1]⟩
    · obtain ⟨u, hu, he⟩ := ih t h1
      exact ⟨u, hu.imp id (List.mem_cons_of_mem _), he⟩
  · intro a x b y h ih t ht
    rw [nat_eq x y h] at ht
    rcases List.mem_cons.1 ht with h1 | h1
    · exact ⟨a, .inl List.mem_cons_self, by rw [h1]⟩
    · obtain ⟨u, hu, he⟩ := ih t h1
      exact ⟨u, hu.imp (List.mem_cons_of_mem _) (List.mem_cons_of_mem _), he⟩
theorem nat_v (x y : List Term) : vL x → vL y → vL (natO x y) := by
  refine nat_ind (P := fun x y => vL x → vL y → vL (natO x y)) ?_ ?_ ?_ ?_ ?_ x y
  · intro y _ h; rw [nat_nl]; exact h
  · intro x h _; rw [nat_nr]; exact h
  · intro a x b y h ih hx hy
    rw [nat_gt x y h]
    rw [vL_cons] at hx ⊢
    refine ⟨hx.1, fun t ht => ?_, ih hx.2.2 hy⟩
    obtain ⟨u, hu, he⟩ := nat_mem _ _ t ht
    rw [← he]
    rcases hu with hu | hu
    · exact hx.2.1 u hu
    · rw [vL_cons] at hy
      rcases List.mem_cons.1 hu with hu | hu
      · rw [hu]; exact h
      · exact lt_trans _ _ _ (hy.2.1 u hu) h
  · intro a x b y h ih hx hy
    rw [nat_lt x y h]
    rw [vL_cons] at hy ⊢
    refine ⟨hy.1, fun t ht => ?_, ih hx hy.2.2⟩
    obtain ⟨u, hu, he⟩ := nat_mem _ _ t ht
    rw [← he]
    rcases hu with hu | hu
    · rw [vL_cons] at hx
      rcases List.mem_cons.1 hu with hu | hu
      · rw [hu]; exact h
      · exact lt_trans _ _ _ (hx.2.1 u hu) h
    · exact hy.2.1 u hu
  · intro a x b y h ih hx hy
    rw [nat_eq x y h]
    rw [vL_cons] at hx hy ⊢
    refine ⟨⟨by show 1 ≤ a.f0 + b.f0; omega, hx.1.2⟩, fun t ht => ?_, ih hx.2.2 hy.2.2⟩
    obtain ⟨u, hu, he⟩ := nat_mem _ _ t ht
    rw [← he]
    rcases hu with hu | hu
    · exact hx.2.1 u hu
    · show Lt u.f1 a.f1
      rw [h]; exact hy.2.1 u hu
theorem nat_size (x y : List Term) : size x ≤ size (natO x y) ∧ size y ≤ size (natO x y) ∧ size (natO x y) + 1 ≤ size x + size y := by
  refine nat_ind (P := fun x y => size x ≤ size (natO x y) ∧ size y ≤ size (natO x y) ∧ size (natO x y) + 1 ≤ size x + size y) ?_ ?_ ?_ ?_ ?_ x y
  · intro y; rw [nat_nl, size_nil]; have := size_pos y; omega
  · intro x; rw [nat_nr, size_nil]; have := size_pos x; omega
  · intro a x b y h ih; rw [nat_gt x y h, size_cons, size_cons]; have := size_cons b y; omega
  · intro a x b y h ih; rw [nat_lt x y h, size_cons, size_cons]; have := size_cons a x; have := size_cons b y; rw [size_cons] at ih; omega
  · intro a x b y h ih; rw [nat_eq x y h, size_cons, size_cons, size_cons, h]; omega
theorem nat_m (x y : List Term) : vL x → vL y → mL x ≤ mL (natO x y) ∧ mL y ≤ mL (natO x y) ∧ mL (natO x y) ≤ mL x + mL y := by
  refine nat_ind (P := fun x y => vL x → vL y → mL x ≤ mL (natO x y) ∧ mL y ≤ mL (natO x y) ∧ mL (natO x y) ≤ mL x + mL y) ?_ ?_ ?_ ?_ ?_ x y
  · intro y _ _; rw [nat_nl, mL_nil]; have := mL_pos y; omega
  · intro x _ _; rw [nat_nr, mL_nil]; have := mL_pos x; omega
  · intro a x b y h ih hx hy; rw [nat_gt x y h, mL_cons, mL_cons]; rw [vL_cons] at hx; have := ih hx.2.2 hy; have := mL_pos (b :: y); have := mL_pos a.f1; omega
  · intro a x b y h ih hx hy; rw [nat_lt x y h, mL_cons b, mL_cons b]; rw [vL_cons] at hy; have := ih hx hy.2.2; have := mL_pos (a :: x); have := mL_pos b.f1; omega
  · intro a x b y h ih hx hy
    rw [nat_eq x y h, mL_cons, mL_cons, mL_cons, ← h]
    rw [vL_cons] at hx hy
    have := ih hx.2.2 hy.2.2
    have := mL_pos a.f1
    show max (max a.f0 (mL a.f1)) (mL x) ≤ max (max (a.f0 + b.f0) (mL a.f1)) (mL (natO x y)) ∧ max (max b.f0 (mL a.f1)) (mL y) ≤ max (max (a.f0 + b.f0) (mL a.f1)) (mL (natO x y)) ∧ max (max (a.f0 + b.f0) (mL a.f1)) (mL (natO x y)) ≤ max (max a.f0 (mL a.f1)) (mL x) + max (max b.f0 (mL a.f1)) (mL y)
    omega
theorem co_zero {x e : List Term} (h : ∀ t ∈ x, t.f1 ≠ e) : co x e = 0 := by
  induction x with
  | nil => rfl
  | cons t x ih =>
    rw [co, ih (fun u hu => h u (List.mem_cons_of_mem _ hu)), if_neg (fun hc => h t List.mem_cons_self (c_eq _ _ hc))]
    rfl
theorem co_pos {x : List Term} (h : vL x) (e : List Term) : 0 ≤ co x e := by
  induction x with
  | nil => exact Int.le_refl _
  | cons t x ih =>
    rw [vL_cons] at h
    have := ih h.2.2
    rw [co]
    split <;> omega
theorem co_ne {x e : List Term} (h : co x e ≠ 0) : ∃ t ∈ x, t.f1 = e := by
  apply Classical.byContradiction
  intro hc
  exact h (co_zero fun t ht he => hc ⟨t, ht, he⟩)
theorem co_head {t : Term} {x : List Term} (h : vL (t :: x)) : co (t :: x) t.f1 = t.f0 := by
  rw [vL_cons] at h
  rw [co, if_pos (c_refl _), co_zero fun u hu he => lt_irrefl t.f1 (by have := h.2.1 u hu; rwa [he] at this)]
  omega
theorem co_above {t : Term} {x e : List Term} (h : vL (t :: x)) (he : Lt t.f1 e) : co (t :: x) e = 0 := by
  rw [vL_cons] at h
  refine co_zero fun u hu hc => ?_
  rcases List.mem_cons.1 hu with hu | hu
  · rw [hu] at hc; rw [hc] at he; exact lt_irrefl _ he
  · have := h.2.1 u hu
    rw [hc] at this
    exact lt_asymm he this
theorem lt_co1 : ∀ x y, vL x → vL y → Lt x y → ∃ e, co x e < co y e ∧ ∀ f, Lt e f → co x f = co y f
  | x, [], _, _, h => absurd h (not_lt_nil x)
  | [], b :: y, _, hy, _ => ⟨b.f1, by
      rw [co_head hy, co]
      rw [vL_cons] at hy
      omega, fun f hf => by rw [co_above hy hf]; rfl⟩
  | a :: x, b :: y, hx, hy, h => by
    rcases lt_cc.1 h with h | ⟨h1, h | ⟨h2, h3⟩⟩
    · refine ⟨b.f1, ?_, fun f hf => by rw [co_above hy hf, co_above hx (lt_trans _ _ _ h hf)]⟩
      rw [co_head hy, co_above hx h]
      rw [vL_cons] at hy
      omega
    · refine ⟨b.f1, ?_, fun f hf => by rw [co_above hy hf, co_above hx (by rw [h1]; exact hf)]⟩
      rw [co_head hy, ← h1, co_head hx]
      exact h
    · have hx' := hx
      have hy' := hy
      rw [vL_cons] at hx hy
      obtain ⟨e, e1, e2⟩ := lt_co1 x y hx.2.2 hy.2.2 h3
      refine ⟨e, by simp only [co, h1, h2]; omega, fun f hf => by simp only [co, h1, h2, e2 f hf]⟩
theorem co_lt {x y : List Term} (hx : vL x) (hy : vL y) {e : List Term} (h1 : co x e < co y e) (h2 : ∀ f, Lt e f → co x f = co y f) : Lt x y := by
  rcases c_cases x y with ⟨_, h⟩ | ⟨_, h⟩ | ⟨_, h⟩
  · exact h
  · rw [h] at h1; omega
  · exfalso
    obtain ⟨f, f1, f2⟩ := lt_co1 y x hy hx h
    rcases c_cases e f with ⟨_, h⟩ | ⟨_, h⟩ | ⟨_, h⟩
    · have := h2 f h; omega
    · rw [h] at h1; omega
    · have := f2 e h; omega
theorem co_ext {x y : List Term} (hx : vL x) (hy : vL y) (h : ∀ e, co x e = co y e) : x = y := by
  rcases c_cases x y with ⟨_, h1⟩ | ⟨_, h1⟩ | ⟨_, h1⟩
  · obtain ⟨e, h2, _⟩ := lt_co1 x y hx hy h1
    have := h e
    omega
  · exact h1
  · obtain ⟨e, h2, _⟩ := lt_co1 y x hy hx h1
    have := h e
    omega
theorem nat_mono {a b c : List Term} (ha : vL a) (hb : vL b) (hc : vL c) (h : Lt a b) : Lt (natO a c) (natO b c) := by
  obtain ⟨e, h1, h2⟩ := lt_co1 a b ha hb h
  exact co_lt (nat_v _ _ ha hc) (nat_v _ _ hb hc) (e := e) (by rw [co_nat, co_nat]; omega) (fun f hf => by rw [co_nat, co_nat, h2 f hf])
theorem nat_ge {a c : List Term} (ha : vL a) (hc : vL c) : ¬ Lt (natO a c) a := fun h => by
  obtain ⟨e, h1, _⟩ := lt_co1 _ _ (nat_v _ _ ha hc) ha h
  have := co_pos hc e
  rw [co_nat] at h1
  omega
theorem nat_comm {a b : List Term} (ha : vL a) (hb : vL b) : natO a b = natO b a :=
  co_ext (nat_v _ _ ha hb) (nat_v _ _ hb ha) fun e => by rw [co_nat, co_nat]; omega
theorem nat_assoc {a b c : List Term} (ha : vL a) (hb : vL b) (hc : vL c) : natO (natO a b) c = natO a (natO b c) :=
  co_ext (nat_v _ _ (nat_v _ _ ha hb) hc) (nat_v _ _ ha (nat_v _ _ hb hc)) fun e => by simp only [co_nat]; omega
/-! One less, and steps down. -/
def bef : List Term → List Term
  | [] => []
  | [t] => if t.f0 = 1 then [] else [⟨t.f0 - 1, t.f1⟩]
  | t :: u :: x => t :: bef (u :: x)
def kd : List Term → Int
  | [] => 0
  | [t] => if t.f1.isEmpty then 1 else 2
  | _ :: u :: x => kd (u :: x)
def stp (n : Int) : List Term → List Term
  | [] => []
  | [⟨c, e⟩] => (if c = 1 then [] else [⟨c - 1, e⟩]) ++ (if e.isEmpty then [] else if kd e = 2 then [⟨1, stp n e⟩] else if n > 0 then [⟨n, bef e⟩] else [])
  | t :: u :: x => t :: stp n (u :: x)
termination_by x => SizeOf.sizeOf x
theorem bef_app (l : List Term) (t : Term) : bef (l ++ [t]) = l ++ bef [t] := by
  induction l with
  | nil => rfl
  | cons s l ih =>
    cases l with
    | nil => rfl
    | cons u l => exact congrArg (s :: ·) ih
theorem kd_app (l : List Term) (t : Term) : kd (l ++ [t]) = if t.f1.isEmpty then 1 else 2 := by
  induction l with
  | nil => rfl
  | cons s l ih =>
    cases l with
    | nil => rfl
    | cons u l => simp only [List.cons_append] at ih ⊢; rw [kd, ih]
theorem stp_nil (n : Int) : stp n [] = [] := by rw [stp]
theorem stp_one (n : Int) (t : Term) : stp n [t] = bef [t] ++ (if t.f1.isEmpty then [] else if kd t.f1 = 2 then [⟨1, stp n t.f1⟩] else if n > 0 then [⟨n, bef t.f1⟩] else []) := by
  cases t
  rw [stp]
  rfl
theorem stp_app (n : Int) (l : List Term) (t : Term) : stp n (l ++ [t]) = l ++ stp n [t] := by
  induction l with
  | nil => rfl
  | cons s l ih =>
    cases l with
    | nil => simp only [List.cons_append, List.nil_append]; rw [stp]
    | cons u l => simp only [List.cons_append] at ih ⊢; rw [stp, ih]
theorem last_cases {P : List Term → Prop} (h0 : P []) (h1 : ∀ l t, P (l ++ [t])) (x : List Term) : P x := by
  rcases List.eq_nil_or_concat x with h | ⟨l, t, h⟩
  · rw [h]; exact h0
  · rw [h, List.concat_eq_append]; exact h1 l t
theorem kd_zero {x : List Term} : kd x = 0 ↔ x = [] := by
  refine last_cases (P := fun x => kd x = 0 ↔ x = []) (by simp [kd]) (fun l t => ?_) x
  rw [kd_app]
  constructor
  · intro h; split at h <;> omega
  · intro h; simp at h
theorem kd_range (x : List Term) : kd x = 0 ∨ kd x = 1 ∨ kd x = 2 := by
  refine last_cases (P := fun x => kd x = 0 ∨ kd x = 1 ∨ kd x = 2) (.inl rfl) (fun l t => ?_) x
  rw [kd_app]
  split <;> omega
theorem stp_bef {n : Int} {x : List Term} (h : kd x ≠ 2) : stp n x = bef x := by
  refine last_cases (P := fun x => kd x ≠ 2 → stp n x = bef x) (fun _ => stp_nil n) (fun l t h => ?_) x h
  rw [kd_app] at h
  rw [stp_app, bef_app, stp_one]
  have : t.f1.isEmpty = true := by
    cases hc : t.f1.isEmpty
    · rw [hc] at h; simp at h
    · rfl
  rw [if_pos this, List.append_nil]
theorem lt_app (l x y : List Term) : Lt (l ++ x) (l ++ y) ↔ Lt x y := by
  induction l with
  | nil => exact Iff.rfl
  | cons t l ih =>
    simp only [List.cons_append]
    rw [lt_cc]
    constructor
    · rintro (h | ⟨_, h | ⟨_, h⟩⟩)
      · exact absurd h (lt_irrefl _)
      · omega
      · exact ih.1 h
    · intro h; exact .inr ⟨rfl, .inr ⟨rfl, ih.2 h⟩⟩
theorem bef_lt (x : List Term) (h : x ≠ []) (hv : vL x) : Lt (bef x) x := by
  refine last_cases (P := fun x => x ≠ [] → vL x → Lt (bef x) x) (fun h _ => absurd rfl h) (fun l t _ hv => ?_) x h hv
  rw [bef_app, lt_app, bef]
  split
  · exact nil_lt _ _
  · rw [lt_cc]; exact .inr ⟨rfl, .inl (by show t.f0 - 1 < t.f0; omega)⟩
theorem bef_v (x : List Term) (hv : vL x) : vL (bef x) := by
  refine last_cases (P := fun x => vL x → vL (bef x)) (fun _ => vL_nil) (fun l t hv => ?_) x hv
  rw [bef_app]
  rw [vL_app] at hv ⊢
  obtain ⟨h1, h2, h3⟩ := hv
  rw [vL_cons] at h2
  rw [bef]
  split
  · exact ⟨h1, vL_nil, fun t _ u hu => by cases hu⟩
  · refine ⟨h1, ?_, fun s hs u hu => ?_⟩
    · rw [vL_one]; exact ⟨by show 1 ≤ t.f0 - 1; omega, h2.1.2⟩
    · rw [List.mem_singleton.1 hu]; exact h3 s hs t List.mem_cons_self
theorem stp_one_v (n : Int) (t : Term) (hn : 0 ≤ n) (ht : 1 ≤ t.f0 ∧ vL t.f1) (ih : t.f1 ≠ [] → vL (stp n t.f1) ∧ Lt (stp n t.f1) t.f1) : vL (stp n [t]) ∧ Lt (stp n [t]) [t] ∧ ∀ u ∈ stp n [t], u.f1 = t.f1 ∨ Lt u.f1 t.f1 := by
  have hb : vL (bef [t]) := bef_v _ ((vL_one t).2 ht)
  have hm : ∀ u ∈ bef [t], u.f1 = t.f1 := by
    intro u hu
    rw [bef] at hu
    split at hu
    · cases hu
    · rw [List.mem_singleton.1 hu]
  -- what is added has a less exponent
  have key : ∀ s : Term, 1 ≤ s.f0 → vL s.f1 → Lt s.f1 t.f1 → vL (bef [t] ++ [s]) ∧ Lt (bef [t] ++ [s]) [t] ∧ ∀ u ∈ bef [t] ++ [s], u.f1 = t.f1 ∨ Lt u.f1 t.f1 := by
    intro s s1 s2 s3
    refine ⟨?_, ?_, ?_⟩
    · rw [vL_app]
      refine ⟨hb, (vL_one s).2 ⟨s1, s2⟩, fun r hr u hu => ?_⟩
      rw [List.mem_singleton.1 hu, hm r hr]; exact s3
    · rw [bef]
      split
      · rw [List.nil_append, lt_cc]; exact .inl s3
      · rw [List.cons_append, lt_cc]; exact .inr ⟨rfl, .inl (by show t.f0 - 1 < t.f0; omega)⟩
    · intro u hu
      rcases List.mem_append.1 hu with hu | hu
      · exact .inl (hm u hu)
      · rw [List.mem_singleton.1 hu]; exact .inr s3
  have base : vL (bef [t] ++ []) ∧ Lt (bef [t] ++ []) [t] ∧ ∀ u ∈ bef [t] ++ [], u.f1 = t.f1 ∨ Lt u.f1 t.f1 := by
    rw [List.append_nil]
    exact ⟨hb, bef_lt _ (by simp) ((vL_one t).2 ht), fun u hu => .inl (hm u hu)⟩
  rw [stp_one]
  split
  · exact base
  · rename_i he
    have hne : t.f1 ≠ [] := fun h => he (by rw [h]; rfl)
    split
    · obtain ⟨i1, i2⟩ := ih hne
      exact key ⟨1, stp n t.f1⟩ (Int.le_refl 1) i1 i2
    · split
      · exact key ⟨n, bef t.f1⟩ (by show 1 ≤ n; omega) (bef_v _ ht.2) (bef_lt _ hne ht.2)
      · exact base
theorem stp_v (n : Int) (hn : 0 ≤ n) (x : List Term) : vL x → vL (stp n x) ∧ (x ≠ [] → Lt (stp n x) x) := by
  have main : ∀ x, (∀ t ∈ x, vL t.f1 → vL (stp n t.f1) ∧ (t.f1 ≠ [] → Lt (stp n t.f1) t.f1)) ∧ (vL x → vL (stp n x) ∧ (x ≠ [] → Lt (stp n x) x)) := by
    intro x
    refine tree_ind (P := fun x => (∀ t ∈ x, vL t.f1 → vL (stp n t.f1) ∧ (t.f1 ≠ [] → Lt (stp n t.f1) t.f1)) ∧ (vL x → vL (stp n x) ∧ (x ≠ [] → Lt (stp n x) x))) ?_ ?_ x
    · exact ⟨(by intro t ht; cases ht), fun _ => ⟨(by rw [stp_nil]; exact vL_nil), fun h => absurd rfl h⟩⟩
    · intro t x i1 i2
      have all : ∀ s ∈ t :: x, vL s.f1 → vL (stp n s.f1) ∧ (s.f1 ≠ [] → Lt (stp n s.f1) s.f1) := by
        intro s hs
        rcases List.mem_cons.1 hs with h | h
        · rw [h]; exact i1.2
        · exact i2.1 s h
      refine ⟨all, ?_⟩
      generalize t :: x = y at all
      refine last_cases (P := fun y => (∀ s ∈ y, vL s.f1 → vL (stp n s.f1) ∧ (s.f1 ≠ [] → Lt (stp n s.f1) s.f1)) → vL y → vL (stp n y) ∧ (y ≠ [] → Lt (stp n y) y)) ?_ ?_ y all
      · exact fun _ _ => ⟨by rw [stp_nil]; exact vL_nil, fun h => absurd rfl h⟩
      · intro l s hs hv
        rw [vL_app] at hv
        obtain ⟨v1, v2, v3⟩ := hv
        rw [vL_cons] at v2
        have hss := hs s (by simp) v2.1.2
        obtain ⟨a1, a2, a3⟩ := stp_one_v n s hn v2.1 (fun h => ⟨hss.1, hss.2 h⟩)
        rw [stp_app, lt_app, vL_app]
        refine ⟨⟨v1, a1, fun r hr u hu => ?_⟩, fun _ => a2⟩
        have := v3 r hr s List.mem_cons_self
        rcases a3 u hu with h | h
        · rw [h]; exact this
        · exact lt_trans _ _ _ h this
  exact (main x).2
/-! What the code makes of trees and their rows. -/
theorem tree_mem {P : List Term → Prop} (h : ∀ x, (∀ t ∈ x, P t.f1) → P x) (x : List Term) : P x := by
  have : (∀ t ∈ x, P t.f1) ∧ P x := by
    refine tree_ind (P := fun x => (∀ t ∈ x, P t.f1) ∧ P x) ⟨(by intro t ht; cases ht), h _ (by intro t ht; cases ht)⟩ ?_ x
    intro t x h1 h2
    have : ∀ s ∈ t :: x, P s.f1 := by
      intro s hs
      rcases List.mem_cons.1 hs with e | e
      · rw [e]; exact h1.2
      · exact h2.1 s e
    exact ⟨this, h _ this⟩
  exact this.2
theorem size_mem {x : List Term} {t : Term} (h : t ∈ x) : size t.f1 + 2 ≤ size x := by
  induction x with
  | nil => cases h
  | cons s x ih =>
    rw [size_cons]
    rcases List.mem_cons.1 h with h | h
    · rw [h]; have := size_pos x; omega
    · have := ih h; omega
theorem cmp_ev (a b : Int) : Ev (fun k => cmp_Compare_int.f k a b) (if a < b then -1 else if a > b then 1 else 0) := by
  have nn : ∀ a : Int, Ev (fun k => cmp_isNaN_int.f k a) false := fun a => ev_succ (fun k => cmp_isNaN_int.f_eq k a) (ev_some.2 (by simp))
  refine ev_succ (fun k => cmp_Compare_int.f_eq k a b) (ev_bind (nn a) (ev_bind (nn b) (ev_bf rfl (ev_bf rfl ?_))))
  by_cases h : a < b
  · rw [if_pos h]; exact ev_dt h (ev_some.2 rfl)
  · rw [if_neg h]
    by_cases h2 : a > b
    · rw [if_pos h2]; exact ev_df h (ev_dt h2 (ev_some.2 rfl))
    · rw [if_neg h2]; exact ev_df h (ev_df h2 (ev_some.2 rfl))
theorem cL_len (x y : List Term) (h : x = [] ∨ y = []) : cL x y = if (x.length : Int) < (y.length : Int) then -1 else if (x.length : Int) > (y.length : Int) then 1 else 0 := by
  rcases h with rfl | rfl
  · cases y with
    | nil => rw [cL_nn]; simp
    | cons b y => rw [cL_nc, if_pos (by simp <;> omega)]
  · cases x with
    | nil => rw [cL_nn]; simp
    | cons b y => rw [cL_cn, if_neg (by simp <;> omega), if_pos (by simp <;> omega)]
theorem compare_ev (x : List Term) : ∀ y, size x ≤ 1000000000 → size y ≤ 1000000000 → Ev (fun k => impl_compare.f k x y) (cL x y) := by
  refine tree_mem (P := fun x => ∀ y, size x ≤ 1000000000 → size y ≤ 1000000000 → Ev (fun k => impl_compare.f k x y) (cL x y)) (fun x ih y hx hy => ?_) x
  have lx := size_len x
  have ly := size_len y
  have loop : ∀ d i : Nat, i + d = min x.length y.length → Ev (fun k => impl_compare.l0 k x y (i : Int)) (cL (x.drop i) (y.drop i)) := by
    intro d
    induction d with
    | zero =>
      intro i hi
      have e : cL (x.drop i) (y.drop i) = if (x.length : Int) < (y.length : Int) then -1 else if (x.length : Int) > (y.length : Int) then 1 else 0 := by
        rw [cL_len _ _ (by
          rcases Nat.lt_or_ge i x.length with h | h
          · exact .inr (List.drop_eq_nil_of_le (by omega))
          · exact .inl (List.drop_eq_nil_of_le (by omega))), List.length_drop, List.length_drop]
        congr 1
        · simp only [eq_iff_iff]; omega
        · congr 1; simp only [eq_iff_iff]; omega
      rw [e]
      refine ev_succ (fun k => impl_compare.l0_eq k _ _ _) ?_
      by_cases h : (i : Int) < (x.length : Int)
      · exact ev_dt h (ev_df (by omega) (ev_bind (cmp_ev _ _) (ev_some.2 rfl)))
      · exact ev_df h (ev_bind (cmp_ev _ _) (ev_some.2 rfl))
    | succ d ihd =>
      intro i hi
      have h1 : i < x.length := by omega
      have h2 : i < y.length := by omega
      rw [List.drop_eq_getElem_cons h1, List.drop_eq_getElem_cons h2, cL_cc, cT_eq]
      have s1 := size_mem (List.getElem_mem h1)
      have s2 := size_mem (List.getElem_mem h2)
      refine ev_succ (fun k => impl_compare.l0_eq k _ _ _) (ev_dt (by first | omega | (simp only [List.length_append, List.length_cons, List.length_nil, List.length_map, List.length_take, List.length_drop, limE]; omega) | (simp [limE] <;> omega)) (ev_dt (by first | omega | (simp only [List.length_append, List.length_cons, List.length_nil, List.length_map, List.length_take, List.length_drop, limE]; omega) | (simp [limE] <;> omega)) (ev_gd (by first | omega | (simp only [List.length_append, List.length_cons, List.length_nil, List.length_map, List.length_take, List.length_drop, limE]; omega) | (simp [limE] <;> omega)) (ev_gd (by first | omega | (simp only [List.length_append, List.length_cons, List.length_nil, List.length_map, List.length_take, List.length_drop, limE]; omega) | (simp [limE] <;> omega)) ?_))))
      rw [get_at h1, get_at h2, w_succ (by omega)]
      refine ev_bind (ih _ (List.getElem_mem h1) _ (by omega) (by omega)) ?_
      by_cases hc : cL x[i].f1 y[i].f1 = 0
      · rw [if_pos hc]
        refine ev_nf (decide_eq_true hc) (ev_gd (by first | omega | (simp only [List.length_append, List.length_cons, List.length_nil, List.length_map, List.length_take, List.length_drop, limE]; omega) | (simp [limE] <;> omega)) (ev_gd (by first | omega | (simp only [List.length_append, List.length_cons, List.length_nil, List.length_map, List.length_take, List.length_drop, limE]; omega) | (simp [limE] <;> omega)) (ev_bind (cmp_ev _ _) ?_)))
        by_cases ht : (if x[i].f0 < y[i].f0 then (-1 : Int) else if x[i].f0 > y[i].f0 then 1 else 0) = 0
        · rw [if_pos ht]; exact ev_nf (decide_eq_true ht) (ihd (i + 1) (by omega))
        · rw [if_neg ht]; exact ev_nt (decide_eq_false ht) (ev_some.2 rfl)
      · rw [if_neg hc, if_neg hc]
        exact ev_nt (decide_eq_false hc) (ev_some.2 rfl)
  exact ev_succ (fun k => impl_compare.f_eq k _ _) (loop (min x.length y.length) 0 (by omega))
theorem fL_drop {x : List Term} {i : Nat} (h : i < x.length) : fL (x.drop i) = x[i].f0 :: (row x[i].f1 ++ fL (x.drop (i + 1))) := by
  rw [List.drop_eq_getElem_cons h, fL_cons]
theorem fL_len (x : List Term) (i : Nat) : (fL (x.drop i)).length ≤ (fL x).length := by
  have := fL_app (x.take i) (x.drop i)
  rw [List.take_append_drop] at this
  rw [this, List.length_append]
  omega
theorem rowOf_ev (x : List Term) : size x ≤ 1000000000 → Ev (fun k => impl_rowOf.f k x) (row x) := by
  refine tree_mem (P := fun x => size x ≤ 1000000000 → Ev (fun k => impl_rowOf.f k x) (row x)) (fun x ih hx => ?_) x
  have lx := size_len x
  have sx := size_eq x
  have loop : ∀ (d i : Nat) (acc : List Int), i + d = x.length → acc.length + (fL (x.drop i)).length ≤ 1000000000 → Ev (fun k => impl_rowOf.l0 k acc x (x.length : Int) (i : Int)) (acc ++ fL (x.drop i)) := by
    intro d
    induction d with
    | zero =>
      intro i acc hi ha
      refine ev_succ (fun k => impl_rowOf.l0_eq k _ _ _ _) (ev_df (by first | omega | (simp only [List.length_append, List.length_cons, List.length_nil, List.length_map, List.length_take, List.length_drop, limE]; omega) | (simp [limE] <;> omega)) (ev_some.2 ?_))
      rw [List.drop_eq_nil_of_le (by omega), fL_nil, List.append_nil]
    | succ d ihd =>
      intro i acc hi ha
      have h1 : i < x.length := by omega
      have s1 := size_mem (List.getElem_mem h1)
      rw [fL_drop h1] at ha ⊢
      simp only [List.length_cons, List.length_append] at ha
      refine ev_succ (fun k => impl_rowOf.l0_eq k _ _ _ _) (ev_dt (by first | omega | (simp only [List.length_append, List.length_cons, List.length_nil, List.length_map, List.length_take, List.length_drop, limE]; omega) | (simp [limE] <;> omega)) (ev_gd (by first | omega | (simp only [List.length_append, List.length_cons, List.length_nil, List.length_map, List.length_take, List.length_drop, limE]; omega) | (simp [limE] <;> omega)) (ev_gd (by first | omega | (simp only [List.length_append, List.length_cons, List.length_nil, List.length_map, List.length_take, List.length_drop, limE]; omega) | (simp [limE] <;> omega)) ?_)))
      rw [get_at h1, w_succ (by omega)]
      refine ev_bind (ih _ (List.getElem_mem h1) (by omega)) (ev_gd (by first | omega | (simp only [List.length_append, List.length_cons, List.length_nil, List.length_map, List.length_take, List.length_drop, limE]; omega) | (simp [limE] <;> omega)) ?_)
      have := ihd (i + 1) ((acc ++ [x[i].f0]) ++ row x[i].f1) (by omega) (by simp only [List.length_append, List.length_cons, List.length_nil]; omega)
      simpa using this
  refine ev_succ (fun k => impl_rowOf.f_eq k _) ?_
  have := loop x.length 0 [(x.length : Int)] (by omega) (by simp only [List.length_cons, List.length_nil, List.drop_zero]; omega)
  simpa [row] using this
theorem sizeOf_ev (x : List Term) : size x ≤ 1000000000 → Ev (fun k => impl_sizeOf.f k x) (size x : Int) := by
  refine tree_mem (P := fun x => size x ≤ 1000000000 → Ev (fun k => impl_sizeOf.f k x) (size x : Int)) (fun x ih hx => ?_) x
  have lx := size_len x
  have sx := size_eq x
  have loop : ∀ (d i : Nat) (acc : Int), i + d = x.length → 0 ≤ acc → acc + (fL (x.drop i)).length ≤ 1000000000 → Ev (fun k => impl_sizeOf.l0 k acc x (x.length : Int) (i : Int)) (acc + ((fL (x.drop i)).length : Int)) := by
    intro d
    induction d with
    | zero =>
      intro i acc hi h0 ha
      refine ev_succ (fun k => impl_sizeOf.l0_eq k _ _ _ _) (ev_df (by first | omega | (simp only [List.length_append, List.length_cons, List.length_nil, List.length_map, List.length_take, List.length_drop, limE]; omega) | (simp [limE] <;> omega)) (ev_some.2 ?_))
      rw [List.drop_eq_nil_of_le (by omega), fL_nil]; simp
    | succ d ihd =>
      intro i acc hi h0 ha
      have h1 : i < x.length := by omega
      have s1 := size_mem (List.getElem_mem h1)
      rw [fL_drop h1] at ha ⊢
      simp only [List.length_cons, List.length_append] at ha ⊢
      have hr : (row x[i].f1).length = size x[i].f1 := rfl
      refine ev_succ (fun k => impl_sizeOf.l0_eq k _ _ _ _) (ev_dt (by first | omega | (simp only [List.length_append, List.length_cons, List.length_nil, List.length_map, List.length_take, List.length_drop, limE]; omega) | (simp [limE] <;> omega)) (ev_gd (by first | omega | (simp only [List.length_append, List.length_cons, List.length_nil, List.length_map, List.length_take, List.length_drop, limE]; omega) | (simp [limE] <;> omega)) ?_))
      rw [get_at h1, w_succ (by omega)]
      refine ev_bind (ih _ (List.getElem_mem h1) (by omega)) ?_
      rw [w64 (x := 1 + (size x[i].f1 : Int)) (by omega) (by omega), w64 (by omega) (by omega)]
      have := ihd (i + 1) (acc + (1 + (size x[i].f1 : Int))) (by omega) (by omega) (by omega)
      rw [show acc + (((row x[i].f1).length + (fL (x.drop (i + 1))).length + 1 : Nat) : Int) = acc + (1 + (size x[i].f1 : Int)) + ((fL (x.drop (i + 1))).length : Int) by omega]
      exact this
  refine ev_succ (fun k => impl_sizeOf.f_eq k _) ?_
  have := loop x.length 0 1 (by omega) (by omega) (by simp only [List.drop_zero]; omega)
  rw [List.drop_zero, show (1 : Int) + ((fL x).length : Int) = (size x : Int) by omega] at this
  exact this
theorem most_ev (x : List Term) : size x ≤ 1000000000 → Ev (fun k => impl_most.f k x) (mL x) := by
  refine tree_mem (P := fun x => size x ≤ 1000000000 → Ev (fun k => impl_most.f k x) (mL x)) (fun x ih hx => ?_) x
  have lx := size_len x
  have loop : ∀ (d i : Nat) (acc : Int), i + d = x.length → 0 ≤ acc → Ev (fun k => impl_most.l0 k acc x (x.length : Int) (i : Int)) (max acc (mL (x.drop i))) := by
    intro d
    induction d with
    | zero =>
      intro i acc hi h0
      refine ev_succ (fun k => impl_most.l0_eq k _ _ _ _) (ev_df (by first | omega | (simp only [List.length_append, List.length_cons, List.length_nil, List.length_map, List.length_take, List.length_drop, limE]; omega) | (simp [limE] <;> omega)) (ev_some.2 ?_))
      rw [List.drop_eq_nil_of_le (by omega), mL_nil]; omega
    | succ d ihd =>
      intro i acc hi h0
      have h1 : i < x.length := by omega
      have s1 := size_mem (List.getElem_mem h1)
      rw [List.drop_eq_getElem_cons h1, mL_cons]
      refine ev_succ (fun k => impl_most.l0_eq k _ _ _ _) (ev_dt (by first | omega | (simp only [List.length_append, List.length_cons, List.length_nil, List.length_map, List.length_take, List.length_drop, limE]; omega) | (simp [limE] <;> omega)) (ev_gd (by first | omega | (simp only [List.length_append, List.length_cons, List.length_nil, List.length_map, List.length_take, List.length_drop, limE]; omega) | (simp [limE] <;> omega)) ?_))
      rw [get_at h1, w_succ (by omega)]
      refine ev_bind (ih _ (List.getElem_mem h1) (by omega)) ?_
      have := ihd (i + 1) (max (max acc x[i].f0) (mL x[i].f1)) (by omega) (by omega)
      rw [show max acc (max (max x[i].f0 (mL x[i].f1)) (mL (x.drop (i + 1)))) = max (max (max acc x[i].f0) (mL x[i].f1)) (mL (x.drop (i + 1))) by omega]
      exact this
  refine ev_succ (fun k => impl_most.f_eq k _) ?_
  have := loop x.length 0 0 (by omega) (by omega)
  have hp := mL_pos x
  rw [List.drop_zero, show max 0 (mL x) = mL x by omega] at this
  exact this
theorem clipI_ev (l : List Int) : Ev (fun k => slices_Clip_int_int.f k l) l :=
  ev_succ (fun k => slices_Clip_int_int.f_eq k l) (ev_gd (by first | omega | (simp only [List.length_append, List.length_cons, List.length_nil, List.length_map, List.length_take, List.length_drop, limE]; omega) | (simp [limE] <;> omega)) (ev_some.2 (by rw [Int.toNat_natCast, List.take_length])))
theorem told_ev (x : List Term) (hx : size x ≤ 1000000000) : Ev (fun k => impl_told.f k x) (if mL x ≤ 9999 ∧ size x ≤ 60 then (row x, true) else ([], false)) := by
  refine ev_succ (fun k => impl_told.f_eq k _) (ev_bind (sizeOf_ev x hx) ?_)
  by_cases h : (size x : Int) > 60
  · rw [if_neg (by omega)]; exact ev_dt h (ev_some.2 rfl)
  · refine ev_df h (ev_bind (most_ev x hx) ?_)
    by_cases h2 : mL x > 9999
    · rw [if_neg (by omega)]; exact ev_dt h2 (ev_some.2 rfl)
    · rw [if_pos (by omega)]; exact ev_df h2 (ev_bind (rowOf_ev x hx) (ev_bind (clipI_ev _) (ev_some.2 rfl)))
theorem tO1_len {l : List Int} {x : List Term} {r : List Int} (h : tO1 l = some (x, r)) : r.length < l.length ∧ size x ≤ l.length ∧ r = l.drop (l.length - r.length) := by
  have h1 := (tO1_sound h).1
  have h2 := congrArg List.length h1
  rw [List.length_append] at h2
  have h3 : (row x).length = size x := rfl
  have h4 := size_pos x
  refine ⟨by omega, by omega, ?_⟩
  have : l.length - r.length = (row x).length := by omega
  rw [this, h1, List.drop_left]
theorem sameInts_any (a b : List Int) (ha : a.length < 9223372036854775807) : Ev (fun k => laws_sameInts.f k a b) (decide (a = b)) := by
  by_cases hl : a.length = b.length
  · have loop : ∀ d i : Nat, i + d = a.length → Ev (fun k => laws_sameInts.l0 k a b (i : Int)) (decide (a.drop i = b.drop i)) := by
      intro d
      induction d with
      | zero =>
        intro i hi
        refine ev_succ (fun k => laws_sameInts.l0_eq k _ _ _) (ev_df (by omega) (ev_some.2 ?_))
        rw [List.drop_eq_nil_of_le (by omega), List.drop_eq_nil_of_le (by omega)]
        simp
      | succ d ih =>
        intro i hi
        have h1 : i < a.length := by omega
        have h2 : i < b.length := by omega
        refine ev_succ (fun k => laws_sameInts.l0_eq k _ _ _) (ev_dt (by omega) (ev_gd (by omega) (ev_gd (by omega) ?_)))
        rw [get_nat h1, get_nat h2, w_succ (by omega), List.drop_eq_getElem_cons h1, List.drop_eq_getElem_cons h2]
        by_cases he : a[i] = b[i]
        · refine ev_nf (decide_eq_true he) ?_
          have := ih (i + 1) (by omega)
          rw [he]
          simp only [List.cons.injEq, true_and]
          exact this
        · refine ev_nt (decide_eq_false he) (ev_some.2 ?_)
          exact (decide_eq_false (fun h => he (by injection h))).symm
    have := loop a.length 0 (by omega)
    exact ev_succ (fun k => laws_sameInts.f_eq k _ _) (ev_nf (decide_eq_true (by omega)) this)
  · refine ev_succ (fun k => laws_sameInts.f_eq k _ _) (ev_nt (decide_eq_false (by omega)) (ev_some.2 ?_))
    have : a ≠ b := fun h => hl (by rw [h])
    simp [this]
/-! Heaps that are valid. -/
def vh (m : Int) (l : List Int) : Bool := decide (l.length = 3) && l.all fun n => decide (0 ≤ n) && decide (n ≤ m)
theorem thingsOk_ev (l : List Int) (m : Int) (hl : l.length < 9000000000000000000) : Ev (fun k => impl_thingsOk.f k l m) (vh m l) := by
  have loop : ∀ d i : Nat, i + d = l.length → Ev (fun k => impl_thingsOk.l0 k l m l (l.length : Int) (i : Int)) (decide (l.length = 3) && (l.drop i).all fun n => decide (0 ≤ n) && decide (n ≤ m)) := by
    intro d
    induction d with
    | zero =>
      intro i hi
      refine ev_succ (fun k => impl_thingsOk.l0_eq k _ _ _ _ _) (ev_df (by omega) (ev_some.2 ?_))
      rw [List.drop_eq_nil_of_le (by omega), List.all_nil, Bool.and_true]
      by_cases h : l.length = 3
      · rw [decide_eq_true h]; exact decide_eq_true (by omega)
      · rw [decide_eq_false h]; exact decide_eq_false (by omega)
    | succ d ih =>
      intro i hi
      have hlt : i < l.length := by omega
      refine ev_succ (fun k => impl_thingsOk.l0_eq k _ _ _ _ _) (ev_dt (by omega) (ev_gd (by omega) ?_))
      rw [get_at hlt, w_succ (by omega), List.drop_eq_getElem_cons hlt, List.all_cons]
      by_cases h1 : l[i] < 0
      · rw [decide_eq_false (show ¬ 0 ≤ l[i] by omega)]
        exact ev_dt h1 (ev_some.2 (by simp))
      refine ev_df h1 ?_
      by_cases h2 : l[i] > m
      · rw [decide_eq_false (show ¬ l[i] ≤ m by omega)]
        exact ev_dt h2 (ev_some.2 (by simp))
      refine ev_df h2 ?_
      rw [decide_eq_true (show 0 ≤ l[i] by omega), decide_eq_true (show l[i] ≤ m by omega)]
      exact ih (i + 1) (by omega)
  exact ev_succ (fun k => impl_thingsOk.f_eq k _ _) (loop l.length 0 (by omega))
theorem l8List_ev (l : List Int) (m : Int) (hl : l.length < 9000000000000000000) : Ev (fun k => spec_l8List.f k l m) (vh m l) := by
  have loop : ∀ d i : Nat, i + d = l.length → Ev (fun k => spec_l8List.l0 k l m (i : Int)) (decide (l.length = 3) && (l.drop i).all fun n => decide (0 ≤ n) && decide (n ≤ m)) := by
    intro d
    induction d with
    | zero =>
      intro i hi
      refine ev_succ (fun k => spec_l8List.l0_eq k _ _ _) (ev_df (by omega) (ev_some.2 ?_))
      rw [List.drop_eq_nil_of_le (by omega), List.all_nil, Bool.and_true]
      by_cases h : l.length = 3
      · rw [decide_eq_true h]; exact decide_eq_true (by omega)
      · rw [decide_eq_false h]; exact decide_eq_false (by omega)
    | succ d ih =>
      intro i hi
      have hlt : i < l.length := by omega
      refine ev_succ (fun k => spec_l8List.l0_eq k _ _ _) (ev_dt (by omega) (ev_gd (by omega) ?_))
      rw [get_at hlt, w_succ (by omega), List.drop_eq_getElem_cons hlt, List.all_cons]
      refine ev_bind (l1In_ev _ _ _) ?_
      cases h : (decide (l[i] ≥ 0) && decide (l[i] ≤ m)) with
      | true =>
        have h' : (decide (0 ≤ l[i]) && decide (l[i] ≤ m)) = true := h
        rw [Bool.true_and]
        exact ev_nf rfl (ih (i + 1) (by omega))
      | false =>
        have h' : (decide (0 ≤ l[i]) && decide (l[i] ≤ m)) = false := h
        rw [Bool.false_and, Bool.and_false]
        exact ev_nt rfl (ev_some.2 rfl)
  exact ev_succ (fun k => spec_l8List.f_eq k _ _) (loop l.length 0 (by omega))
theorem vh_len {m : Int} {l : List Int} (h : vh m l = true) : l.length = 3 ∧ ∀ n ∈ l, 0 ≤ n ∧ n ≤ m := by
  unfold vh at h
  simp only [Bool.and_eq_true, decide_eq_true_eq, List.all_eq_true] at h
  exact h
/-! Rows of anything, filled. -/
theorem at_nat {α : Type} {l : List α} {i : Nat} {d : α} (h : i < l.length) : l.getD (i : Int).toNat d = l[i] := by
  rw [Int.toNat_natCast, List.getD_eq_getElem?_getD, List.getElem?_eq_getElem h]
  rfl
theorem fill_len {α : Type} {l : List α} {z : α} {i d : Nat} (h : i + d = l.length) : (l.take i ++ List.replicate d z).length = l.length := by simp; omega
theorem fill_step {α : Type} {l : List α} {z : α} {i d : Nat} (h : i + (d + 1) = l.length) (hlt : i < l.length) : (l.take i ++ List.replicate (d + 1) z).set (i : Int).toNat l[i] = l.take (i + 1) ++ List.replicate d z := by
  rw [Int.toNat_natCast, List.set_append_right _ _ (by simp; omega), List.length_take, Nat.min_eq_left (by omega), Nat.sub_self, List.replicate_succ, List.set_cons_zero, ← List.take_append_getElem hlt, List.append_assoc]
  rfl
def RowOk (l : List Int) : Prop := l.length ≤ 1048576
def TrOk (t : Trade) : Prop := RowOk t.f0 ∧ RowOk t.f1
/-! Rules that are valid. -/
def tv (t : Trade) : Bool := vh 5 t.f0 && vh 5 t.f1
def tsV (ts : List Trade) : Bool := ts.all tv && decide (ts.length ≤ 4)
theorem tsV_of {ts : List Trade} (h : tsV ts = true) : (∀ t ∈ ts, tv t = true) ∧ ts.length ≤ 4 := by
  unfold tsV at h
  rw [Bool.and_eq_true, List.all_eq_true, decide_eq_true_eq] at h
  exact h
theorem vh_mono {l : List Int} (h : vh 5 l = true) : vh 40 l = true := by
  unfold vh at h ⊢
  rw [Bool.and_eq_true, List.all_eq_true] at h ⊢
  refine ⟨h.1, fun n hn => ?_⟩
  have := h.2 n hn
  simp only [Bool.and_eq_true, decide_eq_true_eq] at this ⊢
  omega
theorem implTV_ev (t : Trade) (h : TrOk t) : Ev (fun k => impl_TradeValid.f k t) (tv t) := by
  have h0 := h.1
  have h1 := h.2
  unfold RowOk at h0 h1
  refine ev_succ (fun k => impl_TradeValid.f_eq k _) (ev_bind (thingsOk_ev _ 5 (by omega)) ?_)
  unfold tv
  cases vh 5 t.f0 with
  | false => exact ev_bf rfl (ev_some.2 rfl)
  | true => exact ev_bt rfl (ev_bind (thingsOk_ev _ 5 (by omega)) (ev_some.2 rfl))
theorem specTV_ev (t : Trade) (h : TrOk t) : Ev (fun k => spec_TradeValid.f k t) (tv t) := by
  have h0 := h.1
  have h1 := h.2
  unfold RowOk at h0 h1
  refine ev_succ (fun k => spec_TradeValid.f_eq k _) (ev_bind (l8List_ev _ 5 (by omega)) ?_)
  unfold tv
  cases vh 5 t.f0 with
  | false => exact ev_bf rfl (ev_some.2 rfl)
  | true => exact ev_bt rfl (ev_bind (l8List_ev _ 5 (by omega)) (ev_some.2 rfl))
theorem all_at {α : Type} {p : α → Bool} {l : List α} {i : Nat} (h : i < l.length) : (l.drop i).all p = (p l[i] && (l.drop (i + 1)).all p) := by
  rw [List.drop_eq_getElem_cons h, List.all_cons]
theorem implTsV_ev (a : List Trade) (hl : a.length ≤ 1048576) (hr : ∀ r ∈ a, TrOk r) : Ev (fun k => impl_TradesValid.f k a) (tsV a) := by
  have loop : ∀ d i : Nat, i + d = a.length → Ev (fun k => impl_TradesValid.l0 k a a (a.length : Int) (i : Int)) ((a.drop i).all tv && decide (a.length ≤ 4)) := by
    intro d
    induction d with
    | zero =>
      intro i hi
      refine ev_succ (fun k => impl_TradesValid.l0_eq k _ _ _ _) (ev_df (by omega) (ev_some.2 ?_))
      rw [List.drop_eq_nil_of_le (by omega)]
      show _ = (true && _)
      rw [Bool.true_and]
      exact decide_eq_decide.2 (by omega)
    | succ d ih =>
      intro i hi
      have hlt : i < a.length := by omega
      refine ev_succ (fun k => impl_TradesValid.l0_eq k _ _ _ _) (ev_dt (by omega) (ev_gd (by omega) ?_))
      rw [at_nat hlt, w_succ (by omega), all_at hlt]
      refine ev_bind (implTV_ev _ (hr _ (List.getElem_mem hlt))) ?_
      cases tv a[i] with
      | false => exact ev_nt rfl (ev_some.2 rfl)
      | true => rw [Bool.true_and]; exact ev_nf rfl (ih (i + 1) (by omega))
  exact ev_succ (fun k => impl_TradesValid.f_eq k _) (loop a.length 0 (by omega))
theorem specTsV_ev (a : List Trade) (hl : a.length ≤ 1048576) (hr : ∀ r ∈ a, TrOk r) : Ev (fun k => spec_TradesValid.f k a) (tsV a) := by
  have loop : ∀ d i : Nat, i + d = a.length → Ev (fun k => spec_TradesValid.l0 k a (i : Int)) ((a.drop i).all tv && decide (a.length ≤ 4)) := by
    intro d
    induction d with
    | zero =>
      intro i hi
      refine ev_succ (fun k => spec_TradesValid.l0_eq k _ _) (ev_df (by omega) (ev_some.2 ?_))
      rw [List.drop_eq_nil_of_le (by omega)]
      show _ = (true && _)
      rw [Bool.true_and]
      exact decide_eq_decide.2 (by omega)
    | succ d ih =>
      intro i hi
      have hlt : i < a.length := by omega
      refine ev_succ (fun k => spec_TradesValid.l0_eq k _ _) (ev_dt (by omega) (ev_gd (by omega) ?_))
      rw [at_nat hlt, w_succ (by omega), all_at hlt]
      refine ev_bind (specTV_ev _ (hr _ (List.getElem_mem hlt))) ?_
      cases tv a[i] with
      | false => exact ev_nt rfl (ev_some.2 rfl)
      | true => rw [Bool.true_and]; exact ev_nf rfl (ih (i + 1) (by omega))
  exact ev_succ (fun k => spec_TradesValid.f_eq k _) (loop a.length 0 (by omega))
/-! Exchanges: one, all that can be done, and rows of them. -/
def mvL : List Int → List Int → List Int → Option (List Int)
  | [], _, _ => some []
  | h :: hs, t :: ts, g :: gs => if h < t then none else if h - t + g > 40 then none else (mvL hs ts gs).map ((h - t + g) :: ·)
  | _, _, _ => none
def mvS : List Int → List Int → List Int → Option (List Int)
  | [], _, _ => some []
  | h :: hs, t :: ts, g :: gs => if h < t then none else (mvS hs ts gs).map ((h - t + g) :: ·)
  | _, _, _ => none
def mvR (o : Option (List Int)) : List Int × Bool := match o with
  | some l => (l, true)
  | none => ([], false)
def mvV (h : List Int) (t : Trade) : List Int × Bool := mvR (mvL h t.f0 t.f1)
theorem mvL_S : ∀ (h t g : List Int), mvL h t g = (mvS h t g).bind fun l => if (l.all fun n => decide (n ≤ 40)) = true then some l else none
  | [], _, _ => by simp [mvL, mvS]
  | h :: hs, t :: ts, g :: gs => by
    rw [mvL, mvS]
    split
    · rfl
    · rw [mvL_S hs ts gs]
      cases hq : mvS hs ts gs with
      | none => simp
      | some l =>
        by_cases h4 : h - t + g > 40
        · rw [if_pos h4]
          have : ¬ h - t + g ≤ 40 := by omega
          simp [this]
        · rw [if_neg h4]
          have : h - t + g ≤ 40 := by omega
          by_cases ha : (l.all fun n => decide (n ≤ 40)) = true
          · simp only [Option.map_some, Option.bind_some, if_pos ha, List.all_cons, decide_eq_true this, Bool.true_and]
          · simp only [Option.map_some, Option.bind_some, if_neg ha, List.all_cons, decide_eq_true this, Bool.true_and, Option.map_none]
  | _ :: _, [], _ => by simp [mvL, mvS]
  | _ :: _, _ :: _, [] => by simp [mvL, mvS]
theorem mvS_ok : ∀ {h t g l : List Int}, mvS h t g = some l → (∀ n ∈ g, 0 ≤ n) → l.length = h.length ∧ ∀ n ∈ l, 0 ≤ n
  | [], _, _, l, e, _ => by simp [mvS] at e; subst e; simp
  | h :: hs, t :: ts, g :: gs, l, e, hg => by
    rw [mvS] at e
    split at e
    · cases e
    · rw [Option.map_eq_some_iff] at e
      obtain ⟨r, h1, rfl⟩ := e
      obtain ⟨i1, i2⟩ := mvS_ok h1 (fun n hn => hg n (List.mem_cons_of_mem _ hn))
      have := hg g (List.mem_cons_self ..)
      refine ⟨by simp [i1], fun n hn => ?_⟩
      rcases List.mem_cons.1 hn with rfl | hn
      · omega
      · exact i2 n hn
  | _ :: _, [], _, _, e, _ => by simp [mvS] at e
  | _ :: _, _ :: _, [], _, e, _ => by simp [mvS] at e
theorem tv_of {t : Trade} (h : tv t = true) : (t.f0.length = 3 ∧ ∀ n ∈ t.f0, 0 ≤ n ∧ n ≤ 40) ∧ (t.f1.length = 3 ∧ ∀ n ∈ t.f1, 0 ≤ n ∧ n ≤ 40) := by
  unfold tv at h
  rw [Bool.and_eq_true] at h
  exact ⟨vh_len (vh_mono h.1), vh_len (vh_mono h.2)⟩
theorem vh_mk {l : List Int} (h : l.length = 3) (h2 : ∀ n ∈ l, 0 ≤ n) : vh 40 l = (l.all fun n => decide (n ≤ 40)) := by
  unfold vh
  rw [decide_eq_true h, Bool.true_and]
  rw [Bool.eq_iff_iff, List.all_eq_true, List.all_eq_true]
  constructor
  · intro h1 n hn; have := h1 n hn; simp at this ⊢; exact this.2
  · intro h1 n hn; have := h1 n hn; have := h2 n hn; simp at *; omega
theorem mvV_ok {h : List Int} {t : Trade} (hh : vh 40 h = true) (ht : tv t = true) (hd : (mvV h t).2 = true) : vh 40 (mvV h t).1 = true := by
  obtain ⟨h3, h0⟩ := vh_len hh
  obtain ⟨⟨t3, t0⟩, g3, g0⟩ := tv_of ht
  unfold mvV at hd ⊢
  rw [mvL_S] at hd ⊢
  cases hs : mvS h t.f0 t.f1 with
  | none => rw [hs] at hd; simp [mvR] at hd
  | some l =>
    rw [hs] at hd
    obtain ⟨e1, e2⟩ := mvS_ok hs (fun n hn => (g0 n hn).1)
    simp only [Option.bind_some] at hd ⊢
    by_cases ha : (l.all fun n => decide (n ≤ 40)) = true
    · rw [if_pos ha] at hd ⊢
      show vh 40 l = true
      rw [vh_mk (by omega) e2]; exact ha
    · rw [if_neg ha] at hd; simp [mvR] at hd
theorem traded_ev {h : List Int} {t : Trade} (hh : vh 40 h = true) (ht : tv t = true) : Ev (fun k => impl_traded.f k h t) (mvV h t) := by
  obtain ⟨h3, h0⟩ := vh_len hh
  obtain ⟨⟨t3, t0⟩, g3, g0⟩ := tv_of ht
  have loop : ∀ (d i : Nat) (acc : List Int), i + d = 3 → acc.length = i → Ev (fun k => impl_traded.l0 k t acc h (h.length : Int) (i : Int)) (mvR ((mvL (h.drop i) (t.f0.drop i) (t.f1.drop i)).map (acc ++ ·))) := by
    intro d
    induction d with
    | zero =>
      intro i acc hi ha
      refine ev_succ (fun k => impl_traded.l0_eq k _ _ _ _ _) (ev_df (by omega) (ev_some.2 ?_))
      rw [List.drop_eq_nil_of_le (show h.length ≤ i by omega)]
      simp [mvL, mvR]
    | succ d ih =>
      intro i acc hi ha
      have l1 : i < h.length := by omega
      have l2 : i < t.f0.length := by omega
      have l3 : i < t.f1.length := by omega
      have b1 := h0 h[i] (List.getElem_mem l1)
      have b2 := t0 t.f0[i] (List.getElem_mem l2)
      have b3 := g0 t.f1[i] (List.getElem_mem l3)
      refine ev_succ (fun k => impl_traded.l0_eq k _ _ _ _ _) (ev_dt (by omega) (ev_gd (by omega) (ev_gd (by omega) ?_)))
      rw [get_nat l1, get_nat l2, get_nat l3, List.drop_eq_getElem_cons l1, List.drop_eq_getElem_cons l2, List.drop_eq_getElem_cons l3, mvL]
      rw [w64 (x := h[i] - t.f0[i]) (by omega) (by omega), w64 (x := h[i] - t.f0[i] + t.f1[i]) (by omega) (by omega)]
      by_cases c1 : h[i] < t.f0[i]
      · rw [if_pos c1]; exact ev_dt c1 (ev_some.2 rfl)
      · rw [if_neg c1]
        refine ev_df c1 (ev_gd (by omega) (ev_gd (by omega) ?_))
        by_cases c2 : h[i] - t.f0[i] + t.f1[i] > 40
        · rw [if_pos c2]; exact ev_dt c2 (ev_some.2 rfl)
        · rw [if_neg c2]
          refine ev_df c2 (ev_gd (by omega) (ev_gd (by omega) (ev_gd (by rw [ha, limE]; simp; omega) ?_)))
          rw [w_succ (by omega)]
          have := ih (i + 1) (acc ++ [h[i] - t.f0[i] + t.f1[i]]) (by omega) (by simp [ha])
          refine ev_eq this ?_
          rw [Option.map_map]
          congr 2
          funext l
          simp
  have := loop 3 0 [] (by omega) rfl
  refine ev_succ (fun k => impl_traded.f_eq k _ _) (ev_eq this ?_)
  unfold mvV
  congr 1
  simp
theorem sDoT_ev (h : List Int) (t : Trade) (hl : h.length ≤ 1000000000) (hr : TrOk t) : Ev (fun k => spec_TradeDo.f k h t) (if vh 40 h = true ∧ tv t = true then mvV h t else ([], false)) := by
  have r0 := hr.1
  have r1 := hr.2
  unfold RowOk at r0 r1
  refine ev_succ (fun k => spec_TradeDo.f_eq k _ _) (ev_bind (ev_succ (fun k => spec_HeapsValid.f_eq k _) (ev_bind (l8List_ev h 40 (by omega)) (ev_some.2 rfl))) ?_)
  cases hh : vh 40 h with
  | false => exact ev_nt rfl (ev_some.2 (by simp))
  | true =>
    refine ev_nf rfl (ev_bind (specTV_ev t hr) ?_)
    cases ht : tv t with
    | false => exact ev_nt rfl (ev_some.2 (by simp))
    | true =>
      refine ev_nf rfl ?_
      rw [if_pos ⟨rfl, rfl⟩]
      obtain ⟨h3, h0⟩ := vh_len hh
      obtain ⟨⟨t3, t0⟩, g3, g0⟩ := tv_of ht
      have loop : ∀ (d i : Nat) (acc : List Int), i + d = 3 → acc.length = i → (∀ n ∈ acc, 0 ≤ n) → Ev (fun k => spec_TradeDo.l0 k h t acc (i : Int)) (match mvS (h.drop i) (t.f0.drop i) (t.f1.drop i) with
          | some l => if vh 40 (acc ++ l) = true then (acc ++ l, true) else ([], false)
          | none => ([], false)) := by
        intro d
        induction d with
        | zero =>
          intro i acc hi ha hn
          refine ev_succ (fun k => spec_TradeDo.l0_eq k _ _ _ _) (ev_df (by omega) (ev_bind (ev_succ (fun k => spec_HeapsValid.f_eq k _) (ev_bind (l8List_ev acc 40 (by omega)) (ev_some.2 rfl))) ?_))
          rw [List.drop_eq_nil_of_le (show h.length ≤ i by omega)]
          simp only [mvS, List.append_nil]
          cases vh 40 acc with
          | false => exact ev_nt rfl (ev_some.2 (by simp))
          | true => exact ev_nf rfl (ev_some.2 (by simp))
        | succ d ih =>
          intro i acc hi ha hn
          have l1 : i < h.length := by omega
          have l2 : i < t.f0.length := by omega
          have l3 : i < t.f1.length := by omega
          have b1 := h0 h[i] (List.getElem_mem l1)
          have b2 := t0 t.f0[i] (List.getElem_mem l2)
          have b3 := g0 t.f1[i] (List.getElem_mem l3)
          refine ev_succ (fun k => spec_TradeDo.l0_eq k _ _ _ _) (ev_dt (by omega) (ev_gd (by omega) (ev_gd (by omega) ?_)))
          rw [get_nat l1, get_nat l2, get_nat l3, List.drop_eq_getElem_cons l1, List.drop_eq_getElem_cons l2, List.drop_eq_getElem_cons l3, mvS]
          rw [w64 (x := h[i] - t.f0[i]) (by omega) (by omega), w64 (x := h[i] - t.f0[i] + t.f1[i]) (by omega) (by omega)]
          by_cases c1 : h[i] < t.f0[i]
          · rw [if_pos c1]; exact ev_dt c1 (ev_some.2 rfl)
          · rw [if_neg c1]
            refine ev_df c1 (ev_gd (by omega) (ev_gd (by omega) (ev_gd (by omega) (ev_gd (by rw [ha, limE]; simp; omega) ?_))))
            rw [w_succ (by omega)]
            have := ih (i + 1) (acc ++ [h[i] - t.f0[i] + t.f1[i]]) (by omega) (by simp [ha]) (fun n hnn => by
              rcases List.mem_append.1 hnn with q | q
              · exact hn n q
              · simp at q; subst q; omega)
            refine ev_eq this ?_
            cases mvS (h.drop (i + 1)) (t.f0.drop (i + 1)) (t.f1.drop (i + 1)) with
            | none => rfl
            | some l => simp
      have := loop 3 0 [] (by omega) rfl (by simp)
      refine ev_eq this ?_
      unfold mvV
      rw [mvL_S]
      simp only [List.drop_zero, List.nil_append]
      cases hs : mvS h t.f0 t.f1 with
      | none => rfl
      | some l =>
        obtain ⟨e1, e2⟩ := mvS_ok hs (fun n hn => (g0 n hn).1)
        simp only [Option.bind_some]
        rw [vh_mk (by omega) e2]
        split <;> rfl
/-! Heaps that are reached: plain. -/
def succs (ts : List Trade) (h : List Int) : List (List Int) := ts.filterMap fun t => if (mvV h t).2 = true then some (mvV h t).1 else none
def addL : List (List Int) → List (List Int) → List (List Int)
  | [], out => out
  | x :: r, out => addL r (if x ∈ out then out else out ++ [x])
def reachL (ts : List Trade) : Nat → Nat → List (List Int) → Option (List (List Int))
  | 0, _, _ => none
  | f + 1, i, out => match out[i]? with
    | some h => if (addL (succs ts h) out).length > 400 then none else reachL ts f (i + 1) (addL (succs ts h) out)
    | none => some out
def reachV (ts : List Trade) (h : List Int) : List (List Int) := if vh 40 h = true ∧ tsV ts = true then (reachL ts 402 0 [h]).getD [] else []
theorem addL_pre : ∀ (xs out : List (List Int)), ∃ r, addL xs out = out ++ r
  | [], out => ⟨[], by simp [addL]⟩
  | x :: r, out => by
    obtain ⟨s, hs⟩ := addL_pre r (if x ∈ out then out else out ++ [x])
    unfold addL
    rw [hs]
    split
    · exact ⟨s, rfl⟩
    · exact ⟨x :: s, by simp⟩
theorem addL_len (xs out : List (List Int)) : out.length ≤ (addL xs out).length := by
  obtain ⟨r, hr⟩ := addL_pre xs out
  rw [hr, List.length_append]; omega
theorem addL_mem : ∀ (xs out : List (List Int)) (y : List Int), y ∈ addL xs out ↔ y ∈ out ∨ y ∈ xs
  | [], out, y => by simp [addL]
  | x :: r, out, y => by
    unfold addL
    rw [addL_mem r _ y]
    by_cases h : x ∈ out
    · rw [if_pos h]
      simp only [List.mem_cons]
      constructor
      · rintro (q | q)
        · exact .inl q
        · exact .inr (.inr q)
      · rintro (q | rfl | q)
        · exact .inl q
        · exact .inl h
        · exact .inr q
    · rw [if_neg h]
      simp only [List.mem_append, List.mem_cons, List.not_mem_nil, or_false]
      constructor
      · rintro ((q | q) | q)
        · exact .inl q
        · exact .inr (.inl q)
        · exact .inr (.inr q)
      · rintro (q | q | q)
        · exact .inl (.inl q)
        · exact .inl (.inr q)
        · exact .inr q
theorem addL_nodup : ∀ (xs out : List (List Int)), out.Nodup → (addL xs out).Nodup
  | [], out, h => by simpa [addL] using h
  | x :: r, out, h => by
    unfold addL
    apply addL_nodup
    split
    · exact h
    · rename_i hx
      rw [List.nodup_append]
      exact ⟨h, by simp, fun a ha b hb e => by simp at hb; subst hb; subst e; exact hx ha⟩
theorem nodup_sub : ∀ (l m : List (List Int)), l.Nodup → (∀ x ∈ l, x ∈ m) → l.length ≤ m.length
  | [], m, _, _ => by simp
  | x :: l, m, hn, hs => by
    rw [List.nodup_cons] at hn
    have hx := hs x (by simp)
    have := nodup_sub l (m.erase x) hn.2 (fun y hy => (List.mem_erase_of_ne (fun e => hn.1 (by rw [← e]; exact hy))).2 (hs y (by simp [hy])))
    have h2 := List.length_erase_of_mem hx
    have h3 : 0 < m.length := List.length_pos_of_mem hx
    simp only [List.length_cons]
    omega
/-- What has been found: 'i' heaps have been gone on from. -/
structure RInv (ts : List Trade) (h : List Int) (i : Nat) (out : List (List Int)) : Prop where
  first : out[0]? = some h
  nodup : out.Nodup
  valid : ∀ x ∈ out, vh 40 x = true
  closed : ∀ j x, j < i → out[j]? = some x → ∀ y ∈ succs ts x, y ∈ out
  from' : ∀ j x, 0 < j → out[j]? = some x → ∃ j' x', j' < j ∧ out[j']? = some x' ∧ x ∈ succs ts x'
  le : i ≤ out.length
theorem succs_valid {ts : List Trade} (ht : ∀ t ∈ ts, tv t = true) {x : List Int} (hx : vh 40 x = true) {y : List Int} (hy : y ∈ succs ts x) : vh 40 y = true := by
  unfold succs at hy
  obtain ⟨t, h1, h2⟩ := List.mem_filterMap.1 hy
  split at h2
  · rename_i hd
    cases h2
    exact mvV_ok hx (ht t h1) hd
  · cases h2
theorem addL_from {ts : List Trade} (xs : List (List Int)) : ∀ (out : List (List Int)) (j : Nat) (y : List Int), (addL xs out)[j]? = some y → out.length ≤ j → y ∈ xs := by
  induction xs with
  | nil =>
    intro out j y h hj
    simp only [addL] at h
    rw [List.getElem?_eq_none hj] at h; cases h
  | cons x r ih =>
    intro out j y h hj
    unfold addL at h
    by_cases hx : x ∈ out
    · rw [if_pos hx] at h; exact List.mem_cons_of_mem _ (ih _ j y h hj)
    · rw [if_neg hx] at h
      by_cases hj2 : out.length = j
      · obtain ⟨s, hs⟩ := addL_pre r (out ++ [x])
        rw [hs, List.append_assoc, ← hj2, List.getElem?_append_right (Nat.le_refl _)] at h
        simp at h
        simp [h]
      · exact List.mem_cons_of_mem _ (ih _ j y h (by simp; omega))
theorem RInv.step {ts : List Trade} (ht : ∀ t ∈ ts, tv t = true) {h : List Int} {i : Nat} {out : List (List Int)} (hI : RInv ts h i out) {x : List Int} (hx : out[i]? = some x) : RInv ts h (i + 1) (addL (succs ts x) out) := by
  obtain ⟨r, hr⟩ := addL_pre (succs ts x) out
  have old : ∀ j y, out[j]? = some y → (addL (succs ts x) out)[j]? = some y := fun j y hy => by
    rw [hr, List.getElem?_append_left (List.getElem?_eq_some_iff.1 hy).1]; exact hy
  have hil : i < out.length := (List.getElem?_eq_some_iff.1 hx).1
  refine ⟨old 0 h hI.first, addL_nodup _ _ hI.nodup, fun y hy => ?_, fun j y hj hy z hz => ?_, fun j y hj hy => ?_, ?_⟩
  · rcases (addL_mem _ _ _).1 hy with q | q
    · exact hI.valid y q
    · exact succs_valid ht (hI.valid x (List.mem_of_getElem? hx)) q
  · rw [addL_mem]
    by_cases e : j = i
    · subst e
      have : y = x := by rw [old j x hx] at hy; exact (Option.some.inj hy).symm
      subst this
      exact .inr hz
    · have hjl : j < out.length := by omega
      have : out[j]? = some y := by rw [hr, List.getElem?_append_left hjl] at hy; exact hy
      exact .inl (hI.closed j y (by omega) this z hz)
  · by_cases hjl : j < out.length
    · have : out[j]? = some y := by rw [hr, List.getElem?_append_left hjl] at hy; exact hy
      obtain ⟨j', x', h1, h2, h3⟩ := hI.from' j y hj this
      exact ⟨j', x', h1, old _ _ h2, h3⟩
    · exact ⟨i, x, by omega, old _ _ hx, addL_from (ts := ts) _ _ _ _ hy (by omega)⟩
  · have := addL_len (succs ts x) out; omega
theorem reachL_spec {ts : List Trade} (ht : ∀ t ∈ ts, tv t = true) {h : List Int} : ∀ (f i : Nat) (out L : List (List Int)), RInv ts h i out → out.length ≤ 400 → reachL ts f i out = some L → RInv ts h L.length L ∧ L.length ≤ 400
  | 0, _, _, _, _, _, e => by simp [reachL] at e
  | f + 1, i, out, L, hI, hl, e => by
    unfold reachL at e
    split at e
    · rename_i x hx
      split at e
      · cases e
      · rename_i h4
        exact reachL_spec ht f (i + 1) _ L (hI.step ht hx) (by omega) e
    · rename_i hx
      cases e
      have : out.length ≤ i := List.getElem?_eq_none_iff.1 hx
      have hi : i = out.length := by have := hI.le; omega
      subst hi
      exact ⟨hI, hl⟩
/-- What is said of what is reached. -/
structure Reach (ts : List Trade) (h : List Int) (L : List (List Int)) : Prop where
  first : L[0]? = some h
  nodup : L.Nodup
  valid : ∀ x ∈ L, vh 40 x = true
  closed : ∀ x ∈ L, ∀ y ∈ succs ts x, y ∈ L
  from' : ∀ j x, 0 < j → L[j]? = some x → ∃ j' x', j' < j ∧ L[j']? = some x' ∧ x ∈ succs ts x'
  len : L.length ≤ 400
  trades : ∀ t ∈ ts, tv t = true
theorem rinv_one {ts : List Trade} {h : List Int} (hh : vh 40 h = true) : RInv ts h 0 [h] :=
  ⟨rfl, by simp, fun x hx => by simp at hx; subst hx; exact hh, fun j x hj => by omega, fun j x hj hx => by
    have := (List.getElem?_eq_some_iff.1 hx).1; simp at this; omega, by simp⟩
theorem reach_of {ts : List Trade} {h : List Int} (hne : reachV ts h ≠ []) : Reach ts h (reachV ts h) ∧ vh 40 h = true ∧ tsV ts = true := by
  unfold reachV at hne ⊢
  split at hne
  · rename_i hv
    rw [if_pos hv]
    have ht := (tsV_of hv.2).1
    cases hr : reachL ts 402 0 [h] with
    | none => rw [hr] at hne; simp at hne
    | some L =>
      obtain ⟨h1, h2⟩ := reachL_spec ht 402 0 [h] L (rinv_one hv.1) (by simp) hr
      refine ⟨⟨h1.first, h1.nodup, h1.valid, fun x hx => ?_, h1.from', h2, ht⟩, hv.1, hv.2⟩
      obtain ⟨j, hj⟩ := List.getElem?_of_mem hx
      exact h1.closed j x (List.getElem?_eq_some_iff.1 hj).1 hj
  · exact absurd rfl hne
/-- Where all that is reached lies in few heaps, it is told. -/
theorem reachL_some {ts : List Trade} {M : List (List Int)} (hc : ∀ x ∈ M, ∀ y ∈ succs ts x, y ∈ M) (hM : M.length ≤ 400) : ∀ (f i : Nat) (out : List (List Int)), out.Nodup → (∀ x ∈ out, x ∈ M) → i ≤ out.length → 401 < f + i → ∃ L, reachL ts f i out = some L ∧ (∀ x ∈ L, x ∈ M) ∧ ∃ r, L = out ++ r
  | 0, i, out, hn, hs, hi, hf => by have := nodup_sub out M hn hs; omega
  | f + 1, i, out, hn, hs, hi, hf => by
    have hl := nodup_sub out M hn hs
    unfold reachL
    split
    · rename_i x hx
      have hs2 : ∀ y ∈ addL (succs ts x) out, y ∈ M := fun y hy => by
        rcases (addL_mem _ _ _).1 hy with q | q
        · exact hs y q
        · exact hc x (hs x (List.mem_of_getElem? hx)) y q
      have hn2 := addL_nodup (succs ts x) out hn
      have hl2 := nodup_sub _ M hn2 hs2
      rw [if_neg (by omega)]
      have hal := addL_len (succs ts x) out
      have hil : i < out.length := (List.getElem?_eq_some_iff.1 hx).1
      obtain ⟨L, e1, e2, r, e3⟩ := reachL_some hc hM f (i + 1) _ hn2 hs2 (by omega) (by omega)
      obtain ⟨r2, e4⟩ := addL_pre (succs ts x) out
      exact ⟨L, e1, e2, r2 ++ r, by rw [e3, e4, List.append_assoc]⟩
    · exact ⟨out, rfl, hs, [], by simp⟩
/-! Heaps that are reached: both sides. -/
def keyT (x : List Int) : Int × Int × Int := (x.getD 0 0, x.getD 1 0, x.getD 2 0)
theorem mp_get_set (t : Ty) (k j : Int × Int × Int) (y : Den t) : ∀ M : List ((Int × Int × Int) × Den t), mpGet t k (mpSet t j y M) = if k = j then y else mpGet t k M
  | [] => by
    simp only [mpSet, mpGet]
  | e :: M => by
    simp only [mpSet]
    by_cases h : j = e.1
    · rw [if_pos h]
      simp only [mpGet]
      by_cases hk : k = j
      · rw [if_pos hk, if_pos hk]
      · rw [if_neg hk, if_neg hk, if_neg (fun e' => hk (e'.trans h.symm))]
    · rw [if_neg h]
      simp only [mpGet]
      by_cases hk : k = e.1
      · rw [if_pos hk, if_pos hk, if_neg (fun e' => h (e'.symm.trans hk))]
      · rw [if_neg hk, if_neg hk]; exact mp_get_set t k j y M
theorem three {x : List Int} (h : vh 40 x = true) : ∃ a b c, x = [a, b, c] ∧ 0 ≤ a ∧ a ≤ 40 ∧ 0 ≤ b ∧ b ≤ 40 ∧ 0 ≤ c ∧ c ≤ 40 := by
  obtain ⟨h3, h0⟩ := vh_len h
  match x, h3, h0 with
  | [a, b, c], _, h0 =>
    have ha := h0 a (by simp)
    have hb := h0 b (by simp)
    have hc := h0 c (by simp)
    exact ⟨a, b, c, rfl, ha.1, ha.2, hb.1, hb.2, hc.1, hc.2⟩
theorem keyT_inj {x y : List Int} (hx : vh 40 x = true) (hy : vh 40 y = true) (h : keyT x = keyT y) : x = y := by
  obtain ⟨a, b, c, rfl, _⟩ := three hx
  obtain ⟨d, e, f, rfl, _⟩ := three hy
  simp [keyT] at h
  obtain ⟨rfl, rfl, rfl⟩ := h
  rfl
def codeZ (x : List Int) : Int := (x.getD 0 0 * 41 + x.getD 1 0) * 41 + x.getD 2 0
theorem codeZ_in {x : List Int} (hx : vh 40 x = true) : 0 ≤ codeZ x ∧ codeZ x < 68921 := by
  obtain ⟨a, b, c, rfl, h⟩ := three hx
  simp [codeZ]
  omega
theorem codeZ_inj {x y : List Int} (hx : vh 40 x = true) (hy : vh 40 y = true) (h : codeZ x = codeZ y) : x = y := by
  obtain ⟨a, b, c, rfl, _⟩ := three hx
  obtain ⟨d, e, f, rfl, _⟩ := three hy
  simp [codeZ] at h
  have h1 : c = f := by omega
  have h2 : b = e := by omega
  have h3 : a = d := by omega
  rw [h1, h2, h3]
theorem l8Code_ev {x : List Int} (hx : vh 40 x = true) : Ev (fun k => spec_l8Code.f k x) (codeZ x) := by
  obtain ⟨a, b, c, rfl, h⟩ := three hx
  refine ev_succ (fun k => spec_l8Code.f_eq k _) (ev_gd (by simp) (ev_gd (by simp) (ev_gd (by simp) (ev_some.2 ?_))))
  show wr (wr (wr (wr (a * 41) + b) * 41) + c) = (a * 41 + b) * 41 + c
  rw [w64 (x := a * 41) (by omega) (by omega), w64 (x := a * 41 + b) (by omega) (by omega), w64 (x := (a * 41 + b) * 41) (by omega) (by omega), w64 (by omega) (by omega)]
theorem cloneI_ev (x : List Int) (h : x.length < lim) : Ev (fun k => slices_Clone_int_int.f k x) x := by
  have : (fun k => slices_Clone_int_int.f k x) = fun k => gate (decide (0 + x.length < lim)) (some x) := funext fun k => slices_Clone_int_int.f_eq k x
  rw [this]
  exact ev_gd (by omega) (ev_some.2 rfl)
theorem at_out {out : List (List Int)} {i : Nat} {x : List Int} (h : out[i]? = some x) : out.getD (i : Int).toNat ([] : List Int) = x := by
  rw [Int.toNat_natCast, List.getD_eq_getElem?_getD, h]; rfl
theorem at_tr {ts : List Trade} {i : Nat} (h : i < ts.length) : ts.getD (i : Int).toNat (⟨([] : List Int), ([] : List Int)⟩ : Trade) = ts[i] := by
  rw [Int.toNat_natCast, List.getD_eq_getElem?_getD, List.getElem?_eq_getElem h]; rfl
theorem succs_cons (t : Trade) (ts : List Trade) (x : List Int) : succs (t :: ts) x = if (mvV x t).2 = true then (mvV x t).1 :: succs ts x else succs ts x := by
  unfold succs
  rw [List.filterMap_cons]
  by_cases h : (mvV x t).2 = true
  · rw [if_pos h, if_pos h]
  · rw [if_neg h, if_neg h]
theorem app_at {out : List (List Int)} {i : Nat} {x : List Int} (y : List Int) (h : out[i]? = some x) : (out ++ [y])[i]? = some x := by
  rw [List.getElem?_append_left (List.getElem?_eq_some_iff.1 h).1]; exact h
def MOk (M : List ((Int × Int × Int) × Bool)) (out : List (List Int)) : Prop := ∀ x, vh 40 x = true → (mpGet .bool (keyT x) M = true ↔ x ∈ out)
theorem MOk.add {M : List ((Int × Int × Int) × Bool)} {out : List (List Int)} (h : MOk M out) {y : List Int} (hy : vh 40 y = true) : MOk (mpSet .bool (keyT y) true M) (out ++ [y]) := by
  intro x hx
  rw [mp_get_set]
  by_cases e : keyT x = keyT y
  · rw [if_pos e, keyT_inj hx hy e]; simp
  · rw [if_neg e, h x hx]
    have : x ≠ y := fun e' => e (by rw [e'])
    simp [this]
theorem mv_len {x : List Int} {t : Trade} (hx : vh 40 x = true) (ht : tv t = true) (hd : (mvV x t).2 = true) : (mvV x t).1.length = 3 := (vh_len (mvV_ok hx ht hd)).1
theorem implReach_ev (h : List Int) (ts : List Trade) (hl : h.length ≤ 1048576) (h2 : ts.length ≤ 1048576) (hr : ∀ t ∈ ts, TrOk t) : Ev (fun k => impl_HeapsReached.f k h ts) (reachV ts h) := by
  refine ev_succ (fun k => impl_HeapsReached.f_eq k _ _) (ev_bind (ev_succ (fun k => impl_HeapsValid.f_eq k _) (ev_bind (thingsOk_ev h 40 (by omega)) (ev_some.2 rfl))) ?_)
  unfold reachV
  cases hh : vh 40 h with
  | false => exact ev_nt rfl (ev_some.2 (by simp))
  | true =>
    refine ev_nf rfl (ev_bind (implTsV_ev ts h2 hr) ?_)
    cases ht : tsV ts with
    | false => exact ev_nt rfl (ev_some.2 (by simp))
    | true =>
      rw [if_pos ⟨rfl, rfl⟩]
      have hts := (tsV_of ht).1
      have h4 := (tsV_of ht).2
      have inner : ∀ (d j i : Nat) (out : List (List Int)) (M : List ((Int × Int × Int) × Bool)) (x : List Int), j + d = ts.length → out[i]? = some x → vh 40 x = true → MOk M out → out.length ≤ 400 → ∀ r,
          ((addL (succs (ts.drop j) x) out).length ≤ 400 → ∀ M', MOk M' (addL (succs (ts.drop j) x) out) → Ev (fun k => impl_HeapsReached.l0 k ts (addL (succs (ts.drop j) x) out) M' (wr ((i : Int) + 1))) r) →
          ((addL (succs (ts.drop j) x) out).length > 400 → r = []) → Ev (fun k => impl_HeapsReached.l1 k ts out M (i : Int) ts (ts.length : Int) (j : Int)) r := by
        intro d
        induction d with
        | zero =>
          intro j i out M x hj hx hv hM ho r k1 k2
          refine ev_succ (fun k => impl_HeapsReached.l1_eq k _ _ _ _ _ _ _) (ev_df (by omega) ?_)
          rw [List.drop_eq_nil_of_le (show ts.length ≤ j by omega)] at k1
          exact k1 ho M hM
        | succ d ih =>
          intro j i out M x hj hx hv hM ho r k1 k2
          have hlt : j < ts.length := by omega
          have hil := (List.getElem?_eq_some_iff.1 hx).1
          have htj := hts ts[j] (List.getElem_mem hlt)
          rw [List.drop_eq_getElem_cons hlt, succs_cons] at k1 k2
          refine ev_succ (fun k => impl_HeapsReached.l1_eq k _ _ _ _ _ _ _) (ev_dt (by omega) (ev_gd (by omega) (ev_gd (by omega) ?_)))
          rw [at_out hx, at_tr hlt, w_succ (i := j) (by omega)]
          refine ev_bind (traded_ev hv htj) ?_
          cases hd : (mvV x ts[j]).2 with
          | false =>
            rw [hd] at k1 k2
            exact ev_nt rfl (ih (j + 1) i out M x (by omega) hx hv hM ho r k1 k2)
          | true =>
            rw [hd] at k1 k2
            simp only [if_true] at k1 k2
            have hy := mvV_ok hv htj hd
            have hy3 := mv_len hv htj hd
            unfold addL at k1 k2
            refine ev_nf rfl (ev_gd (by omega) ?_)
            by_cases hm : (mvV x ts[j]).1 ∈ out
            · rw [if_pos hm] at k1 k2
              exact ev_bt ((hM _ hy).2 hm) (ih (j + 1) i out M x (by omega) hx hv hM ho r k1 k2)
            · rw [if_neg hm] at k1 k2
              refine ev_bf (by cases hb : mpGet .bool (keyT (mvV x ts[j]).1) M with | false => exact hb | true => exact absurd ((hM _ hy).1 hb) hm) (ev_gd (by omega) (ev_gd (by rw [limE]; simp; omega) ?_))
              by_cases h400 : ((out ++ [(mvV x ts[j]).1]).length : Int) > 400
              · have := addL_len (succs (ts.drop (j + 1)) x) (out ++ [(mvV x ts[j]).1])
                exact ev_dt h400 (ev_some.2 (k2 (by omega)).symm)
              · refine ev_df h400 ?_
                exact ih (j + 1) i _ _ x (by omega) (app_at _ hx) hv (hM.add hy) (by omega) r k1 k2
      have outer : ∀ (f i : Nat) (out : List (List Int)) (M : List ((Int × Int × Int) × Bool)), out.length ≤ 400 → out ≠ [] → (∀ x ∈ out, vh 40 x = true) → MOk M out → i ≤ out.length → 401 < f + i → Ev (fun k => impl_HeapsReached.l0 k ts out M (i : Int)) ((reachL ts f i out).getD []) := by
        intro f
        induction f with
        | zero => intro i out M ho _ _ _ hi hf; omega
        | succ f ih =>
          intro i out M ho hne hv hM hi hf
          unfold reachL
          refine ev_succ (fun k => impl_HeapsReached.l0_eq k _ _ _ _) ?_
          cases hx : out[i]? with
          | none =>
            have := List.getElem?_eq_none_iff.1 hx
            refine ev_df (by omega) (ev_gate ?_ (ev_some.2 rfl))
            cases out with
            | nil => exact absurd rfl hne
            | cons a l => rfl
          | some x =>
            have hil := (List.getElem?_eq_some_iff.1 hx).1
            have hvx := hv x (List.mem_of_getElem? hx)
            refine ev_dt (by omega) (inner ts.length 0 i out M x (by omega) hx hvx hM ho _ ?_ ?_)
            · intro h400 M' hM'
              simp only [List.drop_zero] at h400 hM' ⊢
              rw [if_neg (by omega), w_succ (by omega)]
              have hal := addL_len (succs ts x) out
              refine ih (i + 1) _ M' h400 (fun e => by rw [e] at hal; simp at hal; exact hne hal) (fun y hy => ?_) hM' (by omega) (by omega)
              rcases (addL_mem _ _ _).1 hy with q | q
              · exact hv y q
              · exact succs_valid hts hvx q
            · intro h400
              simp only [List.drop_zero] at h400
              show (if (addL (succs ts x) out).length > 400 then none else reachL ts f (i + 1) (addL (succs ts x) out)).getD [] = []
              rw [if_pos h400]
              rfl
      refine ev_nf rfl (ev_bind (cloneI_ev h (by rw [limE]; omega)) (ev_gd (by rw [(vh_len hh).1]; omega) ?_))
      refine outer 402 0 [h] _ (by simp) (by simp) (fun x hx => by simp at hx; subst hx; exact hh) ?_ (by simp) (by omega)
      intro x hx
      show mpGet .bool (keyT x) (mpSet .bool (keyT h) true []) = true ↔ x ∈ [h]
      rw [mp_get_set]
      by_cases e : keyT x = keyT h
      · rw [if_pos e, keyT_inj hx hh e]; simp
      · rw [if_neg e]
        have : x ≠ h := fun e' => e (by rw [e'])
        simp [this, mpGet, zeroD]
def SOk (S : List Bool) (out : List (List Int)) : Prop := S.length = 68921 ∧ ∀ x, vh 40 x = true → (S.getD (codeZ x).toNat false = true ↔ x ∈ out)
theorem SOk.add {S : List Bool} {out : List (List Int)} (h : SOk S out) {y : List Int} (hy : vh 40 y = true) : SOk (S.set (codeZ y).toNat true) (out ++ [y]) := by
  refine ⟨by simp [h.1], fun x hx => ?_⟩
  have cx := codeZ_in hx
  have cy := codeZ_in hy
  have hlen := h.1
  rw [List.getD_eq_getElem?_getD, List.getElem?_set]
  by_cases e : (codeZ y).toNat = (codeZ x).toNat
  · rw [if_pos e, if_pos (by omega), codeZ_inj hx hy (by omega)]; simp
  · have := h.2 x hx
    rw [List.getD_eq_getElem?_getD] at this
    rw [if_neg e, this]
    have : x ≠ y := fun e' => e (by rw [e'])
    simp [this]
theorem tr_ok {t : Trade} (h : tv t = true) : TrOk t := by
  obtain ⟨⟨h1, _⟩, h2, _⟩ := tv_of h
  exact ⟨by unfold RowOk; omega, by unfold RowOk; omega⟩
theorem specReach_ev (h : List Int) (ts : List Trade) (hl : h.length ≤ 1048576) (h2 : ts.length ≤ 1048576) (hr : ∀ t ∈ ts, TrOk t) : Ev (fun k => spec_HeapsReached.f k h ts) (reachV ts h) := by
  refine ev_succ (fun k => spec_HeapsReached.f_eq k _ _) (ev_bind (ev_succ (fun k => spec_HeapsValid.f_eq k _) (ev_bind (l8List_ev h 40 (by omega)) (ev_some.2 rfl))) ?_)
  unfold reachV
  cases hh : vh 40 h with
  | false => exact ev_nt rfl (ev_some.2 (by simp))
  | true =>
    refine ev_nf rfl (ev_bind (specTsV_ev ts h2 hr) ?_)
    cases ht : tsV ts with
    | false => exact ev_nt rfl (ev_some.2 (by simp))
    | true =>
      rw [if_pos ⟨rfl, rfl⟩]
      have hts := (tsV_of ht).1
      have h4 := (tsV_of ht).2
      have inner : ∀ (d j i : Nat) (out : List (List Int)) (S : List Bool) (x : List Int), j + d = ts.length → out[i]? = some x → vh 40 x = true → SOk S out → out.length ≤ 400 + j → ∀ r,
          (∀ S', SOk S' (addL (succs (ts.drop j) x) out) → Ev (fun k => br (decide (((addL (succs (ts.drop j) x) out).length : Int) > 400)) (some ([] : List (List Int))) (spec_HeapsReached.l0 k ts (addL (succs (ts.drop j) x) out) S' (wr ((i : Int) + 1)))) r) →
          Ev (fun k => spec_HeapsReached.l1 k ts out S (i : Int) (j : Int)) r := by
        intro d
        induction d with
        | zero =>
          intro j i out S x hj hx hv hS ho r k1
          refine ev_succ (fun k => spec_HeapsReached.l1_eq k _ _ _ _ _) (ev_df (by omega) ?_)
          rw [List.drop_eq_nil_of_le (show ts.length ≤ j by omega)] at k1
          exact k1 S hS
        | succ d ih =>
          intro j i out S x hj hx hv hS ho r k1
          have hlt : j < ts.length := by omega
          have hil := (List.getElem?_eq_some_iff.1 hx).1
          have htj := hts ts[j] (List.getElem_mem hlt)
          rw [List.drop_eq_getElem_cons hlt, succs_cons] at k1
          refine ev_succ (fun k => spec_HeapsReached.l1_eq k _ _ _ _ _) (ev_dt (by omega) (ev_gd (by omega) (ev_gd (by omega) ?_)))
          rw [at_out hx, at_tr hlt, w_succ (i := j) (by omega)]
          have hdo := sDoT_ev x ts[j] (by rw [(vh_len hv).1]; omega) (tr_ok htj)
          rw [if_pos ⟨hv, htj⟩] at hdo
          refine ev_bind hdo ?_
          cases hd : (mvV x ts[j]).2 with
          | false =>
            rw [hd] at k1
            exact ev_bf rfl (ih (j + 1) i out S x (by omega) hx hv hS (by omega) r k1)
          | true =>
            rw [hd] at k1
            simp only [if_true] at k1
            have hy := mvV_ok hv htj hd
            have hc := codeZ_in hy
            have hS1 := hS.1
            unfold addL at k1
            refine ev_bt rfl (ev_bind (l8Code_ev hy) (ev_gd (by omega) ?_))
            by_cases hm : (mvV x ts[j]).1 ∈ out
            · rw [if_pos hm] at k1
              exact ev_nf ((hS.2 _ hy).2 hm) (ih (j + 1) i out S x (by omega) hx hv hS (by omega) r k1)
            · rw [if_neg hm] at k1
              refine ev_nt (by cases hb : S.getD (codeZ (mvV x ts[j]).1).toNat false with | false => rfl | true => exact absurd ((hS.2 _ hy).1 hb) hm) ?_
              refine ev_succ (fun k => spec_HeapsReached.j0_eq k _ _ _ _ _ _) (ev_bind (l8Code_ev hy) (ev_gd (by omega) (ev_gd (by omega) (ev_gd (by rw [limE]; simp; omega) ?_))))
              rw [w_succ (i := j) (by omega)]
              exact ih (j + 1) i _ _ x (by omega) (app_at _ hx) hv (hS.add hy) (by simp; omega) r k1
      have outer : ∀ (f i : Nat) (out : List (List Int)) (S : List Bool), out.length ≤ 400 → (∀ x ∈ out, vh 40 x = true) → SOk S out → i ≤ out.length → 401 < f + i → Ev (fun k => spec_HeapsReached.l0 k ts out S (i : Int)) ((reachL ts f i out).getD []) := by
        intro f
        induction f with
        | zero => intro i out S ho _ _ hi hf; omega
        | succ f ih =>
          intro i out S ho hv hS hi hf
          unfold reachL
          refine ev_succ (fun k => spec_HeapsReached.l0_eq k _ _ _ _) ?_
          cases hx : out[i]? with
          | none =>
            have := List.getElem?_eq_none_iff.1 hx
            exact ev_df (by omega) (ev_some.2 rfl)
          | some x =>
            have hil := (List.getElem?_eq_some_iff.1 hx).1
            have hvx := hv x (List.mem_of_getElem? hx)
            refine ev_dt (by omega) (inner ts.length 0 i out S x (by omega) hx hvx hS (by omega) _ ?_)
            intro S' hS'
            simp only [List.drop_zero] at hS' ⊢
            by_cases h400 : (addL (succs ts x) out).length > 400
            · rw [if_pos h400]
              exact ev_dt (by omega) (ev_some.2 rfl)
            · rw [if_neg h400, w_succ (by omega)]
              have hal := addL_len (succs ts x) out
              refine ev_df (by omega) (ih (i + 1) _ S' (by omega) (fun y hy => ?_) hS' (by omega) (by omega))
              rcases (addL_mem _ _ _).1 hy with q | q
              · exact hv y q
              · exact succs_valid hts hvx q
      have hc := codeZ_in hh
      refine ev_nf rfl (ev_gd (by rw [limE]; decide) (ev_gd (by rw [limE]; simp; omega) (ev_gd (by rw [limE]; simp) (ev_bind (l8Code_ev hh) (ev_gd (by rw [List.length_replicate]; omega) (ev_gd (by rw [List.length_replicate]; omega) ?_))))))
      refine outer 402 0 [h] _ (by simp) (fun x hx => by simp at hx; subst hx; exact hh) ?_ (by simp) (by omega)
      have hz : SOk (List.replicate (68921 : Int).toNat false) [] := ⟨by rw [List.length_replicate]; rfl, fun x hx => by
        have := codeZ_in hx
        rw [List.getD_eq_getElem?_getD, List.getElem?_replicate]
        split <;> simp⟩
      exact hz.add hh
/-! Rows of heaps, held against each other and looked through. -/
theorem sameLists_self (L : List (List Int)) (hl : L.length ≤ 1000000) (hv : ∀ x ∈ L, x.length ≤ 1000000) : Ev (fun k => laws_sameLists.f k L L) true := by
  refine ev_succ (fun k => laws_sameLists.f_eq k _ _) (ev_nf (decide_eq_true rfl) ?_)
  have loop : ∀ d i : Nat, i + d = L.length → Ev (fun k => laws_sameLists.l0 k L L (i : Int)) true := by
    intro d
    induction d with
    | zero => intro i hi; exact ev_succ (fun k => laws_sameLists.l0_eq k _ _ _) (ev_df (by omega) (ev_some.2 rfl))
    | succ d ih =>
      intro i hi
      have hil : i < L.length := by omega
      refine ev_succ (fun k => laws_sameLists.l0_eq k _ _ _) (ev_dt (by omega) (ev_gd (by omega) (ev_gd (by omega) ?_)))
      rw [at_out (List.getElem?_eq_getElem hil), w_succ (by omega)]
      exact ev_bind (sameInts_any _ _ (by have := hv _ (List.getElem_mem hil); omega)) (ev_nf (decide_eq_true rfl) (ih (i + 1) (by omega)))
  exact loop L.length 0 (by omega)
theorem hasList_ev (L : List (List Int)) (y : List Int) (hl : L.length ≤ 1000000) (hv : ∀ x ∈ L, x.length ≤ 1000000) : Ev (fun k => laws_hasList.f k L y) (decide (y ∈ L)) := by
  refine ev_succ (fun k => laws_hasList.f_eq k _ _) ?_
  have loop : ∀ d i : Nat, i + d = L.length → Ev (fun k => laws_hasList.l0 k L y (i : Int)) (decide (y ∈ L.drop i)) := by
    intro d
    induction d with
    | zero =>
      intro i hi
      refine ev_succ (fun k => laws_hasList.l0_eq k _ _ _) (ev_df (by omega) (ev_some.2 ?_))
      rw [List.drop_eq_nil_of_le (by omega)]; simp
    | succ d ih =>
      intro i hi
      have hil : i < L.length := by omega
      refine ev_succ (fun k => laws_hasList.l0_eq k _ _ _) (ev_dt (by omega) (ev_gd (by omega) ?_))
      rw [at_out (List.getElem?_eq_getElem hil), w_succ (by omega), List.drop_eq_getElem_cons hil]
      refine ev_bind (sameInts_any _ _ (by have := hv _ (List.getElem_mem hil); omega)) ?_
      by_cases e : L[i] = y
      · exact ev_bt (decide_eq_true e) (ev_some.2 (by simp [e]))
      · refine ev_bf (decide_eq_false e) ?_
        have := ih (i + 1) (by omega)
        have h2 : decide (y ∈ L[i] :: L.drop (i + 1)) = decide (y ∈ L.drop (i + 1)) := by
          rw [decide_eq_decide, List.mem_cons]
          exact ⟨fun q => q.resolve_left (fun q => e q.symm), .inr⟩
        rw [h2]
        exact this
  exact loop L.length 0 (by omega)
theorem iDoR_ev {x : List Int} {t : Trade} (hx : vh 40 x = true) (ht : tv t = true) : Ev (fun k => impl_TradeDo.f k x t) (mvV x t) := by
  refine ev_succ (fun k => impl_TradeDo.f_eq k _ _) (ev_bind (ev_succ (fun k => impl_HeapsValid.f_eq k _) (ev_bind (thingsOk_ev x 40 (by rw [(vh_len hx).1]; omega)) (ev_some.2 hx))) ?_)
  refine ev_nf rfl (ev_bind (implTV_ev t (tr_ok ht)) ?_)
  rw [ht]
  exact ev_nf rfl (ev_bind (traded_ev hx ht) (ev_some.2 rfl))
theorem Reach.in_ {ts : List Trade} {h : List Int} {L : List (List Int)} (hR : Reach ts h L) {i j : Nat} (hi : i < L.length) (hj : j < ts.length) (hd : (mvV L[i] ts[j]).2 = true) : (mvV L[i] ts[j]).1 ∈ L :=
  hR.closed L[i] (List.getElem_mem hi) _ (List.mem_filterMap.2 ⟨ts[j], List.getElem_mem hj, by rw [hd]; rfl⟩)
theorem Reach.small {ts : List Trade} {h : List Int} {L : List (List Int)} (hR : Reach ts h L) : ∀ x ∈ L, x.length ≤ 1000000 := fun x hx => by rw [(vh_len (hR.valid x hx)).1]; omega
/-! The longest rows of exchanges: plain. -/
def best (R : List Int → Int) : List (List Int) → Int → Int
  | [], n => n
  | y :: r, n => best R r (max n (R y + 1))
def Sol (ts : List Trade) (L : List (List Int)) (R : List Int → Int) : Prop := ∀ x ∈ L, R x = best R (succs ts x) 0
def upd1 (R : List Int → Int) (x : List Int) (v : Int) : List Int → Int := fun y => if y = x then v else R y
def rnd (ts : List Trade) : List (List Int) → (List Int → Int) → Bool → (List Int → Int) × Bool
  | [], R, b => (R, b)
  | x :: r, R, b => if best R (succs ts x) 0 = R x then rnd ts r R b else rnd ts r (upd1 R x (best R (succs ts x) 0)) true
def iterI (ts : List Trade) (L : List (List Int)) (h : List Int) : Nat → (List Int → Int) → Int
  | 0, _ => -1
  | n + 1, R => if (rnd ts L R false).2 = true then iterI ts L h n (rnd ts L R false).1 else (rnd ts L R false).1 h
def bs (S : List Int → Int) : List (List Int) → Int → Int
  | [], b => b
  | y :: r, b => if S y < 0 then -1 else bs S r (max b (S y + 1))
def rs (ts : List Trade) : List (List Int) → (List Int → Int) → Bool → (List Int → Int) × Bool
  | [], S, m => (S, m)
  | x :: r, S, m => if 0 ≤ S x then rs ts r S m else rs ts r (upd1 S x (bs S (succs ts x) 0)) (m || decide (bs S (succs ts x) 0 ≥ 0))
def iterS (ts : List Trade) (L : List (List Int)) (h : List Int) : Nat → (List Int → Int) → Int
  | 0, S => S h
  | n + 1, S => if (rs ts L.reverse S false).2 = true then iterS ts L h n (rs ts L.reverse S false).1 else (rs ts L.reverse S false).1 h
theorem best_ge (R : List Int → Int) : ∀ (ys : List (List Int)) (n : Int), n ≤ best R ys n ∧ ∀ y ∈ ys, R y + 1 ≤ best R ys n
  | [], n => ⟨Int.le_refl _, fun y hy => by simp at hy⟩
  | z :: r, n => by
    have ih := best_ge R r (max n (R z + 1))
    unfold best
    refine ⟨by omega, fun y hy => ?_⟩
    rcases List.mem_cons.1 hy with rfl | hy
    · omega
    · exact ih.2 y hy
theorem best_at (R : List Int → Int) : ∀ (ys : List (List Int)) (n : Int), best R ys n = n ∨ ∃ y ∈ ys, best R ys n = R y + 1
  | [], n => .inl rfl
  | z :: r, n => by
    unfold best
    rcases best_at R r (max n (R z + 1)) with h | ⟨y, hy, h⟩
    · rw [h]
      by_cases hm : n ≤ R z + 1
      · exact .inr ⟨z, by simp, by omega⟩
      · exact .inl (by omega)
    · exact .inr ⟨y, by simp [hy], h⟩
theorem best_congr {R R' : List Int → Int} : ∀ (ys : List (List Int)) (n : Int), (∀ y ∈ ys, R y = R' y) → best R ys n = best R' ys n
  | [], _, _ => rfl
  | z :: r, n, h => by
    unfold best
    rw [h z (by simp)]
    exact best_congr r _ (fun y hy => h y (by simp [hy]))
theorem Sol.nonneg {ts : List Trade} {L : List (List Int)} {R : List Int → Int} (h : Sol ts L R) {x : List Int} (hx : x ∈ L) : 0 ≤ R x := by rw [h x hx]; exact (best_ge R _ 0).1
theorem Sol.lt {ts : List Trade} {L : List (List Int)} {R : List Int → Int} (h : Sol ts L R) {x : List Int} (hx : x ∈ L) {y : List Int} (hy : y ∈ succs ts x) : R y + 1 ≤ R x := by rw [h x hx]; exact (best_ge R _ 0).2 y hy
theorem sol_unique {ts : List Trade} {L : List (List Int)} (hc : ∀ x ∈ L, ∀ y ∈ succs ts x, y ∈ L) {R R' : List Int → Int} (h : Sol ts L R) (h' : Sol ts L R') : ∀ (v : Nat) (x : List Int), x ∈ L → R x ≤ v → R' x = R x := by
  intro v
  induction v with
  | zero =>
    intro x hx hv
    rw [h' x hx]
    refine Eq.trans ?_ (h x hx).symm
    refine best_congr _ _ (fun y hy => ?_)
    have h1 := h.lt hx hy
    have h2 := h.nonneg (hc x hx y hy)
    omega
  | succ v ih =>
    intro x hx hv
    rw [h' x hx]
    refine Eq.trans ?_ (h x hx).symm
    refine best_congr _ _ (fun y hy => ?_)
    have h1 := h.lt hx hy
    exact ih y (hc x hx y hy) (by omega)
theorem sol_same {ts : List Trade} {L : List (List Int)} (hc : ∀ x ∈ L, ∀ y ∈ succs ts x, y ∈ L) {R R' : List Int → Int} (h : Sol ts L R) (h' : Sol ts L R') {x : List Int} (hx : x ∈ L) : R' x = R x :=
  sol_unique hc h h' (R x).toNat x hx (by have := h.nonneg hx; omega)
theorem pigeon : ∀ (m : Nat) (l : List Int), (∀ u : Nat, u ≤ m → (u : Int) ∈ l) → m + 1 ≤ l.length
  | 0, l, h => List.length_pos_of_mem (h 0 (Nat.le_refl _))
  | m + 1, l, h => by
    have hm := h (m + 1) (Nat.le_refl _)
    have h1 := pigeon m (l.erase ((m + 1 : Nat) : Int)) (fun u hu => (List.mem_erase_of_ne (by omega)).2 (h u (by omega)))
    have h2 := List.length_erase_of_mem hm
    have h3 := List.length_pos_of_mem hm
    omega
theorem sol_all {ts : List Trade} {L : List (List Int)} (hc : ∀ x ∈ L, ∀ y ∈ succs ts x, y ∈ L) {R : List Int → Int} (h : Sol ts L R) : ∀ (v : Nat) (x : List Int), x ∈ L → R x = v → ∀ u : Nat, u ≤ v → ∃ y ∈ L, R y = u := by
  intro v
  induction v with
  | zero => intro x hx hv u hu; exact ⟨x, hx, by omega⟩
  | succ v ih =>
    intro x hx hv u hu
    by_cases e : u = v + 1
    · exact ⟨x, hx, by omega⟩
    · rcases best_at R (succs ts x) 0 with h1 | ⟨y, hy, h1⟩
      · have := h x hx; omega
      · have := h x hx
        exact ih y (hc x hx y hy) (by omega) u (by omega)
theorem sol_lt {ts : List Trade} {L : List (List Int)} (hc : ∀ x ∈ L, ∀ y ∈ succs ts x, y ∈ L) {R : List Int → Int} (h : Sol ts L R) {x : List Int} (hx : x ∈ L) : R x < (L.length : Int) := by
  have h0 := h.nonneg hx
  have hp := pigeon (R x).toNat (L.map R) (fun u hu => by
    obtain ⟨y, hy, e⟩ := sol_all hc h (R x).toNat x hx (by omega) u hu
    exact List.mem_map.2 ⟨y, hy, e⟩)
  rw [List.length_map] at hp
  omega
/-! The program's rounds. -/
theorem rnd_true (ts : List Trade) : ∀ (l : List (List Int)) (R : List Int → Int), (rnd ts l R true).2 = true
  | [], _ => rfl
  | x :: r, R => by
    unfold rnd
    split
    · exact rnd_true ts r R
    · exact rnd_true ts r _
theorem rnd_same {ts : List Trade} : ∀ (l : List (List Int)) (R : List Int → Int), (rnd ts l R false).2 = false → (rnd ts l R false).1 = R ∧ ∀ x ∈ l, R x = best R (succs ts x) 0
  | [], R, _ => ⟨rfl, fun x hx => by simp at hx⟩
  | x :: r, R, h => by
    unfold rnd at h ⊢
    split at h
    · rename_i e
      rw [if_pos e]
      obtain ⟨h1, h2⟩ := rnd_same r R h
      refine ⟨h1, fun y hy => ?_⟩
      rcases List.mem_cons.1 hy with rfl | hy
      · exact e.symm
      · exact h2 y hy
    · rw [rnd_true] at h; cases h
theorem rnd_fix {ts : List Trade} {R : List Int → Int} {b : Bool} : ∀ l : List (List Int), (∀ x ∈ l, R x = best R (succs ts x) 0) → rnd ts l R b = (R, b)
  | [], _ => rfl
  | x :: r, h => by
    unfold rnd
    rw [if_pos (h x (by simp)).symm]
    exact rnd_fix r (fun y hy => h y (by simp [hy]))
theorem rnd_exact {ts : List Trade} {L : List (List Int)} (hc : ∀ x ∈ L, ∀ y ∈ succs ts x, y ∈ L) {Q : List Int → Int} (hQ : Sol ts L Q) (v : Int) : ∀ (l : List (List Int)) (R : List Int → Int) (b : Bool), (∀ x ∈ l, x ∈ L) → (∀ x ∈ L, Q x ≤ v → R x = Q x) →
    (∀ z ∈ L, Q z ≤ v + 1 → R z = Q z → (rnd ts l R b).1 z = Q z) ∧ (∀ z ∈ l, Q z ≤ v + 1 → (rnd ts l R b).1 z = Q z)
  | [], R, b, _, _ => ⟨fun z _ _ h => h, fun z hz => by simp at hz⟩
  | x :: r, R, b, hl, hE => by
    have hx := hl x (by simp)
    have hbest : Q x ≤ v + 1 → best R (succs ts x) 0 = Q x := fun hv => by
      rw [hQ x hx]
      refine best_congr _ _ (fun y hy => hE y (hc x hx y hy) ?_)
      have := hQ.lt hx hy
      omega
    have hE' : ∀ z ∈ L, Q z ≤ v + 1 → R z = Q z → upd1 R x (best R (succs ts x) 0) z = Q z := fun z hz hv e => by
      unfold upd1
      by_cases h : z = x
      · subst h; rw [if_pos rfl]; exact hbest hv
      · rw [if_neg h]; exact e
    unfold rnd
    split
    · rename_i e
      obtain ⟨i1, i2⟩ := rnd_exact hc hQ v r R b (fun y hy => hl y (by simp [hy])) hE
      refine ⟨i1, fun z hz hv => ?_⟩
      rcases List.mem_cons.1 hz with rfl | hz
      · exact i1 z hx hv (by rw [← e]; exact hbest hv)
      · exact i2 z hz hv
    · obtain ⟨i1, i2⟩ := rnd_exact hc hQ v r (upd1 R x (best R (succs ts x) 0)) true (fun y hy => hl y (by simp [hy])) (fun z hz hv => hE' z hz (by omega) (hE z hz hv))
      refine ⟨fun z hz hv e => i1 z hz hv (hE' z hz hv e), fun z hz hv => ?_⟩
      rcases List.mem_cons.1 hz with rfl | hz
      · refine i1 z hx hv ?_
        unfold upd1
        rw [if_pos rfl]; exact hbest hv
      · exact i2 z hz hv
theorem iterI_sol {ts : List Trade} {L : List (List Int)} {h : List Int} (hh : h ∈ L) (hc : ∀ x ∈ L, ∀ y ∈ succs ts x, y ∈ L) {Q : List Int → Int} (hQ : Sol ts L Q) : ∀ (n : Nat) (v : Nat) (R : List Int → Int), (∀ x ∈ L, Q x ≤ (v : Int) → R x = Q x) → L.length ≤ n + 1 + v → iterI ts L h (n + 1) R = Q h := by
  intro n
  induction n with
  | zero =>
    intro v R hE hn
    have hall : ∀ x ∈ L, R x = Q x := fun x hx => hE x hx (by have := sol_lt hc hQ hx; omega)
    unfold iterI
    rw [rnd_fix L (fun x hx => by rw [hall x hx, hQ x hx]; exact (best_congr _ _ (fun y hy => hall y (hc x hx y hy))).symm)]
    exact hall h hh
  | succ n ih =>
    intro v R hE hn
    unfold iterI
    cases hb : (rnd ts L R false).2 with
    | false =>
      obtain ⟨h1, h2⟩ := rnd_same L R hb
      rw [if_neg (by simp), h1]
      exact sol_same hc hQ (R' := R) h2 hh
    | true =>
      rw [if_pos rfl]
      exact ih (v + 1) _ (fun x hx hv => (rnd_exact hc hQ (v : Int) L R false (fun _ h => h) hE).2 x hx (by omega)) (by omega)
theorem iterI_none {ts : List Trade} {L : List (List Int)} {h : List Int} (hn : ¬ ∃ Q, Sol ts L Q) : ∀ (n : Nat) (R : List Int → Int), iterI ts L h n R = -1
  | 0, _ => rfl
  | n + 1, R => by
    unfold iterI
    cases hb : (rnd ts L R false).2 with
    | false => exact absurd ⟨R, (rnd_same L R hb).2⟩ hn
    | true => rw [if_pos rfl]; exact iterI_none hn n _
/-! The reference's rounds. -/
theorem bs_all {S : List Int → Int} : ∀ (ys : List (List Int)) (b : Int), (∀ y ∈ ys, 0 ≤ S y) → bs S ys b = best S ys b
  | [], _, _ => rfl
  | z :: r, b, h => by
    have := h z (by simp)
    unfold bs best
    rw [if_neg (by omega)]
    exact bs_all r _ (fun y hy => h y (by simp [hy]))
theorem bs_neg {S : List Int → Int} : ∀ (ys : List (List Int)) (b : Int), (∃ y ∈ ys, S y < 0) → bs S ys b = -1
  | [], _, h => by obtain ⟨y, hy, _⟩ := h; simp at hy
  | z :: r, b, h => by
    unfold bs
    by_cases hz : S z < 0
    · rw [if_pos hz]
    · rw [if_neg hz]
      obtain ⟨y, hy, h1⟩ := h
      rcases List.mem_cons.1 hy with rfl | hy
      · exact absurd h1 hz
      · exact bs_neg r _ ⟨y, hy, h1⟩
def SI (ts : List Trade) (L : List (List Int)) (S : List Int → Int) : Prop := ∀ x ∈ L, S x = -1 ∨ (0 ≤ S x ∧ (∀ y ∈ succs ts x, 0 ≤ S y) ∧ S x = best S (succs ts x) 0)
theorem all_or (S : List Int → Int) (ys : List (List Int)) : (∀ y ∈ ys, 0 ≤ S y) ∨ ∃ y ∈ ys, S y < 0 := by
  by_cases h : ∃ y ∈ ys, S y < 0
  · exact .inr h
  · exact .inl fun y hy => by
      by_cases h2 : S y < 0
      · exact absurd ⟨y, hy, h2⟩ h
      · omega
theorem upd_self {S : List Int → Int} {x : List Int} {v : Int} (h : S x = v) : upd1 S x v = S := by
  funext y
  unfold upd1
  split
  · rename_i e; rw [e, h]
  · rfl
/-- One step of a round. -/
theorem step_si {ts : List Trade} {L : List (List Int)} {S : List Int → Int} (hS : SI ts L S) {x : List Int} (hx : x ∈ L) (hu : ¬ 0 ≤ S x) :
    SI ts L (upd1 S x (bs S (succs ts x) 0)) ∧ (∀ z, 0 ≤ S z → upd1 S x (bs S (succs ts x) 0) z = S z) ∧ ((∀ y ∈ succs ts x, 0 ≤ S y) → 0 ≤ upd1 S x (bs S (succs ts x) 0) x ∧ 0 ≤ bs S (succs ts x) 0) ∧ ((∃ y ∈ succs ts x, S y < 0) → upd1 S x (bs S (succs ts x) 0) = S ∧ bs S (succs ts x) 0 = -1) := by
  have hkeep : ∀ z, 0 ≤ S z → upd1 S x (bs S (succs ts x) 0) z = S z := fun z hz => by
    unfold upd1
    rw [if_neg (fun e => hu (by rw [← e]; exact hz))]
  have hneg : (∃ y ∈ succs ts x, S y < 0) → upd1 S x (bs S (succs ts x) 0) = S ∧ bs S (succs ts x) 0 = -1 := fun h => by
    have h1 := bs_neg (succs ts x) 0 h
    rw [h1]
    exact ⟨upd_self ((hS x hx).resolve_right (fun q => hu q.1)), rfl⟩
  have hpos : (∀ y ∈ succs ts x, 0 ≤ S y) → 0 ≤ upd1 S x (bs S (succs ts x) 0) x ∧ 0 ≤ bs S (succs ts x) 0 := fun h => by
    have h1 := bs_all (succs ts x) 0 h
    have h2 := (best_ge S (succs ts x) 0).1
    rw [h1]
    unfold upd1
    rw [if_pos rfl]
    exact ⟨h2, h2⟩
  refine ⟨?_, hkeep, hpos, hneg⟩
  rcases all_or S (succs ts x) with h | h
  · intro z hz
    by_cases e : z = x
    · subst e
      refine .inr ⟨(hpos h).1, fun y hy => by rw [hkeep y (h y hy)]; exact h y hy, ?_⟩
      have h1 : upd1 S z (bs S (succs ts z) 0) z = bs S (succs ts z) 0 := by unfold upd1; rw [if_pos rfl]
      rw [h1, bs_all _ _ h]
      exact best_congr _ _ (fun y hy => by rw [← bs_all (succs ts z) 0 h, hkeep y (h y hy)])
    · have h1 : upd1 S x (bs S (succs ts x) 0) z = S z := by unfold upd1; rw [if_neg e]
      rcases hS z hz with q | ⟨q1, q2, q3⟩
      · exact .inl (h1.trans q)
      · refine .inr ⟨by rw [h1]; exact q1, fun y hy => by rw [hkeep y (q2 y hy)]; exact q2 y hy, ?_⟩
        rw [h1, q3]
        exact best_congr _ _ (fun y hy => (hkeep y (q2 y hy)).symm)
  · rw [(hneg h).1]; exact hS
theorem rs_spec {ts : List Trade} {L : List (List Int)} : ∀ (l : List (List Int)) (S : List Int → Int) (m : Bool), (∀ x ∈ l, x ∈ L) → SI ts L S →
    SI ts L (rs ts l S m).1 ∧ (∀ z, 0 ≤ S z → (rs ts l S m).1 z = S z) ∧ (∀ x ∈ l, (∀ y ∈ succs ts x, 0 ≤ S y) → 0 ≤ (rs ts l S m).1 x) ∧
    ((rs ts l S m).2 = false → m = false ∧ (rs ts l S m).1 = S ∧ ∀ x ∈ l, 0 ≤ S x ∨ ∃ y ∈ succs ts x, S y < 0)
  | [], S, m, _, hS => ⟨hS, fun _ _ => rfl, fun x hx => by simp at hx, fun h => ⟨h, rfl, fun x hx => by simp at hx⟩⟩
  | x :: r, S, m, hl, hS => by
    have hx := hl x (by simp)
    unfold rs
    by_cases hd : 0 ≤ S x
    · rw [if_pos hd]
      obtain ⟨i1, i2, i3, i4⟩ := rs_spec r S m (fun y hy => hl y (by simp [hy])) hS
      refine ⟨i1, i2, fun z hz hy => ?_, fun h => ?_⟩
      · rcases List.mem_cons.1 hz with rfl | hz
        · rw [i2 z hd]; exact hd
        · exact i3 z hz hy
      · obtain ⟨j1, j2, j3⟩ := i4 h
        refine ⟨j1, j2, fun z hz => ?_⟩
        rcases List.mem_cons.1 hz with rfl | hz
        · exact .inl hd
        · exact j3 z hz
    · rw [if_neg hd]
      obtain ⟨s1, s2, s3, s4⟩ := step_si hS hx hd
      obtain ⟨i1, i2, i3, i4⟩ := rs_spec r _ (m || decide (bs S (succs ts x) 0 ≥ 0)) (fun y hy => hl y (by simp [hy])) s1
      refine ⟨i1, fun z hz => ?_, fun z hz hy => ?_, fun h => ?_⟩
      · rw [i2 z (by rw [s2 z hz]; exact hz), s2 z hz]
      · rcases List.mem_cons.1 hz with rfl | hz
        · have := (s3 hy).1
          rw [i2 z this]; exact this
        · exact i3 z hz (fun y hyy => by rw [s2 y (hy y hyy)]; exact hy y hyy)
      · obtain ⟨j1, j2, j3⟩ := i4 h
        rw [Bool.or_eq_false_iff, decide_eq_false_iff_not] at j1
        rcases all_or S (succs ts x) with q | q
        · have := (s3 q).2; omega
        · obtain ⟨q1, q2⟩ := s4 q
          rw [q1] at j2 j3 ⊢
          refine ⟨j1.1, j2, fun z hz => ?_⟩
          rcases List.mem_cons.1 hz with rfl | hz
          · exact .inr q
          · exact j3 z hz
theorem done_val {ts : List Trade} {L : List (List Int)} (hc : ∀ x ∈ L, ∀ y ∈ succs ts x, y ∈ L) {Q S : List Int → Int} (hQ : Sol ts L Q) (hS : SI ts L S) : ∀ (v : Nat) (x : List Int), x ∈ L → 0 ≤ S x → S x ≤ v → S x = Q x := by
  intro v
  induction v with
  | zero =>
    intro x hx h0 hv
    rcases hS x hx with q | ⟨q1, q2, q3⟩
    · omega
    · rw [q3, hQ x hx]
      refine best_congr _ _ (fun y hy => ?_)
      have := (best_ge S (succs ts x) 0).2 y hy
      have := q2 y hy
      omega
  | succ v ih =>
    intro x hx h0 hv
    rcases hS x hx with q | ⟨q1, q2, q3⟩
    · omega
    · rw [q3, hQ x hx]
      refine best_congr _ _ (fun y hy => ih y (hc x hx y hy) (q2 y hy) ?_)
      have := (best_ge S (succs ts x) 0).2 y hy
      omega
theorem iterS_sol {ts : List Trade} {L : List (List Int)} {h : List Int} (hh : h ∈ L) (hc : ∀ x ∈ L, ∀ y ∈ succs ts x, y ∈ L) {Q : List Int → Int} (hQ : Sol ts L Q) : ∀ (n v : Nat) (S : List Int → Int), SI ts L S → (∀ x ∈ L, Q x < (v : Int) → 0 ≤ S x) → L.length ≤ n + v → iterS ts L h n S = Q h := by
  intro n
  induction n with
  | zero =>
    intro v S hS hE hn
    have h0 := hE h hh (by have := sol_lt hc hQ hh; omega)
    exact done_val hc hQ hS (S h).toNat h hh h0 (by omega)
  | succ n ih =>
    intro v S hS hE hn
    obtain ⟨i1, i2, i3, i4⟩ := rs_spec L.reverse S false (fun x hx => List.mem_reverse.1 hx) hS
    unfold iterS
    cases hb : (rs ts L.reverse S false).2 with
    | true =>
      rw [if_pos rfl]
      refine ih (v + 1) _ i1 (fun x hx hv => i3 x (List.mem_reverse.2 hx) (fun y hy => hE y (hc x hx y hy) ?_)) (by omega)
      have := hQ.lt hx hy
      omega
    | false =>
      rw [if_neg (by simp)]
      obtain ⟨_, j2, j3⟩ := i4 hb
      rw [j2]
      have all : ∀ (u : Nat) (x : List Int), x ∈ L → Q x < (u : Int) → 0 ≤ S x := by
        intro u
        induction u with
        | zero => intro x hx hu; have := hQ.nonneg hx; omega
        | succ u ihu =>
          intro x hx hu
          rcases j3 x (List.mem_reverse.2 hx) with q | ⟨y, hy, q⟩
          · exact q
          · have := hQ.lt hx hy
            have := ihu y (hc x hx y hy) (by omega)
            omega
      have h0 := all ((Q h).toNat + 1) h hh (by have := hQ.nonneg hh; omega)
      exact done_val hc hQ hS (S h).toNat h hh h0 (by omega)
theorem iterS_none {ts : List Trade} {L : List (List Int)} {h : List Int} (hR : Reach ts h L) (hn : ¬ ∃ Q, Sol ts L Q) : ∀ (n : Nat) (S : List Int → Int), SI ts L S → iterS ts L h n S = -1 := by
  have hh : h ∈ L := List.mem_of_getElem? hR.first
  have fin : ∀ S : List Int → Int, SI ts L S → S h = -1 := fun S hS => by
    rcases hS h hh with q | ⟨q1, q2, q3⟩
    · exact q
    · exfalso
      have all : ∀ (j : Nat) (x : List Int), L[j]? = some x → 0 ≤ S x := by
        intro j
        induction j using Nat.strongRecOn with
        | _ j ih =>
          intro x hx
          by_cases h0 : j = 0
          · subst h0
            have : x = h := by rw [hR.first] at hx; exact (Option.some.inj hx).symm
            rw [this]; exact q1
          · obtain ⟨j', x', h1, h2, h3⟩ := hR.from' j x (by omega) hx
            have h4 := ih j' h1 x' h2
            rcases hS x' (List.mem_of_getElem? h2) with p | ⟨p1, p2, p3⟩
            · omega
            · exact p2 x h3
      refine hn ⟨S, fun x hx => ?_⟩
      obtain ⟨j, hj⟩ := List.getElem?_of_mem hx
      have := all j x hj
      rcases hS x hx with p | ⟨p1, p2, p3⟩
      · omega
      · exact p3
  intro n
  induction n with
  | zero => intro S hS; exact fin S hS
  | succ n ih =>
    intro S hS
    obtain ⟨i1, _⟩ := rs_spec L.reverse S false (fun x hx => List.mem_reverse.1 hx) hS
    unfold iterS
    split
    · exact ih _ i1
    · exact fin _ i1
def longV (ts : List Trade) (h : List Int) : Int := if reachV ts h = [] then -1 else iterI ts (reachV ts h) h (reachV ts h).length (fun _ => 0)
theorem long_cases {ts : List Trade} {h : List Int} (hne : reachV ts h ≠ []) : (∃ Q, Sol ts (reachV ts h) Q ∧ longV ts h = Q h ∧ 0 ≤ Q h ∧ iterS ts (reachV ts h) h ((reachV ts h).length + 1) (fun _ => -1) = Q h) ∨ ((¬ ∃ Q, Sol ts (reachV ts h) Q) ∧ longV ts h = -1 ∧ iterS ts (reachV ts h) h ((reachV ts h).length + 1) (fun _ => -1) = -1) := by
  obtain ⟨hR, _, _⟩ := reach_of hne
  have hh : h ∈ reachV ts h := List.mem_of_getElem? hR.first
  unfold longV
  rw [if_neg hne]
  have hsi : SI ts (reachV ts h) (fun _ => -1) := fun x _ => .inl rfl
  by_cases hx : ∃ Q, Sol ts (reachV ts h) Q
  · obtain ⟨Q, hQ⟩ := hx
    refine .inl ⟨Q, hQ, ?_, hQ.nonneg hh, iterS_sol hh hR.closed hQ _ 0 _ hsi (fun x hx hv => by have := hQ.nonneg hx; omega) (by omega)⟩
    have hl : 0 < (reachV ts h).length := List.length_pos_of_mem hh
    obtain ⟨n, hn⟩ : ∃ n, (reachV ts h).length = n + 1 := ⟨(reachV ts h).length - 1, by omega⟩
    rw [hn]
    exact iterI_sol hh hR.closed hQ n 0 _ (fun x hx hv => by have := hQ.nonneg hx; show (0 : Int) = Q x; omega) (by omega)
  · exact .inr ⟨hx, iterI_none hx _ _, iterS_none hR hx _ _ hsi⟩
/-- What comes of a heap that is reached. -/
theorem long_next {ts : List Trade} {h : List Int} (hne : reachV ts h ≠ []) {Q : List Int → Int} (hQ : Sol ts (reachV ts h) Q) {y : List Int} (hy : y ∈ reachV ts h) : longV ts y = Q y := by
  obtain ⟨hR, hh, htV⟩ := reach_of hne
  have hv := hR.valid y hy
  obtain ⟨L', e1, e2, r, e3⟩ := reachL_some hR.closed hR.len 402 0 [y] (by simp) (fun x hx => by simp at hx; subst hx; exact hy) (by simp) (by omega)
  have hV : reachV ts y = L' := by unfold reachV; rw [if_pos ⟨hv, htV⟩, e1]; rfl
  have hne' : reachV ts y ≠ [] := by rw [hV, e3]; simp
  have hy' : y ∈ reachV ts y := by rw [hV, e3]; simp
  have hQ' : Sol ts (reachV ts y) Q := fun x hx => hQ x (e2 x (by rw [← hV]; exact hx))
  rcases long_cases hne' with ⟨Q', h1, h2, _⟩ | ⟨h1, _⟩
  · rw [h2]
    exact sol_same (reach_of hne').1.closed hQ' h1 hy'
  · exact absurd ⟨Q, hQ'⟩ h1
/-- Where it is told, it comes of a way to count. -/
theorem long_sol {ts : List Trade} {h : List Int} (hn : 0 ≤ longV ts h) : reachV ts h ≠ [] ∧ ∃ Q, Sol ts (reachV ts h) Q ∧ longV ts h = Q h := by
  have hne : reachV ts h ≠ [] := fun e => by
    have : longV ts h = -1 := by unfold longV; rw [if_pos e]
    omega
  refine ⟨hne, ?_⟩
  rcases long_cases hne with ⟨Q, h1, h2, _⟩ | ⟨_, h2, _⟩
  · exact ⟨Q, h1, h2⟩
  · omega
theorem long_neg {ts : List Trade} {h : List Int} (hn : ¬ 0 ≤ longV ts h) : longV ts h = -1 := by
  by_cases hne : reachV ts h = []
  · unfold longV; rw [if_pos hne]
  · rcases long_cases hne with ⟨Q, h1, h2, h3, _⟩ | ⟨_, h2, _⟩
    · omega
    · exact h2
/-! What can be done. -/
def mayL (h : List Int) : List Trade → Int → List Int
  | [], _ => []
  | t :: ts, i => if (mvV h t).2 = true then i :: mayL h ts (i + 1) else mayL h ts (i + 1)
def mayV (h : List Int) (ts : List Trade) : List Int := if vh 40 h = true ∧ tsV ts = true then mayL h ts 0 else []
theorem mayL_len (h : List Int) : ∀ (ts : List Trade) (i : Int), (mayL h ts i).length ≤ ts.length
  | [], _ => by simp [mayL]
  | t :: ts, i => by
    rw [mayL]
    have := mayL_len h ts (i + 1)
    split <;> simp <;> omega
theorem mayV_len (h : List Int) (ts : List Trade) : (mayV h ts).length ≤ 4 := by
  unfold mayV
  split
  · rename_i hc
    have := mayL_len h ts 0
    have := (tsV_of hc.2).2
    omega
  · simp
theorem iMay_ev (h : List Int) (ts : List Trade) (hl : h.length ≤ 1000000000) (h2 : ts.length ≤ 1048576) (hr : ∀ t ∈ ts, TrOk t) : Ev (fun k => impl_TradesMay.f k h ts) (mayV h ts) := by
  refine ev_succ (fun k => impl_TradesMay.f_eq k _ _) (ev_bind (ev_succ (fun k => impl_HeapsValid.f_eq k _) (ev_bind (thingsOk_ev h 40 (by omega)) (ev_some.2 rfl))) ?_)
  unfold mayV
  cases hh : vh 40 h with
  | false => exact ev_nt rfl (ev_some.2 (by simp))
  | true =>
    refine ev_nf rfl (ev_bind (implTsV_ev ts h2 hr) ?_)
    cases ht : tsV ts with
    | false => exact ev_nt rfl (ev_some.2 (by simp))
    | true =>
      refine ev_nf rfl ?_
      rw [if_pos ⟨rfl, rfl⟩]
      have hts := (tsV_of ht).1
      have h4 := (tsV_of ht).2
      have loop : ∀ (d i : Nat) (acc : List Int), i + d = ts.length → acc.length ≤ i → Ev (fun k => impl_TradesMay.l0 k h acc ts (ts.length : Int) (i : Int)) (acc ++ mayL h (ts.drop i) (i : Int)) := by
        intro d
        induction d with
        | zero =>
          intro i acc hi ha
          refine ev_succ (fun k => impl_TradesMay.l0_eq k _ _ _ _ _) (ev_df (by omega) (ev_some.2 ?_))
          rw [List.drop_eq_nil_of_le (by omega)]; simp [mayL]
        | succ d ih =>
          intro i acc hi ha
          have hlt : i < ts.length := by omega
          refine ev_succ (fun k => impl_TradesMay.l0_eq k _ _ _ _ _) (ev_dt (by omega) (ev_gd (by omega) ?_))
          rw [at_nat hlt, List.drop_eq_getElem_cons hlt, mayL, w_succ (by omega)]
          refine ev_bind (traded_ev hh (hts _ (List.getElem_mem hlt))) ?_
          cases hd : (mvV h ts[i]).2 with
          | false =>
            refine ev_bf rfl ?_
            rw [if_neg (by simp)]
            exact ih (i + 1) acc (by omega) (by omega)
          | true =>
            refine ev_bt rfl (ev_gd (by rw [limE]; simp; omega) ?_)
            rw [if_pos rfl]
            have := ih (i + 1) (acc ++ [(i : Int)]) (by omega) (by simp; omega)
            refine ev_eq this ?_
            rw [List.append_assoc]; rfl
      have := loop ts.length 0 [] (by omega) (by simp)
      simpa using this
theorem sMay_ev (h : List Int) (ts : List Trade) (hl : h.length ≤ 1000000000) (h2 : ts.length ≤ 1048576) (hr : ∀ t ∈ ts, TrOk t) : Ev (fun k => spec_TradesMay.f k h ts) (mayV h ts) := by
  refine ev_succ (fun k => spec_TradesMay.f_eq k _ _) ?_
  unfold mayV
  by_cases ht : tsV ts = true
  · have hts := (tsV_of ht).1
    have h4 := (tsV_of ht).2
    have loop : ∀ (d i : Nat) (acc : List Int), i + d = ts.length → acc.length ≤ i → Ev (fun k => spec_TradesMay.l0 k h ts acc (i : Int)) (acc ++ if vh 40 h = true then mayL h (ts.drop i) (i : Int) else []) := by
      intro d
      induction d with
      | zero =>
        intro i acc hi ha
        refine ev_succ (fun k => spec_TradesMay.l0_eq k _ _ _ _) (ev_df (by omega) (ev_some.2 ?_))
        rw [List.drop_eq_nil_of_le (by omega)]; simp [mayL]
      | succ d ih =>
        intro i acc hi ha
        have hlt : i < ts.length := by omega
        refine ev_succ (fun k => spec_TradesMay.l0_eq k _ _ _ _) (ev_dt (by omega) (ev_bind (specTsV_ev ts h2 hr) (ev_bt ht (ev_gd (by omega) ?_))))
        rw [at_nat hlt, List.drop_eq_getElem_cons hlt, mayL, w_succ (by omega)]
        refine ev_bind (sDoT_ev h ts[i] hl (hr _ (List.getElem_mem hlt))) ?_
        cases hh : vh 40 h with
        | false =>
          rw [if_neg (by simp)]
          refine ev_bf rfl ?_
          have := ih (i + 1) acc (by omega) (by omega)
          rw [hh] at this
          simpa using this
        | true =>
          rw [if_pos ⟨rfl, hts _ (List.getElem_mem hlt)⟩]
          cases hd : (mvV h ts[i]).2 with
          | false =>
            refine ev_bf rfl ?_
            have := ih (i + 1) acc (by omega) (by omega)
            rw [hh] at this
            simpa using this
          | true =>
            refine ev_bt rfl (ev_gd (by rw [limE]; simp; omega) ?_)
            have := ih (i + 1) (acc ++ [(i : Int)]) (by omega) (by simp; omega)
            rw [hh] at this
            simpa using this
    have := loop ts.length 0 [] (by omega) (by simp)
    refine ev_eq this ?_
    cases vh 40 h <;> simp [ht]
  · refine ev_succ (fun k => spec_TradesMay.l0_eq k _ _ _ _) ?_
    rw [if_neg (fun hc => ht hc.2)]
    by_cases h0 : (0 : Int) < (ts.length : Int)
    · exact ev_dt h0 (ev_bind (specTsV_ev ts h2 hr) (ev_bf (by simpa using ht) (ev_some.2 rfl)))
    · exact ev_df h0 (ev_some.2 rfl)
/-! The heaps where nothing more can be done. -/
theorem mayL_nil (h : List Int) : ∀ (ts : List Trade) (i : Int), mayL h ts i = [] ↔ succs ts h = []
  | [], i => by simp [mayL, succs]
  | t :: ts, i => by
    rw [mayL, succs_cons]
    by_cases hd : (mvV h t).2 = true
    · rw [if_pos hd, if_pos hd]; simp
    · rw [if_neg hd, if_neg hd]; exact mayL_nil h ts (i + 1)
theorem mayL_in (h : List Int) : ∀ (ts : List Trade) (i : Nat) (x : Int), x ∈ mayL h ts (i : Int) → ∃ j : Nat, x = (i : Int) + j ∧ ∃ hj : j < ts.length, (mvV h ts[j]).2 = true
  | [], i, x, hx => by simp [mayL] at hx
  | t :: ts, i, x, hx => by
    rw [mayL] at hx
    have rec_ : x ∈ mayL h ts ((i : Int) + 1) → ∃ j : Nat, x = (i : Int) + j ∧ ∃ hj : j < (t :: ts).length, (mvV h (t :: ts)[j]).2 = true := fun hx => by
      obtain ⟨j, e, hj, hd⟩ := mayL_in h ts (i + 1) x hx
      exact ⟨j + 1, by omega, by simp; omega, hd⟩
    split at hx
    · rename_i hd
      rcases List.mem_cons.1 hx with q | q
      · exact ⟨0, by omega, by simp, hd⟩
      · exact rec_ q
    · exact rec_ hx
theorem mayV_in {h : List Int} {ts : List Trade} {x : Int} (hx : x ∈ mayV h ts) : vh 40 h = true ∧ tsV ts = true ∧ (0 ≤ x ∧ x < (ts.length : Int)) := by
  unfold mayV at hx
  split at hx
  · rename_i hc
    obtain ⟨j, e, hj, _⟩ := mayL_in h ts 0 x hx
    exact ⟨hc.1, hc.2, by omega, by omega⟩
  · simp at hx
def lastL (ts : List Trade) (L : List (List Int)) : List (List Int) := L.filter fun x => (mayV x ts).isEmpty
def lastV (ts : List Trade) (h : List Int) : List (List Int) := lastL ts (reachV ts h)
theorem lastL_at (ts : List Trade) {L : List (List Int)} {i : Nat} (hi : i < L.length) : lastL ts (L.drop i) = if mayV L[i] ts = [] then L[i] :: lastL ts (L.drop (i + 1)) else lastL ts (L.drop (i + 1)) := by
  unfold lastL
  rw [List.drop_eq_getElem_cons hi, List.filter_cons]
  by_cases h : mayV L[i] ts = []
  · rw [if_pos h, h]; rfl
  · rw [if_neg h, if_neg (fun q => h (List.isEmpty_iff.1 q))]
theorem reachV_facts (ts : List Trade) (h : List Int) : (reachV ts h).length ≤ 400 ∧ ∀ x ∈ reachV ts h, x.length ≤ 1000000 := by
  by_cases hne : reachV ts h = []
  · rw [hne]; simp
  · obtain ⟨hR, _, _⟩ := reach_of hne
    exact ⟨hR.len, hR.small⟩
theorem len0 {α : Type} {l : List α} : ((l.length : Int) = 0) ↔ l = [] := by
  rw [← List.length_eq_zero_iff]; omega
theorem implLast_ev (h : List Int) (ts : List Trade) (hl : h.length ≤ 1048576) (h2 : ts.length ≤ 1048576) (hr : ∀ t ∈ ts, TrOk t) : Ev (fun k => impl_HeapsLast.f k h ts) (lastV ts h) := by
  refine ev_succ (fun k => impl_HeapsLast.f_eq k _ _) (ev_bind (implReach_ev h ts hl h2 hr) ?_)
  obtain ⟨f1, f2⟩ := reachV_facts ts h
  unfold lastV
  generalize reachV ts h = L at f1 f2 ⊢
  have loop : ∀ (d i : Nat) (acc : List (List Int)), i + d = L.length → acc.length ≤ i → Ev (fun k => impl_HeapsLast.l0 k ts acc L (L.length : Int) (i : Int)) (acc ++ lastL ts (L.drop i)) := by
    intro d
    induction d with
    | zero =>
      intro i acc hi ha
      refine ev_succ (fun k => impl_HeapsLast.l0_eq k _ _ _ _ _) (ev_df (by omega) (ev_some.2 ?_))
      rw [List.drop_eq_nil_of_le (by omega)]; simp [lastL]
    | succ d ih =>
      intro i acc hi ha
      have hil : i < L.length := by omega
      refine ev_succ (fun k => impl_HeapsLast.l0_eq k _ _ _ _ _) (ev_dt (by omega) (ev_gd (by omega) ?_))
      rw [at_out (List.getElem?_eq_getElem hil), w_succ (by omega), lastL_at ts hil]
      refine ev_bind (iMay_ev L[i] ts (by have := f2 _ (List.getElem_mem hil); omega) h2 hr) ?_
      by_cases e : mayV L[i] ts = []
      · rw [if_pos e]
        have := ih (i + 1) (acc ++ [L[i]]) (by omega) (by simp; omega)
        rw [List.append_assoc] at this
        exact ev_dt (len0.2 e) (ev_gd (by rw [limE]; simp; omega) this)
      · rw [if_neg e]
        exact ev_df (fun q => e (len0.1 q)) (ih (i + 1) acc (by omega) (by omega))
  have := loop L.length 0 [] (by omega) (by simp)
  simpa using this
theorem specLast_ev (h : List Int) (ts : List Trade) (hl : h.length ≤ 1048576) (h2 : ts.length ≤ 1048576) (hr : ∀ t ∈ ts, TrOk t) : Ev (fun k => spec_HeapsLast.f k h ts) (lastV ts h) := by
  refine ev_succ (fun k => spec_HeapsLast.f_eq k _ _) (ev_bind (specReach_ev h ts hl h2 hr) ?_)
  obtain ⟨f1, f2⟩ := reachV_facts ts h
  unfold lastV
  generalize reachV ts h = L at f1 f2 ⊢
  have loop : ∀ (d i : Nat) (acc : List (List Int)), i + d = L.length → acc.length ≤ i → Ev (fun k => spec_HeapsLast.l0 k ts acc L (i : Int)) (acc ++ lastL ts (L.drop i)) := by
    intro d
    induction d with
    | zero =>
      intro i acc hi ha
      refine ev_succ (fun k => spec_HeapsLast.l0_eq k _ _ _ _) (ev_df (by omega) (ev_some.2 ?_))
      rw [List.drop_eq_nil_of_le (by omega)]; simp [lastL]
    | succ d ih =>
      intro i acc hi ha
      have hil : i < L.length := by omega
      refine ev_succ (fun k => spec_HeapsLast.l0_eq k _ _ _ _) (ev_dt (by omega) (ev_gd (by omega) ?_))
      rw [at_out (List.getElem?_eq_getElem hil), w_succ (by omega), lastL_at ts hil]
      refine ev_bind (sMay_ev L[i] ts (by have := f2 _ (List.getElem_mem hil); omega) h2 hr) ?_
      by_cases e : mayV L[i] ts = []
      · rw [if_pos e]
        have := ih (i + 1) (acc ++ [L[i]]) (by omega) (by simp; omega)
        rw [List.append_assoc] at this
        exact ev_dt (len0.2 e) (ev_gd (by omega) (ev_gd (by rw [limE]; simp; omega) this))
      · rw [if_neg e]
        exact ev_df (fun q => e (len0.1 q)) (ih (i + 1) acc (by omega) (by omega))
  have := loop L.length 0 [] (by omega) (by simp)
  simpa using this
/-- Where the longest row is told, there is a last heap. -/
theorem last_some {ts : List Trade} {h : List Int} (hn : 0 ≤ longV ts h) : lastV ts h ≠ [] := by
  obtain ⟨hne, Q, hQ, e⟩ := long_sol hn
  obtain ⟨hR, hh, htV⟩ := reach_of hne
  have hh' : h ∈ reachV ts h := List.mem_of_getElem? hR.first
  obtain ⟨y, hy, h0⟩ := sol_all hR.closed hQ (Q h).toNat h hh' (by omega) 0 (Nat.zero_le _)
  have hs : succs ts y = [] := by
    cases hc : succs ts y with
    | nil => rfl
    | cons z r =>
      have hz : z ∈ succs ts y := by rw [hc]; simp
      have := hQ.lt hy hz
      have := hQ.nonneg (hR.closed y hy z hz)
      omega
  have hm : y ∈ lastV ts h := by
    unfold lastV lastL
    rw [List.mem_filter]
    refine ⟨hy, ?_⟩
    unfold mayV
    rw [if_pos ⟨hR.valid y hy, htV⟩, (mayL_nil y ts 0).2 hs]; rfl
  intro q
  rw [q] at hm
  simp at hm
/-! Two rows of numbers held against each other by the reference. -/
theorem eq_step1 {a b : List Int} {i : Nat} (h1 : i < a.length) (h2 : i < b.length) : decide (a.drop i = b.drop i) = (decide (a[i] = b[i]) && decide (a.drop (i + 1) = b.drop (i + 1))) := by
  have e : (a.drop i = b.drop i) ↔ (a[i] = b[i] ∧ a.drop (i + 1) = b.drop (i + 1)) := by
    have e1 := List.drop_eq_getElem_cons h1
    have e2 := List.drop_eq_getElem_cons h2
    constructor
    · intro h
      rw [e1, e2] at h
      exact ⟨(List.cons.inj h).1, (List.cons.inj h).2⟩
    · rintro ⟨h, h'⟩
      rw [e1, e2, h, h']
  rw [← Bool.decide_and]
  exact decide_eq_decide.2 e
theorem same_ev (a b : List Int) (ha : a.length ≤ 1000000000) : Ev (fun k => spec_l1Same.f k a b) (decide (a = b)) := by
  refine ev_succ (fun k => spec_l1Same.f_eq k _ _) ?_
  have loop : ∀ d i : Nat, i + d = a.length → i ≤ b.length → Ev (fun k => spec_l1Same.l0 k a b (i : Int)) (decide (a.drop i = b.drop i)) := by
    intro d
    induction d with
    | zero =>
      intro i hi hb
      refine ev_succ (fun k => spec_l1Same.l0_eq k _ _ _) (ev_df (by omega) (ev_some.2 ?_))
      rw [List.drop_eq_nil_of_le (by omega : a.length ≤ i)]
      by_cases h : a.length = b.length
      · rw [List.drop_eq_nil_of_le (by omega)]; simp [h]
      · rw [decide_eq_false (by omega)]
        refine (decide_eq_false (fun h2 => h ?_)).symm
        have := congrArg List.length h2
        rw [List.length_drop] at this
        simp at this
        omega
    | succ d ih =>
      intro i hi hb
      refine ev_succ (fun k => spec_l1Same.l0_eq k _ _ _) (ev_dt (by omega) ?_)
      by_cases h : i < b.length
      · refine ev_dt (by omega) (ev_gd (by omega) (ev_gd (by omega) ?_))
        rw [get_nat (by omega : i < a.length), get_nat h, eq_step1 (by omega) h, w_succ (by omega)]
        cases h : decide (a[i] = b[i]) with
        | false => exact ev_nt rfl (ev_some.2 rfl)
        | true => exact ev_nf rfl (by rw [Bool.true_and]; exact ih (i + 1) (by omega) (by omega))
      · refine ev_df (by omega) (ev_some.2 ?_)
        rw [decide_eq_false (by omega), List.drop_eq_nil_of_le (by omega : b.length ≤ i)]
        refine (decide_eq_false (fun h2 => ?_)).symm
        have := congrArg List.length h2
        rw [List.length_drop] at this
        simp at this
        omega
  exact loop a.length 0 (by omega) (by omega)
/-! The longest rows of exchanges: both sides. -/
def NOk (M : List ((Int × Int × Int) × Int)) (R : List Int → Int) : Prop := ∀ x, vh 40 x = true → mpGet (.int .i64) (keyT x) M = R x
theorem NOk.upd {M : List ((Int × Int × Int) × Int)} {R : List Int → Int} (h : NOk M R) {x : List Int} (hx : vh 40 x = true) (v : Int) : NOk (mpSet (.int .i64) (keyT x) v M) (upd1 R x v) := by
  intro y hy
  rw [mp_get_set]
  unfold upd1
  by_cases e : keyT y = keyT x
  · rw [if_pos e, if_pos (keyT_inj hy hx e)]
  · rw [if_neg e, if_neg (fun e' => e (by rw [e'])), h y hy]
def Bd (lo B : Int) (R : List Int → Int) : Prop := ∀ y, lo ≤ R y ∧ R y ≤ B
theorem best_bd {R : List Int → Int} {B : Int} (h : Bd 0 B R) : ∀ (ys : List (List Int)) (n : Int), 0 ≤ n → n ≤ B + 1 → 0 ≤ best R ys n ∧ best R ys n ≤ B + 1
  | [], n, h0, h1 => ⟨h0, h1⟩
  | y :: r, n, h0, h1 => by
    have := h y
    unfold best
    exact best_bd h r _ (by omega) (by omega)
theorem Bd.upd {R : List Int → Int} {lo B : Int} (h : Bd lo B R) {x : List Int} {v : Int} (h0 : lo ≤ v) (h1 : v ≤ B + 1) : Bd lo (B + 1) (upd1 R x v) := by
  intro y
  have := h y
  unfold upd1
  split <;> constructor <;> omega
theorem Bd.le {R : List Int → Int} {lo B C : Int} (h : Bd lo B R) (hc : B ≤ C) : Bd lo C R := fun y => ⟨(h y).1, by have := (h y).2; omega⟩
theorem implLong_ev (h : List Int) (ts : List Trade) (hl : h.length ≤ 1048576) (h2 : ts.length ≤ 1048576) (hr : ∀ t ∈ ts, TrOk t) : Ev (fun k => impl_LongestTrades.f k h ts) (longV ts h) := by
  refine ev_succ (fun k => impl_LongestTrades.f_eq k _ _) (ev_bind (implReach_ev h ts hl h2 hr) ?_)
  unfold longV
  by_cases hne : reachV ts h = []
  · rw [if_pos hne]
    exact ev_bt (by rw [hne]; rfl) (ev_some.2 rfl)
  · rw [if_neg hne]
    obtain ⟨hR, hh, htV⟩ := reach_of hne
    refine ev_bf (by cases hL : reachV ts h with | nil => exact absurd hL hne | cons a l => rfl) ?_
    generalize hL : reachV ts h = L at hR hne ⊢
    have hts := hR.trades
    have h4 := (tsV_of htV).2
    have hlen := hR.len
    have inner : ∀ (d j m i : Nat) (R : List Int → Int) (M : List ((Int × Int × Int) × Int)) (B n : Int) (b : Bool) (x : List Int), j + d = ts.length → vh 40 x = true → NOk M R → Bd 0 B R → B ≤ 1000000 → 0 ≤ n → n ≤ B + 1 → ∀ r,
        Ev (fun k => gate (decide (3 ≤ x.length)) <| br (!decide (best R (succs (ts.drop j) x) n = (mpGet (.int .i64) ((x.getD 0 0, x.getD 1 0, x.getD 2 0) : Int × Int × Int) M))) (gate (decide (3 ≤ x.length)) <| impl_LongestTrades.l1 k h ts L (mpSet (.int .i64) ((x.getD 0 0, x.getD 1 0, x.getD 2 0) : Int × Int × Int) (best R (succs (ts.drop j) x) n) M) true (L.length : Int) (i : Int) L (L.length : Int) (wr ((m : Int) + 1))) (impl_LongestTrades.l1 k h ts L M b (L.length : Int) (i : Int) L (L.length : Int) (wr ((m : Int) + 1)))) r →
        Ev (fun k => impl_LongestTrades.l2 k h ts L M b x n (L.length : Int) (i : Int) L (L.length : Int) (m : Int) ts (ts.length : Int) (j : Int)) r := by
      intro d
      induction d with
      | zero =>
        intro j m i R M B n b x hj hv hM hB hB1 h0 h1 r k1
        refine ev_succ (fun k => impl_LongestTrades.l2_eq k _ _ _ _ _ _ _ _ _ _ _ _ _ _ _) (ev_df (by omega) ?_)
        rw [List.drop_eq_nil_of_le (show ts.length ≤ j by omega)] at k1
        exact k1
      | succ d ih =>
        intro j m i R M B n b x hj hv hM hB hB1 h0 h1 r k1
        have hlt : j < ts.length := by omega
        have htj := hts ts[j] (List.getElem_mem hlt)
        rw [List.drop_eq_getElem_cons hlt, succs_cons] at k1
        refine ev_succ (fun k => impl_LongestTrades.l2_eq k _ _ _ _ _ _ _ _ _ _ _ _ _ _ _) (ev_dt (by omega) (ev_gd (by omega) ?_))
        rw [at_tr hlt, w_succ (i := j) (by omega)]
        refine ev_bind (traded_ev hv htj) ?_
        cases hd : (mvV x ts[j]).2 with
        | false =>
          rw [hd] at k1
          exact ev_bf rfl (ih (j + 1) m i R M B n b x (by omega) hv hM hB hB1 h0 h1 r k1)
        | true =>
          rw [hd] at k1
          simp only [if_true] at k1
          have hy := mvV_ok hv htj hd
          have hy3 := mv_len hv htj hd
          have hg : mpGet (.int .i64) ((mvV x ts[j]).1.getD 0 0, (mvV x ts[j]).1.getD 1 0, (mvV x ts[j]).1.getD 2 0) M = R (mvV x ts[j]).1 := hM _ hy
          have hb := hB (mvV x ts[j]).1
          refine ev_bt rfl (ev_gd (by omega) ?_)
          rw [hg, w64 (by omega) (by omega)]
          exact ih (j + 1) m i R M B _ b x (by omega) hv hM hB hB1 (by omega) (by omega) r k1
    have mid : ∀ (d m i : Nat) (R : List Int → Int) (M : List ((Int × Int × Int) × Int)) (B : Int) (b : Bool), m + d = L.length → NOk M R → Bd 0 B R → 0 ≤ B → B + d ≤ 1000000 → ∀ r,
        (∀ M', NOk M' (rnd ts (L.drop m) R b).1 → Bd 0 (B + d) (rnd ts (L.drop m) R b).1 → Ev (fun k => br (!(rnd ts (L.drop m) R b).2) (gate (decide (3 ≤ h.length)) <| some (mpGet (.int .i64) ((h.getD 0 0, h.getD 1 0, h.getD 2 0) : Int × Int × Int) M')) (impl_LongestTrades.l0 k h ts L M' (L.length : Int) (wr ((i : Int) + 1)))) r) →
        Ev (fun k => impl_LongestTrades.l1 k h ts L M b (L.length : Int) (i : Int) L (L.length : Int) (m : Int)) r := by
      intro d
      induction d with
      | zero =>
        intro m i R M B b hm hM hB hB0 hB1 r k1
        refine ev_succ (fun k => impl_LongestTrades.l1_eq k _ _ _ _ _ _ _ _ _ _) (ev_df (by omega) ?_)
        rw [List.drop_eq_nil_of_le (show L.length ≤ m by omega)] at k1
        exact k1 M hM (hB.le (by omega))
      | succ d ih =>
        intro m i R M B b hm hM hB hB0 hB1 r k1
        have hlt : m < L.length := by omega
        have hv := hR.valid L[m] (List.getElem_mem hlt)
        have hv3 := (vh_len hv).1
        rw [List.drop_eq_getElem_cons hlt] at k1
        refine ev_succ (fun k => impl_LongestTrades.l1_eq k _ _ _ _ _ _ _ _ _ _) (ev_dt (by omega) (ev_gd (by omega) ?_))
        rw [at_out (List.getElem?_eq_getElem hlt)]
        refine inner ts.length 0 m i R M B 0 b L[m] (by omega) hv hM hB (by omega) (by omega) (by omega) r (ev_gd (by omega) ?_)
        rw [List.drop_zero, w_succ (i := m) (by omega)]
        have hb := best_bd hB (succs ts L[m]) 0 (by omega) (by omega)
        have hg : mpGet (.int .i64) (L[m].getD 0 0, L[m].getD 1 0, L[m].getD 2 0) M = R L[m] := hM _ hv
        unfold rnd at k1
        rw [hg]
        by_cases e : best R (succs ts L[m]) 0 = R L[m]
        · rw [if_pos e] at k1
          refine ev_nf (decide_eq_true e) ?_
          exact ih (m + 1) i R M B b (by omega) hM hB hB0 (by omega) r (fun M' q1 q2 => k1 M' q1 (q2.le (by omega)))
        · rw [if_neg e] at k1
          refine ev_nt (decide_eq_false e) (ev_gd (by omega) ?_)
          refine ih (m + 1) i (upd1 R L[m] (best R (succs ts L[m]) 0)) _ (B + 1) true (by omega) (hM.upd hv _) (hB.upd hb.1 hb.2) (by omega) (by omega) r (fun M' q1 q2 => k1 M' q1 (q2.le (by omega)))
    have outer : ∀ (n i : Nat) (R : List Int → Int) (M : List ((Int × Int × Int) × Int)), i + n = L.length → NOk M R → Bd 0 (400 * i) R → Ev (fun k => impl_LongestTrades.l0 k h ts L M (L.length : Int) (i : Int)) (iterI ts L h n R) := by
      intro n
      induction n with
      | zero =>
        intro i R M hi hM hB
        exact ev_succ (fun k => impl_LongestTrades.l0_eq k _ _ _ _ _ _) (ev_df (by omega) (ev_some.2 rfl))
      | succ n ih =>
        intro i R M hi hM hB
        refine ev_succ (fun k => impl_LongestTrades.l0_eq k _ _ _ _ _ _) (ev_dt (by omega) ?_)
        refine mid L.length 0 i R M (400 * i) false (by omega) hM hB (by omega) (by omega) _ (fun M' q1 q2 => ?_)
        rw [List.drop_zero] at q1 q2 ⊢
        unfold iterI
        cases hb : (rnd ts L R false).2 with
        | true =>
          rw [if_pos rfl, w_succ (by omega)]
          exact ev_nf rfl (ih (i + 1) _ M' (by omega) q1 (q2.le (by omega)))
        | false =>
          rw [if_neg (by simp)]
          refine ev_nt rfl (ev_gd (by rw [(vh_len hh).1]; omega) (ev_some.2 ?_))
          exact q1 h hh
    exact outer L.length 0 _ [] (by omega) (fun x _ => rfl) (fun x => ⟨by simp, by simp⟩)
/-! The reference's side. -/
def LOk (lg : List Int) (L : List (List Int)) (S : List Int → Int) : Prop := lg.length = L.length ∧ ∀ (i : Nat) (h : i < L.length), lg.getD i 0 = S L[i]
theorem nodup_at {L : List (List Int)} (hn : L.Nodup) {i j : Nat} (hi : i < L.length) (hj : j < L.length) (h : L[i] = L[j]) : i = j := by
  have hp := List.pairwise_iff_getElem.1 hn
  rcases Nat.lt_trichotomy i j with q | q | q
  · exact absurd h (hp i j hi hj q)
  · exact q
  · exact absurd h.symm (hp j i hj hi q)
theorem LOk.upd {lg : List Int} {L : List (List Int)} {S : List Int → Int} (h : LOk lg L S) (hn : L.Nodup) {k : Nat} (hk : k < L.length) (v : Int) : LOk (lg.set k v) L (upd1 S L[k] v) := by
  refine ⟨by simp [h.1], fun i hi => ?_⟩
  have h1 := h.1
  rw [List.getD_eq_getElem?_getD, List.getElem?_set]
  unfold upd1
  by_cases e : k = i
  · subst e
    rw [if_pos rfl, if_pos (by omega), if_pos rfl]; rfl
  · rw [if_neg e, if_neg (fun e' => e (nodup_at hn hi hk e').symm), ← h.2 i hi, List.getD_eq_getElem?_getD]
theorem index_ev {L : List (List Int)} (hn : L.Nodup) (hlen : L.length ≤ 400) (hv : ∀ x ∈ L, x.length ≤ 100) {y : List Int} {q : Nat} (hq : q < L.length) (hy : L[q] = y) : Ev (fun k => spec_l8Index.f k L y) (q : Int) := by
  refine ev_succ (fun k => spec_l8Index.f_eq k _ _) ?_
  have loop : ∀ d i : Nat, i + d = q → Ev (fun k => spec_l8Index.l0 k L y (i : Int)) (q : Int) := by
    intro d
    induction d with
    | zero =>
      intro i hi
      have : i = q := by omega
      subst this
      refine ev_succ (fun k => spec_l8Index.l0_eq k _ _ _) (ev_gd (by omega) ?_)
      rw [at_out (List.getElem?_eq_getElem hq)]
      refine ev_bind (same_ev _ _ (by have := hv _ (List.getElem_mem hq); omega)) (ev_nf (decide_eq_true hy) (ev_some.2 rfl))
    | succ d ih =>
      intro i hi
      have hil : i < L.length := by omega
      refine ev_succ (fun k => spec_l8Index.l0_eq k _ _ _) (ev_gd (by omega) ?_)
      rw [at_out (List.getElem?_eq_getElem hil), w_succ (by omega)]
      refine ev_bind (same_ev _ _ (by have := hv _ (List.getElem_mem hil); omega)) (ev_nt (decide_eq_false (fun e => ?_)) (ih (i + 1) (by omega)))
      have := nodup_at hn hil hq (e.trans hy.symm)
      omega
  exact loop q 0 (by omega)
theorem bs_bd {S : List Int → Int} {B : Int} (h : Bd (-1) B S) : ∀ (ys : List (List Int)) (n : Int), 0 ≤ n → n ≤ B + 1 → -1 ≤ bs S ys n ∧ bs S ys n ≤ B + 1
  | [], n, h0, h1 => ⟨by unfold bs; omega, h1⟩
  | y :: r, n, h0, h1 => by
    have := h y
    unfold bs
    split
    · omega
    · exact bs_bd h r _ (by omega) (by omega)
theorem specLong_ev (h : List Int) (ts : List Trade) (hl : h.length ≤ 1048576) (h2 : ts.length ≤ 1048576) (hr : ∀ t ∈ ts, TrOk t) : Ev (fun k => spec_LongestTrades.f k h ts) (longV ts h) := by
  refine ev_succ (fun k => spec_LongestTrades.f_eq k _ _) (ev_bind (specReach_ev h ts hl h2 hr) ?_)
  by_cases hne : reachV ts h = []
  · have : longV ts h = -1 := by unfold longV; rw [if_pos hne]
    rw [this]
    exact ev_dt (by rw [hne]; rfl) (ev_some.2 rfl)
  · have hsame : iterS ts (reachV ts h) h ((reachV ts h).length + 1) (fun _ => -1) = longV ts h := by
      rcases long_cases hne with ⟨Q, _, e1, _, e2⟩ | ⟨_, e1, e2⟩
      · rw [e1, e2]
      · rw [e1, e2]
    rw [← hsame]
    obtain ⟨hR, hh, htV⟩ := reach_of hne
    have hpos : 0 < (reachV ts h).length := by cases hL : reachV ts h with | nil => exact absurd hL hne | cons a l => simp
    refine ev_df (by omega) ?_
    clear hsame
    generalize hL : reachV ts h = L at hR hne hpos ⊢
    have hts := hR.trades
    have h4 := (tsV_of htV).2
    have hlen := hR.len
    have hv3 : ∀ x ∈ L, x.length = 3 := fun x hx => (vh_len (hR.valid x hx)).1
    have hfst : L[0] = h := by have := hR.first; rw [List.getElem?_eq_getElem hpos] at this; exact Option.some.inj this
    have inner : ∀ (d j : Nat) (p c : Nat) (S : List Int → Int) (lg : List Int) (B n : Int) (b : Bool) (hc : c < L.length), j + d = ts.length → LOk lg L S → Bd (-1) B S → B ≤ 1000000 → 0 ≤ n → n ≤ B + 1 → ∀ r,
        Ev (fun k => spec_LongestTrades.l2 k ts L (lg.set c (bs S (succs (ts.drop j) L[c]) n)) (p : Int) (b || decide (bs S (succs (ts.drop j) L[c]) n ≥ 0)) (wr ((c : Int) - 1))) r →
        Ev (fun k => spec_LongestTrades.l3 k ts L lg (p : Int) b (c : Int) n (j : Int)) r := by
      intro d
      have tail : ∀ (p c : Nat) (lg : List Int) (n : Int) (b : Bool), c < L.length → lg.length = L.length → ∀ r, Ev (fun k => spec_LongestTrades.l2 k ts L (lg.set c n) (p : Int) (b || decide (n ≥ 0)) (wr ((c : Int) - 1))) r →
          Ev (fun k => gate (decide (0 ≤ (c : Int) ∧ (c : Int) < (lg.length : Int))) <| gate (decide ((c : Int).toNat < lg.length)) <| br (b) (spec_LongestTrades.l2 k ts L (lg.set (c : Int).toNat n) (p : Int) true (wr ((c : Int) - 1))) (spec_LongestTrades.l2 k ts L (lg.set (c : Int).toNat n) (p : Int) (decide (n ≥ 0)) (wr ((c : Int) - 1)))) r := by
        intro p c lg n b hc hlg r k1
        refine ev_gd (by omega) (ev_gd (by omega) ?_)
        rw [Int.toNat_natCast]
        cases b with
        | true => exact ev_bt rfl k1
        | false => exact ev_bf rfl (by rw [Bool.false_or] at k1; exact k1)
      induction d with
      | zero =>
        intro j p c S lg B n b hc hj hS hB hB1 h0 h1 r k1
        refine ev_succ (fun k => spec_LongestTrades.l3_eq k _ _ _ _ _ _ _ _) (ev_df (by omega) ?_)
        rw [List.drop_eq_nil_of_le (show ts.length ≤ j by omega)] at k1
        exact tail p c lg n b hc hS.1 r k1
      | succ d ih =>
        intro j p c S lg B n b hc hj hS hB hB1 h0 h1 r k1
        have hlt : j < ts.length := by omega
        have htj := hts ts[j] (List.getElem_mem hlt)
        have hmem := List.getElem_mem hc
        have hv := hR.valid L[c] hmem
        have hS1 := hS.1
        rw [List.drop_eq_getElem_cons hlt, succs_cons] at k1
        refine ev_succ (fun k => spec_LongestTrades.l3_eq k _ _ _ _ _ _ _ _) (ev_dt (by omega) (ev_dt (by omega) (ev_gd (by omega) (ev_gd (by omega) ?_))))
        rw [at_out (List.getElem?_eq_getElem hc), at_tr hlt, w_succ (i := j) (by omega)]
        have hdo := sDoT_ev L[c] ts[j] (by rw [(vh_len hv).1]; omega) (tr_ok htj)
        rw [if_pos ⟨hv, htj⟩] at hdo
        refine ev_bind hdo ?_
        cases hd : (mvV L[c] ts[j]).2 with
        | false =>
          rw [hd] at k1
          exact ev_nt rfl (ih (j + 1) p c S lg B n b hc (by omega) hS hB hB1 h0 h1 r k1)
        | true =>
          rw [hd] at k1
          simp only [if_true] at k1
          have hys : (mvV L[c] ts[j]).1 ∈ succs ts L[c] := List.mem_filterMap.2 ⟨ts[j], List.getElem_mem hlt, by rw [hd]; rfl⟩
          obtain ⟨q, hq, hqe⟩ := List.getElem_of_mem (hR.closed L[c] hmem _ hys)
          have hb := hB (mvV L[c] ts[j]).1
          have hlg : lg.getD (q : Int).toNat 0 = S (mvV L[c] ts[j]).1 := by rw [Int.toNat_natCast, hS.2 q hq, hqe]
          refine ev_nf rfl (ev_bind (index_ev hR.nodup hlen (fun x hx => by have := hv3 x hx; omega) hq hqe) (ev_gd (by omega) ?_))
          rw [hlg]
          unfold bs at k1
          by_cases hneg : S (mvV L[c] ts[j]).1 < 0
          · rw [if_pos hneg] at k1
            refine ev_dt hneg (ev_succ (fun k => spec_LongestTrades.l3_eq k _ _ _ _ _ _ _ _) ?_)
            by_cases hlast : ((j + 1 : Nat) : Int) < (ts.length : Int)
            · exact ev_dt hlast (ev_df (by omega) (tail p c lg (-1) b hc hS.1 r k1))
            · exact ev_df hlast (tail p c lg (-1) b hc hS.1 r k1)
          · rw [if_neg hneg] at k1
            refine ev_df hneg (ev_gd (by omega) ?_)
            rw [w64 (by omega) (by omega)]
            exact ih (j + 1) p c S lg B _ b hc (by omega) hS hB hB1 (by omega) (by omega) r k1
    have mid : ∀ (c p : Nat) (S : List Int → Int) (lg : List Int) (B : Int) (b : Bool), c ≤ L.length → LOk lg L S → Bd (-1) B S → 0 ≤ B → B + c ≤ 1000000 → ∀ r,
        (∀ lg', LOk lg' L (rs ts (L.take c).reverse S b).1 → Bd (-1) (B + c) (rs ts (L.take c).reverse S b).1 → Ev (fun k => br (!(rs ts (L.take c).reverse S b).2) (gate (decide (0 ≤ (0 : Int) ∧ (0 : Int) < (lg'.length : Int))) <| some (lg'.getD ((0 : Int).toNat) 0)) (spec_LongestTrades.l1 k ts L lg' (wr ((p : Int) + 1)))) r) →
        Ev (fun k => spec_LongestTrades.l2 k ts L lg (p : Int) b ((c : Int) - 1)) r := by
      intro c
      induction c with
      | zero =>
        intro p S lg B b hc hS hB hB0 hB1 r k1
        refine ev_succ (fun k => spec_LongestTrades.l2_eq k _ _ _ _ _ _) (ev_df (by omega) ?_)
        exact k1 lg hS (hB.le (by omega))
      | succ c ih =>
        intro p S lg B b hc hS hB hB0 hB1 r k1
        have hlt : c < L.length := by omega
        have hS1 := hS.1
        rw [List.take_succ_eq_append_getElem hlt, List.reverse_append] at k1
        simp only [List.reverse_cons, List.reverse_nil, List.nil_append, List.singleton_append, List.cons_append] at k1
        refine ev_succ (fun k => spec_LongestTrades.l2_eq k _ _ _ _ _ _) ?_
        have e1 : ((c + 1 : Nat) : Int) - 1 = (c : Int) := by omega
        rw [e1]
        have e2 : wr ((c : Int) - 1) = (c : Int) - 1 := w64 (by omega) (by omega)
        have e3 : lg.getD (c : Int).toNat 0 = S L[c] := by rw [Int.toNat_natCast, hS.2 c hlt]
        refine ev_dt (by omega) (ev_gd (by omega) ?_)
        rw [e3, e2]
        unfold rs at k1
        by_cases hd : 0 ≤ S L[c]
        · rw [if_pos hd] at k1
          exact ev_dt hd (ih p S lg B b (by omega) hS hB hB0 (by omega) r (fun lg' q1 q2 => k1 lg' q1 (q2.le (by omega))))
        · rw [if_neg hd] at k1
          have hb := bs_bd hB (succs ts L[c]) 0 (by omega) (by omega)
          refine ev_df (by omega) (inner ts.length 0 p c S lg B 0 b hlt (by omega) hS hB (by omega) (by omega) (by omega) r ?_)
          rw [List.drop_zero, e2]
          exact ih p _ _ (B + 1) _ (by omega) (hS.upd hR.nodup hlt _) (hB.upd hb.1 hb.2) (by omega) (by omega) r (fun lg' q1 q2 => k1 lg' q1 (q2.le (by omega)))
    have outer : ∀ (n p : Nat) (S : List Int → Int) (lg : List Int), p + n = L.length + 1 → LOk lg L S → Bd (-1) (400 * p) S → Ev (fun k => spec_LongestTrades.l1 k ts L lg (p : Int)) (iterS ts L h n S) := by
      intro n
      induction n with
      | zero =>
        intro p S lg hp hS hB
        have hS1 := hS.1
        refine ev_succ (fun k => spec_LongestTrades.l1_eq k _ _ _ _) (ev_df (by omega) (ev_gd (by omega) (ev_some.2 ?_)))
        have := hS.2 0 hpos
        rw [hfst] at this
        exact this
      | succ n ih =>
        intro p S lg hp hS hB
        refine ev_succ (fun k => spec_LongestTrades.l1_eq k _ _ _ _) (ev_dt (by omega) ?_)
        rw [w64 (x := (L.length : Int) - 1) (by omega) (by omega)]
        refine mid L.length p S lg (400 * p) false (Nat.le_refl _) hS hB (by omega) (by omega) _ (fun lg' q1 q2 => ?_)
        rw [List.take_length] at q1 q2 ⊢
        have hS1 := q1.1
        unfold iterS
        cases hb : (rs ts L.reverse S false).2 with
        | true =>
          rw [if_pos rfl, w_succ (by omega)]
          exact ev_nf rfl (ih (p + 1) _ lg' (by omega) q1 (q2.le (by omega)))
        | false =>
          rw [if_neg (by simp)]
          refine ev_nt rfl (ev_gd (by omega) (ev_some.2 ?_))
          have := q1.2 0 hpos
          rw [hfst] at this
          exact this
    have fill : ∀ d i : Nat, i + d = L.length → Ev (fun k => spec_LongestTrades.l0 k ts L (List.replicate i (-1)) (i : Int)) (iterS ts L h (L.length + 1) (fun _ => -1)) := by
      intro d
      induction d with
      | zero =>
        intro i hi
        refine ev_succ (fun k => spec_LongestTrades.l0_eq k _ _ _ _) (ev_df (by omega) ?_)
        refine outer (L.length + 1) 0 _ _ (by omega) ⟨by simp; omega, fun j hj => ?_⟩ (fun x => ⟨by simp, by simp⟩)
        rw [List.getD_eq_getElem?_getD, List.getElem?_replicate, if_pos (by omega)]; rfl
      | succ d ih =>
        intro i hi
        refine ev_succ (fun k => spec_LongestTrades.l0_eq k _ _ _ _) (ev_dt (by omega) (ev_gd (by rw [limE]; simp; omega) ?_))
        rw [w_succ (by omega)]
        have : List.replicate i (-1 : Int) ++ [-1] = List.replicate (i + 1) (-1) := by rw [List.replicate_succ']
        rw [this]
        exact ih (i + 1) (by omega)
    exact fill L.length 0 (by omega)
/-! Rows of exchanges. -/
def trunL (ts : List Trade) : List Int → List Int → List Int × Bool
  | [], h => (h, true)
  | i :: is, h => if 0 ≤ i ∧ i < (ts.length : Int) then (if (mvV h (ts.getD i.toNat ⟨[], []⟩)).2 = true then trunL ts is (mvV h (ts.getD i.toNat ⟨[], []⟩)).1 else ([], false)) else ([], false)
def trunV (h : List Int) (ts : List Trade) (l : List Int) : List Int × Bool := if vh 40 h = true ∧ tsV ts = true ∧ l.length ≤ 99 then trunL ts l h else ([], false)
theorem tmem {ts : List Trade} {i : Int} (h : 0 ≤ i ∧ i < (ts.length : Int)) : ts.getD i.toNat (⟨[], []⟩ : Trade) ∈ ts := by
  have hlt : i.toNat < ts.length := by omega
  rw [List.getD_eq_getElem?_getD, List.getElem?_eq_getElem hlt]
  exact List.getElem_mem hlt
theorem trunL_len {ts : List Trade} (ht : ∀ t ∈ ts, tv t = true) : ∀ (l h : List Int), vh 40 h = true → (trunL ts l h).1.length ≤ 3
  | [], h, hh => by rw [trunL]; have := (vh_len hh).1; simp only; omega
  | i :: is, h, hh => by
    rw [trunL]
    split
    · rename_i hi
      split
      · rename_i hd
        exact trunL_len ht is _ (mvV_ok hh (ht _ (tmem hi)) hd)
      · simp
    · simp
theorem trunV_len (h : List Int) (ts : List Trade) (l : List Int) : (trunV h ts l).1.length ≤ 3 := by
  unfold trunV
  split
  · rename_i hc; exact trunL_len (tsV_of hc.2.1).1 l h hc.1
  · simp
theorem cloneH_ev (x : List Int) (h : x.length < lim) : Ev (fun k => slices_Clone_int_int.f k x) x := by
  have : (fun k => slices_Clone_int_int.f k x) = fun k => gate (decide (0 + x.length < lim)) (some x) := funext fun k => slices_Clone_int_int.f_eq k x
  rw [this]
  exact ev_gd (by omega) (ev_some.2 rfl)
theorem iTRun_ev (h : List Int) (ts : List Trade) (l : List Int) (hl : h.length ≤ 1048576) (h2 : ts.length ≤ 1048576) (hr : ∀ t ∈ ts, TrOk t) : Ev (fun k => impl_TradesRun.f k h ts l) (trunV h ts l) := by
  refine ev_succ (fun k => impl_TradesRun.f_eq k _ _ _) (ev_bind (ev_succ (fun k => impl_HeapsValid.f_eq k _) (ev_bind (thingsOk_ev h 40 (by omega)) (ev_some.2 rfl))) ?_)
  unfold trunV
  cases hh : vh 40 h with
  | false => exact ev_nt rfl (ev_some.2 (by simp))
  | true =>
    refine ev_nf rfl (ev_bind (implTsV_ev ts h2 hr) ?_)
    cases ht : tsV ts with
    | false => exact ev_nt rfl (ev_some.2 (by simp))
    | true =>
      refine ev_nf rfl ?_
      have hts := (tsV_of ht).1
      by_cases h9 : l.length ≤ 99
      · rw [if_pos ⟨rfl, rfl, h9⟩]
        refine ev_df (by omega) (ev_bind (cloneH_ev h (by rw [limE]; omega)) ?_)
        have loop : ∀ (d i : Nat) (x : List Int), i + d = l.length → vh 40 x = true → Ev (fun k => impl_TradesRun.l0 k ts x l (l.length : Int) (i : Int)) (trunL ts (l.drop i) x) := by
          intro d
          induction d with
          | zero =>
            intro i x hi hx
            refine ev_succ (fun k => impl_TradesRun.l0_eq k _ _ _ _ _) (ev_df (by omega) (ev_some.2 ?_))
            rw [List.drop_eq_nil_of_le (by omega)]; rfl
          | succ d ih =>
            intro i x hi hx
            have hlt : i < l.length := by omega
            refine ev_succ (fun k => impl_TradesRun.l0_eq k _ _ _ _ _) (ev_dt (by omega) (ev_gd (by omega) ?_))
            rw [get_nat hlt, List.drop_eq_getElem_cons hlt, trunL, w_succ (by omega)]
            by_cases c0 : l[i] < 0
            · rw [if_neg (by omega)]; exact ev_dt c0 (ev_some.2 rfl)
            · refine ev_df c0 ?_
              by_cases c1 : l[i] ≥ (ts.length : Int)
              · rw [if_neg (by omega)]; exact ev_dt c1 (ev_some.2 rfl)
              · have hi2 : 0 ≤ l[i] ∧ l[i] < (ts.length : Int) := by omega
                rw [if_pos hi2]
                refine ev_df c1 (ev_gd hi2 (ev_bind (traded_ev hx (hts _ (tmem hi2))) ?_))
                cases hd : (mvV x (ts.getD l[i].toNat ⟨[], []⟩)).2 with
                | false => exact ev_nt rfl (ev_some.2 (by simp))
                | true =>
                  refine ev_nf rfl ?_
                  rw [if_pos rfl]
                  exact ih (i + 1) _ (by omega) (mvV_ok hx (hts _ (tmem hi2)) hd)
        exact loop l.length 0 h (by omega) hh
      · rw [if_neg (fun hc => h9 hc.2.2)]
        exact ev_dt (by omega) (ev_some.2 rfl)
theorem sTRun_ev (h : List Int) (ts : List Trade) (l : List Int) (hl : h.length ≤ 1048576) (h2 : ts.length ≤ 1048576) (hr : ∀ t ∈ ts, TrOk t) : Ev (fun k => spec_TradesRun.f k h ts l) (trunV h ts l) := by
  refine ev_succ (fun k => spec_TradesRun.f_eq k _ _ _) (ev_bind (ev_succ (fun k => spec_HeapsValid.f_eq k _) (ev_bind (l8List_ev h 40 (by omega)) (ev_some.2 rfl))) ?_)
  unfold trunV
  cases hh : vh 40 h with
  | false => exact ev_nt rfl (ev_some.2 (by simp))
  | true =>
    refine ev_nf rfl (ev_bind (specTsV_ev ts h2 hr) ?_)
    cases ht : tsV ts with
    | false => exact ev_nt rfl (ev_some.2 (by simp))
    | true =>
      refine ev_nf rfl ?_
      have hts := (tsV_of ht).1
      by_cases h9 : l.length ≤ 99
      · rw [if_pos ⟨rfl, rfl, h9⟩]
        refine ev_df (by omega) (ev_gd (by rw [limE]; simp; omega) ?_)
        rw [List.nil_append]
        have loop : ∀ (d i : Nat) (x : List Int), i + d = l.length → vh 40 x = true → Ev (fun k => spec_TradesRun.l0 k ts l x (i : Int)) (trunL ts (l.drop i) x) := by
          intro d
          induction d with
          | zero =>
            intro i x hi hx
            refine ev_succ (fun k => spec_TradesRun.l0_eq k _ _ _ _) (ev_df (by omega) (ev_some.2 ?_))
            rw [List.drop_eq_nil_of_le (by omega)]; rfl
          | succ d ih =>
            intro i x hi hx
            have hlt : i < l.length := by omega
            refine ev_succ (fun k => spec_TradesRun.l0_eq k _ _ _ _) (ev_dt (by omega) (ev_gd (by omega) ?_))
            rw [get_nat hlt, List.drop_eq_getElem_cons hlt, trunL, w_succ (by omega), w64 (x := (ts.length : Int) - 1) (by omega) (by omega)]
            refine ev_bind (l1In_ev _ _ _) ?_
            by_cases c1 : 0 ≤ l[i] ∧ l[i] < (ts.length : Int)
            · rw [if_pos c1]
              refine ev_nf (by simp; omega) (ev_gd (by omega) (ev_gd c1 ?_))
              have hx3 := (vh_len hx).1
              refine ev_bind (sDoT_ev x _ (by omega) (hr _ (tmem c1))) ?_
              rw [if_pos ⟨hx, hts _ (tmem c1)⟩]
              cases hd : (mvV x (ts.getD l[i].toNat ⟨[], []⟩)).2 with
              | false => exact ev_nt rfl (ev_some.2 (by simp))
              | true =>
                refine ev_nf rfl ?_
                rw [if_pos rfl]
                exact ih (i + 1) _ (by omega) (mvV_ok hx (hts _ (tmem c1)) hd)
            · rw [if_neg c1]
              exact ev_nt (by simp; omega) (ev_some.2 rfl)
        exact loop l.length 0 h (by omega) hh
      · rw [if_neg (fun hc => h9 hc.2.2)]
        exact ev_dt (by omega) (ev_some.2 rfl)
/-! Draws. -/
def BOK (b : List Int) : Prop := b.length ≤ 2000 ∧ ∀ x ∈ b, 0 ≤ x ∧ x ≤ 255
theorem BOK.rd_ {b : List Int} (h : BOK b) (i : Nat) : 0 ≤ b.getD i 0 ∧ b.getD i 0 ≤ 255 := by
  rw [List.getD_eq_getElem?_getD]
  cases e : b[i]? with
  | none => simp
  | some x => exact h.2 x (List.mem_of_getElem? e)
theorem xor_pos {X Y : Int} (h0 : 0 ≤ X) (h1 : X < 9223372036854775808) (h2 : 0 ≤ Y) (h3 : Y < 9223372036854775808) : 0 ≤ wr ((BitVec.ofInt (IntKind.bits .i64) X) ^^^ (BitVec.ofInt (IntKind.bits .i64) Y)).toNat := by
  obtain ⟨a, rfl⟩ := Int.eq_ofNat_of_zero_le h0
  obtain ⟨b, rfl⟩ := Int.eq_ofNat_of_zero_le h2
  have hx : a ^^^ b < 2 ^ 63 := Nat.xor_lt_two_pow (by omega) (by omega)
  have h1 : a % 2 ^ IntKind.i64.bits = a := Nat.mod_eq_of_lt (by simp [IntKind.bits]; omega)
  have h2 : b % 2 ^ IntKind.i64.bits = b := Nat.mod_eq_of_lt (by simp [IntKind.bits]; omega)
  rw [wr_eq]
  simp only [BitVec.ofInt_natCast, BitVec.toNat_xor, BitVec.toNat_ofNat, h1, h2]
  unfold wrap64
  omega
def mixX (c1 c2 k q : Int) : Int := wr (wr (wr (wr (wr c1 * 131) + wr (wr c2 * 1117)) + wr (k * 29)) + wr (wr q * 53))
theorem mixX_pos {c1 c2 k q : Int} (h1 : 0 ≤ c1) (h2 : c1 ≤ 255) (h3 : 0 ≤ c2) (h4 : c2 ≤ 255) (h5 : 0 ≤ k) (h6 : k ≤ 1000000000000) (h7 : 0 ≤ q) (h8 : q ≤ 1000000000000) : 0 ≤ mixX c1 c2 k q ∧ mixX c1 c2 k q < 9223372036854775808 := by
  unfold mixX
  rw [w64 (x := c1) (by omega) (by omega), w64 (x := c2) (by omega) (by omega), w64 (x := q) (by omega) (by omega)]
  rw [w64 (x := c1 * 131) (by omega) (by omega), w64 (x := c2 * 1117) (by omega) (by omega), w64 (x := k * 29) (by omega) (by omega), w64 (x := q * 53) (by omega) (by omega)]
  rw [w64 (x := c1 * 131 + c2 * 1117) (by omega) (by omega), w64 (x := c1 * 131 + c2 * 1117 + k * 29) (by omega) (by omega), w64 (by omega) (by omega)]
  omega
theorem tmod_in {x n : Int} (hx : 0 ≤ x) (hn : 0 < n) : 0 ≤ Int.tmod x n ∧ Int.tmod x n < n := ⟨Int.tmod_nonneg _ hx, Int.tmod_lt_of_pos _ hn⟩
abbrev Rd := List Int × Int × Unit
/-- Behind some draws: the same row, and the place not far on. -/
def At (b : List Int) (p q : Int) (r : Rd) : Prop := r.1 = b ∧ p ≤ r.2.1 ∧ r.2.1 ≤ q
def Picked (b : List Int) (p n : Int) (x : Int × Rd) : Prop := x.2 = (b, p + 1, ()) ∧ 0 ≤ x.1 ∧ (x.1 < n ∨ x.1 = 0)
theorem pick_ev {b : List Int} (hb : BOK b) {p n : Int} (h0 : 0 ≤ p) (h1 : p ≤ 1000000000000) (hn : n < 9223372036854775807) : EvP (fun k => spec_l20Rd__pick.f k b p n) (Picked b p n) := by
  refine evp_succ (fun k => spec_l20Rd__pick.f_eq k b p n) ?_
  rw [w64 (x := p + 1) (by omega) (by omega), show p + 1 - 1 = p by omega, w64 (x := p) (by omega) (by omega)]
  refine evp_d (fun _ => evp_some ⟨rfl, by simp, .inr rfl⟩) (fun n1 => evp_d (fun _ => evp_some ⟨rfl, by simp, .inr rfl⟩) (fun hl => ?_))
  have hl2 := hb.1
  refine evp_d (fun hlt => ?_) (fun hge => ?_)
  · refine evp_gd ⟨h0, hlt⟩ (evp_gn (by omega) (evp_some ?_))
    have := hb.rd_ p.toNat
    rw [w64 (by omega) (by omega)]
    have t := tmod_in this.1 (show 0 < n by omega)
    exact ⟨rfl, t.1, .inl t.2⟩
  · have t1 := tmod_in h0 (show (0 : Int) < b.length by omega)
    have d1 : 0 ≤ Int.tdiv p b.length ∧ Int.tdiv p b.length ≤ p := by
      rw [Int.tdiv_eq_ediv_of_nonneg h0]
      exact ⟨Int.ediv_nonneg h0 (by omega), Int.ediv_le_self _ h0⟩
    have e3 : wr (wr (p * 7) + 3) = p * 7 + 3 := by rw [w64 (x := p * 7) (by omega) (by omega), w64 (by omega) (by omega)]
    rw [e3]
    have t2 := tmod_in (show 0 ≤ p * 7 + 3 by omega) (show (0 : Int) < b.length by omega)
    refine evp_gn hl (evp_gd t1 (evp_gn hl (evp_gd t2 (evp_gn hl (evp_gn (by omega) (evp_some ?_))))))
    have r1 := hb.rd_ (Int.tmod p b.length).toNat
    have r2 := hb.rd_ (Int.tmod (p * 7 + 3) b.length).toNat
    have hX := mixX_pos r1.1 r1.2 r2.1 r2.2 h0 h1 d1.1 (by omega)
    have hY : 0 ≤ wr (Int.tdiv (mixX (b.getD (Int.tmod p b.length).toNat 0) (b.getD (Int.tmod (p * 7 + 3) b.length).toNat 0) p (Int.tdiv p b.length)) 64) ∧ wr (Int.tdiv (mixX (b.getD (Int.tmod p b.length).toNat 0) (b.getD (Int.tmod (p * 7 + 3) b.length).toNat 0) p (Int.tdiv p b.length)) 64) < 9223372036854775808 := by
      rw [Int.tdiv_eq_ediv_of_nonneg hX.1, w64 (by omega) (by omega)]
      omega
    have t := tmod_in (xor_pos hX.1 hX.2 hY.1 hY.2) (show 0 < n by omega)
    exact ⟨rfl, t.1, .inl t.2⟩
theorem open_ev {b : List Int} (hb : ∀ x ∈ b, (Lit.int .u8 x).wf = true) (hl : b.length < 9223372036854775807) : EvP (fun k => spec_l20Open.f k b) (fun x => BOK x.1 ∧ x.2 = (0, ())) := by
  have hx : ∀ x ∈ b, 0 ≤ x ∧ x ≤ 255 := fun x hx => by
    have := hb x hx
    simp [Lit.wf, IntKind.min, IntKind.max, IntKind.signed, IntKind.bits] at this
    omega
  refine evp_succ (fun k => spec_l20Open.f_eq k b) ?_
  refine evp_d (fun h => evp_gd (by omega) (evp_some ⟨⟨?_, fun x hm => hx x (List.mem_of_mem_take hm)⟩, rfl⟩)) (fun h => evp_some ⟨⟨by show b.length ≤ 2000; omega, hx⟩, rfl⟩)
  show (b.take 2000).length ≤ 2000
  rw [List.length_take]
  omega
theorem odd_ev {b : List Int} (hb : BOK b) {p n : Int} (h0 : 0 ≤ p) (h1 : p ≤ 1000000000000) (hn : n < 9223372036854775807) : EvP (fun k => spec_l20Rd__odd.f k b p n) (fun x => At b p (p + 1) x.2) := by
  refine evp_succ (fun k => spec_l20Rd__odd.f_eq k b p n) ?_
  refine evp_d (fun _ => ?_) (fun _ => evp_some ⟨rfl, by simp, by simp; omega⟩)
  refine evp_bind (pick_ev hb h0 h1 hn) (fun a ⟨ha, _⟩ => evp_some ⟨?_, ?_, ?_⟩) <;> simp [ha] <;> omega
def Drawn (b : List Int) (p : Int) (S C : Nat) (x : List Int × Rd) : Prop := x.1.length ≤ S ∧ At b p (p + C) x.2
/-! Drawn heaps. -/
theorem heaps_ev {b : List Int} (hb : BOK b) (m : Int) (hm : m < 9223372036854775807) (p : Int) (h0 : 0 ≤ p) (h1 : p ≤ 500000000000) : EvP (fun k => spec_l20Heaps.f k b p m) (Drawn b p 3 10) := by
  refine evp_succ (fun k => spec_l20Heaps.f_eq k _ _ _) (evp_bind (pick_ev hb h0 (by omega) (by omega)) (fun a1 ⟨e1, _⟩ => ?_))
  rw [e1]
  refine evp_bind (pick_ev hb (by simp <;> omega) (by simp <;> omega) (by omega)) (fun a2 ⟨e2, _⟩ => ?_)
  rw [e2]
  refine evp_bind (pick_ev hb (by simp <;> omega) (by simp <;> omega) (by omega)) (fun a3 ⟨e3, _⟩ => ?_)
  rw [e3]
  refine evp_bind (odd_ev hb (by simp <;> omega) (by simp <;> omega) hm) (fun a ⟨a1, a2, a3⟩ => ?_)
  obtain ⟨c, b', q, u⟩ := a
  simp only at a1 a2 a3
  subst a1
  dsimp only
  refine evp_b (fun _ => evp_bind (pick_ev hb (by omega) (by omega) (by omega)) (fun e ⟨e1, e2, e3⟩ => ?_)) (fun _ => evp_some ⟨by simp, rfl, by simp <;> omega, by simp <;> omega⟩)
  rw [e1]
  refine evp_d (fun _ => evp_gd (by simp) (evp_some ⟨by simp, rfl, by simp <;> omega, by simp <;> omega⟩)) (fun _ => evp_d (fun _ => evp_gd (by simp) (evp_gd (by simp) (evp_some ⟨by simp, rfl, by simp <;> omega, by simp <;> omega⟩))) (fun _ => evp_gd (by simp) (evp_gd (by simp) (evp_some ⟨by simp, rfl, by simp <;> omega, by simp <;> omega⟩))))
/-! Drawn exchanges. -/
def Sm (t : Trade) : Prop := t.f0.length = 3 ∧ t.f1.length = 3
def Sm1 (t : Trade) : Prop := t.f0.length ≤ 3 ∧ t.f1.length ≤ 3
theorem Sm.one {t : Trade} (h : Sm t) : Sm1 t := by obtain ⟨a, b⟩ := h; exact ⟨by omega, by omega⟩
theorem Sm1.ok {t : Trade} (h : Sm1 t) : TrOk t := by obtain ⟨a, b⟩ := h; exact ⟨by unfold RowOk; omega, by unfold RowOk; omega⟩
def DTr (b : List Int) (p C : Int) (x : List Trade × Rd) : Prop := x.1.length ≤ 5 ∧ (∀ t ∈ x.1, Sm1 t) ∧ At b p (p + C) x.2
theorem things_ev {b : List Int} (hb : BOK b) (p : Int) (h0 : 0 ≤ p) (h1 : p ≤ 500000000000) : EvP (fun k => spec_l20Things.f k b p 2) (fun x => x.1.length = 3 ∧ At b p (p + 6) x.2) := by
  refine evp_succ (fun k => spec_l20Things.f_eq k _ _ _) ?_
  have loop : ∀ (d i : Nat) (acc : List Int) (q : Int), i + d = 3 → acc.length = i → q = p + 2 * i → EvP (fun k => spec_l20Things.l0 k b q 2 acc (i : Int)) (fun x => x.1.length = 3 ∧ At b p (p + 6) x.2) := by
    intro d
    induction d with
    | zero =>
      intro i acc q hi ha hq
      exact evp_succ (fun k => spec_l20Things.l0_eq k _ _ _ _ _) (evp_d (fun h => by omega) (fun _ => evp_some ⟨by show acc.length = 3; omega, rfl, by show p ≤ q; omega, by show q ≤ p + 6; omega⟩))
    | succ d ih =>
      intro i acc q hi ha hq
      refine evp_succ (fun k => spec_l20Things.l0_eq k _ _ _ _ _) (evp_d (fun _ => ?_) (fun h => by omega))
      refine evp_bind (pick_ev hb (by omega) (by omega) (by omega)) (fun a1 ⟨e1, _⟩ => ?_)
      rw [e1]
      refine evp_bind (pick_ev hb (by simp <;> omega) (by simp <;> omega) (by rw [w64 (by omega) (by omega)]; omega)) (fun a2 ⟨e2, _⟩ => ?_)
      rw [e2, w_succ (by omega)]
      refine evp_gd (by rw [limE]; simp; omega) (ih (i + 1) _ _ (by omega) (by simp [ha]) ?_)
      show q + 1 + 1 = p + 2 * ((i + 1 : Nat) : Int)
      omega
  exact loop 3 0 [] p (by omega) rfl (by omega)
theorem tr_j1 {b : List Int} (hb : BOK b) (m : Int) (hm : m < 9223372036854775807) (p0 p : Int) (h0 : 0 ≤ p) (h1 : p ≤ 600000000000) (hp : p0 ≤ p) (hq : p ≤ p0 + 90) (ts : List Trade) (hl : 0 < ts.length) (hl4 : ts.length ≤ 4) (ht : ∀ t ∈ ts, Sm1 t) : EvP (fun k => spec_l20Trades.j1 k b p m ts) (DTr b p0 100) := by
  refine evp_succ (fun k => spec_l20Trades.j1_eq k _ _ _ _) (evp_bind (odd_ev hb (by omega) (by omega) hm) (fun a ⟨a1, a2, a3⟩ => ?_))
  obtain ⟨c, b', q, u⟩ := a
  simp only at a1 a2 a3
  subst a1
  dsimp only
  have hg : ∀ i : Nat, Sm1 (ts.getD i (⟨([] : List Int), ([] : List Int)⟩ : Trade)) := fun i => by
    rw [List.getD_eq_getElem?_getD]
    cases e : ts[i]? with
    | none => exact ⟨by simp, by simp⟩
    | some t => exact ht t (List.mem_of_getElem? e)
  have hset : ∀ t, Sm1 t → ∀ x ∈ ts.set (0 : Int).toNat t, Sm1 x := fun t h x hx => by
    rcases List.mem_or_eq_of_mem_set hx with q | q
    · exact ht x q
    · rw [q]; exact h
  refine evp_b (fun _ => evp_bind (pick_ev hb (by omega) (by omega) (by omega)) (fun e ⟨e1, e2, e3⟩ => ?_)) (fun _ => evp_some ⟨by show ts.length ≤ 5; omega, ht, rfl, by show p0 ≤ q; omega, by show q ≤ p0 + 100; omega⟩)
  rw [e1]
  refine evp_d (fun _ => evp_gd (by omega) (evp_gd (by omega) (evp_some ⟨by simp; omega, hset _ ⟨by simp, (hg 0).2⟩, rfl, by simp <;> omega, by simp <;> omega⟩))) (fun _ => evp_d (fun _ => evp_gd (by omega) (evp_gd (by omega) (evp_some ⟨by simp; omega, hset _ ⟨(hg 0).1, by simp⟩, rfl, by simp <;> omega, by simp <;> omega⟩))) (fun _ => ?_))
  have loop : ∀ (d : Nat) (ts : List Trade), ts.length + d = 5 → 0 < ts.length → (∀ t ∈ ts, Sm1 t) → EvP (fun k => spec_l20Trades.l2 k b' (q + 1) ts) (DTr b' p0 100) := by
    intro d
    induction d with
    | zero =>
      intro ts h5 _ ht
      exact evp_succ (fun k => spec_l20Trades.l2_eq k _ _ _) (evp_d (fun h => by omega) (fun _ => evp_some ⟨by show ts.length ≤ 5; omega, ht, rfl, by show p0 ≤ q + 1; omega, by show q + 1 ≤ p0 + 100; omega⟩))
    | succ d ih =>
      intro ts h5 hp ht
      refine evp_succ (fun k => spec_l20Trades.l2_eq k _ _ _) (evp_d (fun _ => evp_gd (by omega) (evp_gd (by rw [limE]; simp; omega) ?_)) (fun h => by omega))
      refine ih _ (by simp; omega) (by simp) (fun t h => ?_)
      rcases List.mem_append.1 h with q | q
      · exact ht t q
      · rw [List.mem_singleton.1 q, List.getD_eq_getElem?_getD]
        cases e : ts[(0 : Int).toNat]? with
        | none => exact ⟨by simp, by simp⟩
        | some t => exact ht t (List.mem_of_getElem? e)
  exact loop (5 - ts.length) ts (by omega) hl ht
theorem trades_ev {b : List Int} (hb : BOK b) (m : Int) (hm : m < 9223372036854775807) (p : Int) (h0 : 0 ≤ p) (h1 : p ≤ 400000000000) : EvP (fun k => spec_l20Trades.f k b p m) (DTr b p 100) := by
  refine evp_succ (fun k => spec_l20Trades.f_eq k _ _ _) (evp_bind (pick_ev hb h0 (by omega) (by omega)) (fun a ⟨a1, a2, a3⟩ => ?_))
  rw [a1]
  obtain ⟨n, hn, hn4⟩ : ∃ n : Nat, a.1 = (n : Int) - 1 + 1 ∧ n ≤ 3 := ⟨a.1.toNat, by omega, by omega⟩
  dsimp only
  have loop : ∀ (n : Nat) (acc : List Trade) (q : Int), acc.length + n ≤ 4 → 0 < acc.length + n → (∀ t ∈ acc, Sm1 t) → p + 1 ≤ q → q ≤ p + 1 + 20 * acc.length → EvP (fun k => spec_l20Trades.l0 k b q m acc ((n : Int) - 1)) (DTr b p 100) := by
    intro n
    induction n with
    | zero =>
      intro acc q h4 hp ht q0 q1
      refine evp_succ (fun k => spec_l20Trades.l0_eq k _ _ _ _ _) (evp_d (fun h => by omega) (fun _ => evp_d (fun h => by omega) (fun _ => ?_)))
      exact tr_j1 hb m hm p q (by omega) (by omega) (by omega) (by omega) acc (by omega) (by omega) ht
    | succ n ih =>
      intro acc q h4 hp ht q0 q1
      have e1 : ((n + 1 : Nat) : Int) - 1 = (n : Int) := by omega
      rw [e1]
      refine evp_succ (fun k => spec_l20Trades.l0_eq k _ _ _ _ _) (evp_d (fun _ => ?_) (fun h => by omega))
      refine evp_bind (things_ev hb q (by omega) (by omega)) (fun x ⟨x1, x2⟩ => ?_)
      obtain ⟨r1, b1, p1, u1⟩ := x
      obtain ⟨rfl, x3, x4⟩ := x2
      simp only at x1 x3 x4
      dsimp only
      refine evp_bind (things_ev hb p1 (by omega) (by omega)) (fun x ⟨y1, y2⟩ => ?_)
      obtain ⟨r2, b2, p2, u2⟩ := x
      obtain ⟨rfl, y3, y4⟩ := y2
      simp only at y1 y3 y4
      dsimp only
      refine evp_bind (pick_ev hb (by omega) (by omega) (by omega)) (fun c ⟨c1, c2, c3⟩ => ?_)
      rw [c1]
      dsimp only
      have fin : ∀ (w0 w1 : List Int) (q' : Int), w0.length = 3 → w1.length = 3 → q ≤ q' → q' ≤ q + 20 → EvP (fun k => spec_l20Trades.j0 k b2 q' m acc (n : Int) w0 w1) (DTr b2 p 100) := by
        intro w0 w1 q' l0 l1 g0 g1
        refine evp_succ (fun k => spec_l20Trades.j0_eq k _ _ _ _ _ _ _) (evp_gd (by rw [limE]; simp; omega) ?_)
        rw [w64 (x := (n : Int) - 1) (by omega) (by omega)]
        refine ih _ q' (by simp; omega) (by simp; omega) (fun t h => ?_) (by omega) (by simp; omega)
        rcases List.mem_append.1 h with z | z
        · exact ht t z
        · rw [List.mem_singleton.1 z]; exact ⟨by show w0.length ≤ 3; omega, by show w1.length ≤ 3; omega⟩
      refine evp_d (fun _ => ?_) (fun _ => fin r1 r2 _ x1 y1 (by omega) (by omega))
      refine evp_bind (pick_ev hb (by omega) (by omega) (by omega)) (fun e ⟨e1, e2, e3⟩ => ?_)
      rw [e1]
      refine evp_bind (pick_ev hb (by simp <;> omega) (by simp <;> omega) (by omega)) (fun f ⟨f1, f2, f3⟩ => ?_)
      rw [f1]
      dsimp only
      refine evp_gd (by omega) (evp_gd (by omega) ?_)
      have inner : ∀ (d i : Nat) (w1 : List Int), (i : Int) + d = e.1 + 1 → w1.length = 3 → EvP (fun k => spec_l20Trades.l1 k b2 (p2 + 1 + 1 + 1) m acc (n : Int) (r1.set e.1.toNat (wr (1 + f.1))) w1 e.1 (i : Int)) (DTr b2 p 100) := by
        intro d
        induction d with
        | zero =>
          intro i w1 hi hw
          refine evp_succ (fun k => spec_l20Trades.l1_eq k _ _ _ _ _ _ _ _ _) (evp_d (fun h => by omega) (fun _ => fin _ w1 _ (by simp [x1]) hw (by omega) (by omega)))
        | succ d ihd =>
          intro i w1 hi hw
          refine evp_succ (fun k => spec_l20Trades.l1_eq k _ _ _ _ _ _ _ _ _) (evp_d (fun _ => evp_gd (by omega) (evp_gd (by omega) ?_)) (fun h => by omega))
          rw [w_succ (by omega)]
          exact ihd (i + 1) _ (by omega) (by simp [hw])
      exact inner (e.1.toNat + 1) 0 r2 (by omega) y1
  have := loop (n + 1) [] (p + 1) (by simp; omega) (by simp) (fun t h => by simp at h) (by omega) (by simp)
  rw [show (((n + 1 : Nat) : Int) - 1) = a.1 by omega] at this
  exact this
theorem drawMay_ev {l : List Int} (h3 : ∀ x ∈ l, (Lit.int .u8 x).wf = true) (hl : l.length < 9223372036854775807) : EvP (fun k => spec_DrawTradesMay.f k l) (fun x => x.1.length ≤ 3 ∧ x.2.length ≤ 5 ∧ ∀ t ∈ x.2, Sm1 t) := by
  refine evp_succ (fun k => spec_DrawTradesMay.f_eq k l) (evp_bind (open_ev h3 (by omega)) (fun a ⟨hb, ha⟩ => ?_))
  rw [ha]
  refine evp_bind (heaps_ev hb 12 (by omega) 0 (by omega) (by omega)) (fun x ⟨x1, x2, x3, x4⟩ => ?_)
  obtain ⟨r, b', q, u⟩ := x
  simp only at x1 x2 x3 x4
  subst x2
  dsimp only
  exact evp_bind (trades_ev hb 14 (by omega) q (by omega) (by omega)) (fun y ⟨y1, y2, _⟩ => evp_some ⟨x1, y1, y2⟩)
theorem alive_at (j : Nat) : laws_alive.f (j + 12) = some true := by kernel_rfl
theorem alive_ev : Ev (fun k => laws_alive.f k) true := ⟨12, fun k hk => by
  obtain ⟨j, rfl⟩ : ∃ j, k = j + 12 := ⟨k - 12, by omega⟩
  exact alive_at j⟩
theorem trunL_app (ts : List Trade) (b : List Int) : ∀ (a h : List Int), trunL ts (a ++ b) h = if (trunL ts a h).2 = true then trunL ts b (trunL ts a h).1 else ([], false)
  | [], h => by rw [List.nil_append, trunL, if_pos rfl]
  | i :: a, h => by
    rw [List.cons_append, trunL, trunL]
    split
    · split
      · exact trunL_app ts b a _
      · rw [if_neg (by simp)]
    · rw [if_neg (by simp)]
theorem trunL_no {ts : List Trade} : ∀ {a h : List Int}, (trunL ts a h).2 = false → (trunL ts a h).1 = []
  | [], h, e => by rw [trunL] at e; cases e
  | i :: a, h, e => by
    rw [trunL] at e ⊢
    split
    · rename_i h1
      rw [if_pos h1] at e
      split
      · rename_i h2
        rw [if_pos h2] at e
        exact trunL_no e
      · rfl
    · rfl
theorem trunL_vh {ts : List Trade} (ht : ∀ t ∈ ts, tv t = true) : ∀ {a h : List Int}, vh 40 h = true → (trunL ts a h).2 = true → vh 40 (trunL ts a h).1 = true
  | [], h, hh, e => by rw [trunL]; exact hh
  | i :: a, h, hh, e => by
    rw [trunL] at e ⊢
    split at e
    · rename_i h1
      rw [if_pos h1]
      split at e
      · rename_i h2
        rw [if_pos h2]
        exact trunL_vh ht (mvV_ok hh (ht _ (tmem h1)) h2) e
      · cases e
    · cases e
theorem trunL_long {ts : List Trade} {L : List (List Int)} {Q : List Int → Int} (hc : ∀ x ∈ L, ∀ y ∈ succs ts x, y ∈ L) (hQ : Sol ts L Q) : ∀ (a h : List Int), h ∈ L → (trunL ts a h).2 = true → (a.length : Int) ≤ Q h
  | [], h, hh, e => hQ.nonneg hh
  | i :: a, h, hh, e => by
    rw [trunL] at e
    split at e
    · rename_i h1
      split at e
      · rename_i h2
        have hy : (mvV h (ts.getD i.toNat ⟨[], []⟩)).1 ∈ succs ts h := List.mem_filterMap.2 ⟨_, tmem h1, by rw [if_pos h2]⟩
        have h3 := trunL_long hc hQ a _ (hc h hh _ hy) e
        have h4 := hQ.lt hh hy
        rw [List.length_cons]
        omega
      · cases e
    · cases e
def DRn (x : List Int × List Trade × List Int) : Prop := x.1.length ≤ 3 ∧ (x.2.1.length ≤ 5 ∧ ∀ t ∈ x.2.1, Sm1 t) ∧ x.2.2.length ≤ 10
theorem drawRun_ev {l : List Int} (h3 : ∀ x ∈ l, (Lit.int .u8 x).wf = true) (hl : l.length < 9223372036854775807) : EvP (fun k => spec_DrawTradesRun.f k l) DRn := by
  refine evp_succ (fun k => spec_DrawTradesRun.f_eq k l) (evp_bind (open_ev h3 (by omega)) (fun a ⟨hb, ha⟩ => ?_))
  rw [ha]
  generalize a.1 = b at hb ⊢
  refine evp_bind (heaps_ev hb 14 (by omega) 0 (by omega) (by omega)) (fun x ⟨x1, x2, x3, x4⟩ => ?_)
  obtain ⟨h, b', q, u⟩ := x
  simp only at x1 x2 x3 x4
  subst x2
  dsimp only
  refine evp_bind (trades_ev hb 14 (by omega) q (by omega) (by omega)) (fun y ⟨y1, y2, y3, y4, y5⟩ => ?_)
  obtain ⟨ts, b2, q2, u2⟩ := y
  simp only at y1 y2 y3 y4 y5
  subst y3
  dsimp only
  refine evp_bind (pick_ev hb (by omega) (by omega) (by omega)) (fun c ⟨c1, c2, c3⟩ => ?_)
  rw [c1]
  dsimp only
  have hr : ∀ t ∈ ts, TrOk t := fun t ht => (y2 t ht).ok
  have j0 : ∀ (p : Int) (acc : List Int), 0 ≤ p → p ≤ 1000000 → acc.length ≤ 8 → EvP (fun k => spec_DrawTradesRun.j0 k b2 p h ts acc) DRn := by
    intro p acc p0 p1 ha8
    refine evp_succ (fun k => spec_DrawTradesRun.j0_eq k _ _ _ _ _) (evp_bind (odd_ev hb p0 (by omega) (by omega)) (fun a ⟨a1, a2, a3⟩ => ?_))
    obtain ⟨c, b', q, u⟩ := a
    simp only at a1 a2 a3
    subst a1
    dsimp only
    have fin : ∀ acc : List Int, acc.length ≤ 10 → EvP (fun k => spec_DrawTradesRun.j1 k h ts acc) DRn := fun acc ha => evp_succ (fun k => spec_DrawTradesRun.j1_eq k _ _ _) (evp_some ⟨x1, ⟨y1, y2⟩, ha⟩)
    exact evp_b (fun _ => evp_bind (pick_ev hb (by omega) (by omega) (by omega)) (fun e _ => evp_gd (by rw [limE]; simp; omega) (fin _ (by simp; omega)))) (fun _ => fin acc (by omega))
  have loop : ∀ (d : Nat) (p : Int) (acc x : List Int), 0 ≤ p → p ≤ 1000 - 10 * d → acc.length + d ≤ 8 → x.length ≤ 1000 → EvP (fun k => spec_DrawTradesRun.l0 k b2 p h ts acc x (d : Int)) DRn := by
    intro d
    induction d with
    | zero =>
      intro p acc x p0 p1 ha hx
      exact evp_succ (fun k => spec_DrawTradesRun.l0_eq k _ _ _ _ _ _ _) (evp_d (fun h => by omega) (fun _ => j0 p acc p0 (by omega) (by omega)))
    | succ d ih =>
      intro p acc x p0 p1 ha hx
      refine evp_succ (fun k => spec_DrawTradesRun.l0_eq k _ _ _ _ _ _ _) (evp_d (fun _ => ?_) (fun h => by omega))
      refine evp_bindv (sMay_ev x ts (by omega) (by omega) hr) ?_
      have hml := mayV_len x ts
      refine evp_d (fun _ => j0 p acc p0 (by omega) (by omega)) (fun hne => ?_)
      refine evp_bind (pick_ev hb p0 (by omega) (by omega)) (fun c ⟨c1, c2, c3⟩ => ?_)
      rw [c1]
      dsimp only
      have hcl : c.1.toNat < (mayV x ts).length := by omega
      have hlast : (acc ++ ([((mayV x ts).getD c.1.toNat 0)] : List Int)).getD ((wr (((acc ++ ([((mayV x ts).getD c.1.toNat 0)] : List Int)).length : Int) - 1)).toNat) 0 = (mayV x ts).getD c.1.toNat 0 := by
        rw [List.length_append, List.length_singleton, w64 (by omega) (by omega), show (((acc.length + 1 : Nat) : Int) - 1).toNat = acc.length by omega, List.getD_eq_getElem?_getD, List.getElem?_append_right (Nat.le_refl _)]
        simp
      have hmem : (mayV x ts).getD c.1.toNat 0 ∈ mayV x ts := by
        rw [List.getD_eq_getElem?_getD, List.getElem?_eq_getElem hcl]; exact List.getElem_mem hcl
      obtain ⟨m1, m2, m3⟩ := mayV_in hmem
      have hw : wr (((acc ++ ([((mayV x ts).getD c.1.toNat 0)] : List Int)).length : Int) - 1) = acc.length := by rw [List.length_append, List.length_singleton, w64 (by omega) (by omega)]; omega
      refine evp_gd (by omega) (evp_gd (by rw [limE]; simp; omega) (evp_gd (by rw [hw]; simp; omega) ?_))
      rw [hlast]
      have htt := (tsV_of m2).1 _ (tmem m3)
      have hdo := sDoT_ev x _ (by rw [(vh_len m1).1]; omega) (tr_ok htt)
      rw [if_pos ⟨m1, htt⟩] at hdo
      refine evp_gd m3 (evp_bindv hdo ?_)
      rw [w64 (by omega) (by omega), show ((d + 1 : Nat) : Int) - 1 = (d : Int) by omega]
      refine ih (p + 1) _ _ (by omega) (by omega) (by simp; omega) ?_
      cases hd : (mvV x (ts.getD ((mayV x ts).getD c.1.toNat 0).toNat ⟨[], []⟩)).2 with
      | true => have := (vh_len (mvV_ok m1 htt hd)).1; omega
      | false =>
        have : (mvV x (ts.getD ((mayV x ts).getD c.1.toNat 0).toNat ⟨[], []⟩)).1 = [] := by
          unfold mvV mvR at hd ⊢
          split at hd
          · cases hd
          · rfl
        rw [this]; simp
  have := loop c.1.toNat (q2 + 1) [] h (by omega) (by omega) (by simp; omega) (by omega)
  rw [show ((c.1.toNat : Nat) : Int) = c.1 by omega] at this
  exact this
theorem pure_FnTradesRun (l : List Int) (h1 : l.length ≤ maxLen) (h3 : ∀ x ∈ l, (Lit.int .u8 x).wf = true) : ∃ k, laws_FnTradesRun.f k l = some true := by
  refine evp_true (evp_succ (fun k => laws_FnTradesRun.f_eq k l) (evp_d (fun _ => evp_some rfl) (fun hl => ?_)))
  refine evp_bind (drawRun_ev h3 (by omega)) (fun q ⟨q1, ⟨q2, q3⟩, q4⟩ => ?_)
  obtain ⟨h, ts, a⟩ := q
  simp only at q1 q2 q3 q4
  refine Ev.p ?_ rfl
  have hr : ∀ t ∈ ts, TrOk t := fun t ht => (q3 t ht).ok
  have hlen := trunV_len h ts a
  refine ev_bind (iTRun_ev h ts a (by omega) (by omega) hr) (ev_bind (sTRun_ev h ts a (by omega) (by omega) hr) (ev_bind (sameInts_any _ _ (by omega)) (ev_nf (decide_eq_true rfl) (ev_nf (by simp) ?_))))
  cases hok : (trunV h ts a).2 with
  | false =>
    have : (trunV h ts a).1 = [] := by
      unfold trunV at hok ⊢
      split
      · rename_i hc; rw [if_pos hc] at hok; exact trunL_no hok
      · rfl
    rw [this]
    exact ev_nt rfl (ev_dt rfl (ev_bind alive_ev (ev_some.2 rfl)))
  | true =>
    have hc : vh 40 h = true ∧ tsV ts = true ∧ a.length ≤ 99 := by
      unfold trunV at hok
      split at hok
      · rename_i hc; exact hc
      · cases hok
    have hE : ∀ (x b : List Int), vh 40 x = true → b.length ≤ 99 → trunV x ts b = trunL ts b x := fun x b hx hb => by unfold trunV; rw [if_pos ⟨hx, hc.2.1, hb⟩]
    have hts := (tsV_of hc.2.1).1
    have hT := hE h a hc.1 hc.2.2
    rw [hT] at hok hlen ⊢
    have hdiv : wr ((a.length : Int).tdiv 2) = ((a.length / 2 : Nat) : Int) := by
      rw [Int.tdiv_eq_ediv_of_nonneg (by omega), w64 (by omega) (by omega)]; omega
    rw [hdiv, Int.toNat_natCast, Int.toNat_natCast, show (0 : Int).toNat = 0 from rfl, List.drop_zero, List.take_length]
    have happ := trunL_app ts (a.drop (a.length / 2)) (a.take (a.length / 2)) h
    rw [List.take_append_drop] at happ
    have hfirst : (trunL ts (a.take (a.length / 2)) h).2 = true := by
      cases hb : (trunL ts (a.take (a.length / 2)) h).2 with
      | true => rfl
      | false => rw [hb] at happ; rw [happ] at hok; exact absurd hok (by simp)
    rw [if_pos hfirst] at happ
    have hv1 := trunL_vh hts hc.1 hfirst
    have hvE := trunL_vh hts hc.1 hok
    have hA := hE h (a.take (a.length / 2)) hc.1 (by rw [List.length_take]; omega)
    have hB := hE _ (a.drop (a.length / 2)) hv1 (by rw [List.length_drop]; omega)
    have rA := iTRun_ev h ts (a.take (a.length / 2)) (by omega) (by omega) hr
    have rB := iTRun_ev (trunL ts (a.take (a.length / 2)) h).1 ts (a.drop (a.length / 2)) (by rw [(vh_len hv1).1]; omega) (by omega) hr
    rw [hA] at rA
    rw [hB, ← happ] at rB
    dsimp only
    refine ev_nf rfl (ev_gd (by omega) (ev_bind rA (ev_gd (by omega) (ev_bind rB (ev_bind (implLong_ev h ts (by omega) (by omega) hr) ?_)))))
    refine ev_bind (ev_succ (fun k => impl_HeapsValid.f_eq k _) (ev_bind (thingsOk_ev (trunL ts a h).1 40 (by omega)) (ev_some.2 hvE))) (ev_bt rfl (ev_bind (sameInts_any _ _ (by omega)) (ev_bt (decide_eq_true rfl) ?_)))
    by_cases hn : 0 ≤ longV ts h
    · obtain ⟨hne, Q, hQ, e⟩ := long_sol hn
      obtain ⟨hR, hh, htV⟩ := reach_of hne
      have hh' : h ∈ reachV ts h := List.mem_of_getElem? hR.first
      have := trunL_long hR.closed hQ a h hh' hok
      exact ev_df (by omega) (ev_some.2 (decide_eq_true (by omega)))
    · exact ev_dt (by omega) (ev_some.2 rfl)
end Go.Proofs.Ytgibeillafnieaa.EPure
