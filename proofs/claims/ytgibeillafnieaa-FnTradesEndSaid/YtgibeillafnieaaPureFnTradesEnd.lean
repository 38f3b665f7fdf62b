/-
  The pure statement of FnTradesEnd.
-/
import Derived.Test.YtgibeillafnieaaQN
import Derived.ProofKit
import Derived.IntWalk
namespace Go.Proofs.Ytgibeillafnieaa.EPure
open Go Go.RowKit Go.Proofs.Ytgibeillafnieaa.Eng
set_option linter.unusedVariables false
set_option linter.unusedSimpArgs false

/-! Rounds without counting them. -/
def Ev {α : Type} (g : Nat → Option α) (r : α) : Prop := ∃ K, ∀ k, K ≤ k → g k = some r
theorem ev_some {α : Type} {a r : α} : Ev (fun _ => some a) r ↔ a = r := by
  constructor
  · rintro ⟨K, h⟩
    exact Option.some.inj (h K (Nat.le_refl _))
  · rintro rfl
    exact ⟨0, fun _ _ => rfl⟩
theorem ev_bind {α β : Type} {g : Nat → Option α} {f : Nat → α → Option β} {a : α} (h : Ev g a) {r : β} (h2 : Ev (fun k => f k a) r) : Ev (fun k => (g k).bind (f k)) r := by
  obtain ⟨K, h⟩ := h
  obtain ⟨L, h2⟩ := h2
  exact ⟨max K L, fun k hk => by simp only [h k (by omega), Option.bind_some]; exact h2 k (by omega)⟩
theorem ev_succ {α : Type} {g f : Nat → Option α} {r : α} (h : ∀ k, g (k + 1) = f k) (e : Ev f r) : Ev g r := by
  obtain ⟨K, e⟩ := e
  refine ⟨K + 1, fun k hk => ?_⟩
  obtain ⟨j, rfl⟩ : ∃ j, k = j + 1 := ⟨k - 1, by omega⟩
  rw [h]
  exact e j (by omega)
theorem ev_true {g : Nat → Option Bool} (h : Ev g true) : ∃ k, g k = some true := by
  obtain ⟨K, h⟩ := h
  exact ⟨K, h K (Nat.le_refl _)⟩
theorem ev_gate {α : Type} {c : Bool} {g : Nat → Option α} {r : α} (hc : c = true) (e : Ev g r) : Ev (fun k => gate c (g k)) r := by
  subst hc
  exact e
theorem ev_gd {α : Type} {p : Prop} [Decidable p] {g : Nat → Option α} {r : α} (hp : p) (e : Ev g r) : Ev (fun k => gate (decide p) (g k)) r := ev_gate (decide_eq_true hp) e
theorem ev_bt {α : Type} {c : Bool} {g h : Nat → Option α} {r : α} (hc : c = true) (e : Ev g r) : Ev (fun k => br c (g k) (h k)) r := by
  subst hc
  exact e
theorem ev_bf {α : Type} {c : Bool} {g h : Nat → Option α} {r : α} (hc : c = false) (e : Ev h r) : Ev (fun k => br c (g k) (h k)) r := by
  subst hc
  exact e
theorem ev_dt {α : Type} {p : Prop} [Decidable p] {g h : Nat → Option α} {r : α} (hp : p) (e : Ev g r) : Ev (fun k => br (decide p) (g k) (h k)) r := ev_bt (decide_eq_true hp) e
theorem ev_df {α : Type} {p : Prop} [Decidable p] {g h : Nat → Option α} {r : α} (hp : ¬ p) (e : Ev h r) : Ev (fun k => br (decide p) (g k) (h k)) r := ev_bf (decide_eq_false hp) e
theorem ev_nt {α : Type} {c : Bool} {g h : Nat → Option α} {r : α} (hc : c = false) (e : Ev g r) : Ev (fun k => br (!c) (g k) (h k)) r := by
  subst hc
  exact e
theorem ev_nf {α : Type} {c : Bool} {g h : Nat → Option α} {r : α} (hc : c = true) (e : Ev h r) : Ev (fun k => br (!c) (g k) (h k)) r := by
  subst hc
  exact e
/-! What comes of some rounds, with a property. -/
def EvP {α : Type} (g : Nat → Option α) (Q : α → Prop) : Prop := ∃ r, Ev g r ∧ Q r
theorem Ev.p {α : Type} {g : Nat → Option α} {Q : α → Prop} {r : α} (h : Ev g r) (q : Q r) : EvP g Q := ⟨r, h, q⟩
theorem evp_some {α : Type} {Q : α → Prop} {r : α} (q : Q r) : EvP (fun _ => some r) Q := ⟨r, ev_some.2 rfl, q⟩
theorem evp_bind {α β : Type} {g : Nat → Option α} {f : Nat → α → Option β} {P : α → Prop} {Q : β → Prop} (h : EvP g P) (e : ∀ a, P a → EvP (fun k => f k a) Q) : EvP (fun k => (g k).bind (f k)) Q := by
  obtain ⟨a, h1, p⟩ := h
  obtain ⟨r, h2, q⟩ := e a p
  exact ⟨r, ev_bind h1 h2, q⟩
theorem evp_bindv {α β : Type} {g : Nat → Option α} {f : Nat → α → Option β} {a : α} {Q : β → Prop} (h : Ev g a) (e : EvP (fun k => f k a) Q) : EvP (fun k => (g k).bind (f k)) Q := by
  obtain ⟨r, h2, q⟩ := e
  exact ⟨r, ev_bind h h2, q⟩
theorem evp_succ {α : Type} {g f : Nat → Option α} {Q : α → Prop} (h : ∀ k, g (k + 1) = f k) (e : EvP f Q) : EvP g Q := by
  obtain ⟨r, h2, q⟩ := e
  exact ⟨r, ev_succ h h2, q⟩
theorem evp_mono {α : Type} {g : Nat → Option α} {P Q : α → Prop} (h : EvP g P) (hq : ∀ a, P a → Q a) : EvP g Q := by
  obtain ⟨r, h2, p⟩ := h
  exact ⟨r, h2, hq r p⟩
theorem evp_gd {α : Type} {p : Prop} [Decidable p] {g : Nat → Option α} {Q : α → Prop} (hp : p) (e : EvP g Q) : EvP (fun k => gate (decide p) (g k)) Q := by
  obtain ⟨r, h, q⟩ := e
  exact ⟨r, ev_gd hp h, q⟩
theorem evp_gn {α : Type} {p : Prop} [Decidable p] {g : Nat → Option α} {Q : α → Prop} (hp : ¬ p) (e : EvP g Q) : EvP (fun k => gate (!decide p) (g k)) Q := by
  obtain ⟨r, h, q⟩ := e
  exact ⟨r, ev_gate (by simp [hp]) h, q⟩
theorem evp_b {α : Type} {c : Bool} {g h : Nat → Option α} {Q : α → Prop} (e1 : c = true → EvP g Q) (e2 : c = false → EvP h Q) : EvP (fun k => br c (g k) (h k)) Q := by
  cases c with
  | true => exact e1 rfl
  | false => exact e2 rfl
theorem evp_d {α : Type} {p : Prop} [Decidable p] {g h : Nat → Option α} {Q : α → Prop} (e1 : p → EvP g Q) (e2 : ¬ p → EvP h Q) : EvP (fun k => br (decide p) (g k) (h k)) Q :=
  evp_b (fun h => e1 (of_decide_eq_true h)) (fun h => e2 (of_decide_eq_false h))
theorem evp_true {g : Nat → Option Bool} (h : EvP g (fun b => b = true)) : ∃ k, g k = some true := by
  obtain ⟨r, h, rfl⟩ := h
  exact ev_true h
theorem wr_eq (x : Int) : wr x = wrap64 x := by unfold wrap64; exact IntKind.wrap_i64 x
theorem w64 {x : Int} (h0 : -9223372036854775808 ≤ x) (h1 : x ≤ 9223372036854775807) : wr x = x := by
  rw [wr_eq]
  unfold wrap64
  omega
theorem w_succ {i : Nat} (h : i < 9223372036854775807) : wr ((i : Int) + 1) = ((i + 1 : Nat) : Int) := by rw [w64] <;> omega
theorem get_nat {l : List Int} {i : Nat} (h : i < l.length) : l.getD (i : Int).toNat 0 = l[i] := by
  rw [Int.toNat_natCast, List.getD_eq_getElem?_getD, List.getElem?_eq_getElem h]
  rfl
theorem limE : lim = 1099511627776 := rfl
theorem ev_const {α : Type} {x : Option α} {r : α} (h : x = some r) : Ev (fun _ => x) r := ⟨0, fun _ _ => h⟩
theorem get_at {α : Type} {l : List α} {i : Nat} {d : α} (h : i < l.length) : l.getD (i : Int).toNat d = l[i] := by
  rw [Int.toNat_natCast, List.getD_eq_getElem?_getD, List.getElem?_eq_getElem h]
  rfl
theorem ev_eq {α : Type} {g : Nat → Option α} {a b : α} (h : Ev g a) (e : a = b) : Ev g b := e ▸ h
theorem l1In_ev (a b c : Int) : Ev (fun k => spec_l1In.f k a b c) (decide (a ≥ b) && decide (a ≤ c)) := by
  refine ev_succ (fun k => spec_l1In.f_eq k a b c) ?_
  by_cases h : a ≥ b
  · exact ev_dt h (ev_some.2 (by simp [h]))
  · exact ev_df h (ev_some.2 (by simp [h]))
/-! Trees, their rows, their order. -/
mutual
def fT : Term → List Int
  | ⟨c, e⟩ => c :: (e.length : Int) :: fL e
def fL : List Term → List Int
  | [] => []
  | t :: x => fT t ++ fL x
end
def row (x : List Term) : List Int := (x.length : Int) :: fL x
theorem fT_eq (t : Term) : fT t = t.f0 :: row t.f1 := by cases t; rw [fT]; rfl
theorem fL_nil : fL [] = [] := by rw [fL]
theorem fL_cons (t : Term) (x : List Term) : fL (t :: x) = t.f0 :: (row t.f1 ++ fL x) := by rw [fL, fT_eq]; rfl
theorem fL_app (x y : List Term) : fL (x ++ y) = fL x ++ fL y := by
  induction x with
  | nil => simp [fL_nil]
  | cons t x ih => simp [fL_cons, ih]
def size (x : List Term) : Nat := (row x).length
theorem size_eq (x : List Term) : size x = 1 + (fL x).length := by simp [size, row, Nat.add_comm]
theorem size_nil : size [] = 1 := by simp [size_eq, fL_nil]
theorem size_cons (t : Term) (x : List Term) : size (t :: x) = 1 + size t.f1 + size x := by
  simp only [size_eq, fL_cons, List.length_cons, List.length_append]
  have := size_eq t.f1
  simp only [size] at this
  omega
theorem size_pos (x : List Term) : 1 ≤ size x := by rw [size_eq]; omega
theorem size_len (x : List Term) : 1 + 2 * x.length ≤ size x := by
  induction x with
  | nil => simp [size_nil]
  | cons t x ih => rw [size_cons]; have := size_pos t.f1; simp; omega
theorem size_app (x y : List Term) : size (x ++ y) + 1 = size x + size y := by
  simp only [size_eq, fL_app, List.length_append]; omega
mutual
def mT : Term → Int
  | ⟨c, e⟩ => max c (mL e)
def mL : List Term → Int
  | [] => 0
  | t :: x => max (mT t) (mL x)
end
theorem mT_eq (t : Term) : mT t = max t.f0 (mL t.f1) := by cases t; rw [mT]
theorem mL_nil : mL [] = 0 := by rw [mL]
theorem mL_cons (t : Term) (x : List Term) : mL (t :: x) = max (max t.f0 (mL t.f1)) (mL x) := by rw [mL, mT_eq]
theorem mL_pos (x : List Term) : 0 ≤ mL x := by
  induction x with
  | nil => simp [mL_nil]
  | cons t x ih => rw [mL_cons]; omega
theorem mL_app (x y : List Term) : mL (x ++ y) = max (mL x) (mL y) := by
  induction x with
  | nil => rw [mL_nil, List.nil_append]; have := mL_pos y; omega
  | cons t x ih => simp only [List.cons_append, mL_cons, ih]; omega
theorem mL_mem {x : List Term} {t : Term} (h : t ∈ x) : t.f0 ≤ mL x ∧ mL t.f1 ≤ mL x := by
  induction x with
  | nil => cases h
  | cons s x ih =>
    rw [mL_cons]
    rcases List.mem_cons.1 h with h | h
    · rw [h]; omega
    · have := ih h; omega
mutual
def cT : Term → Term → Int
  | ⟨c, e⟩, ⟨d, f⟩ => if cL e f = 0 then (if c < d then -1 else if c > d then 1 else 0) else cL e f
def cL : List Term → List Term → Int
  | [], [] => 0
  | [], _ :: _ => -1
  | _ :: _, [] => 1
  | a :: x, b :: y => if cT a b = 0 then cL x y else cT a b
end
theorem cT_eq (a b : Term) : cT a b = if cL a.f1 b.f1 = 0 then (if a.f0 < b.f0 then -1 else if a.f0 > b.f0 then 1 else 0) else cL a.f1 b.f1 := by cases a; cases b; rw [cT]
theorem cL_nn : cL [] [] = 0 := by rw [cL]
theorem cL_nc (b : Term) (y : List Term) : cL [] (b :: y) = -1 := by rw [cL]
theorem cL_cn (a : Term) (x : List Term) : cL (a :: x) [] = 1 := by rw [cL]
theorem cL_cc (a b : Term) (x y : List Term) : cL (a :: x) (b :: y) = if cT a b = 0 then cL x y else cT a b := by rw [cL]
/-- A property of trees, by their parts. -/
theorem tree_ind {P : List Term → Prop} (h0 : P []) (h1 : ∀ t x, P t.f1 → P x → P (t :: x)) : ∀ x, P x
  | [] => h0
  | ⟨c, e⟩ :: x => h1 ⟨c, e⟩ x (tree_ind h0 h1 e) (tree_ind h0 h1 x)
termination_by x => SizeOf.sizeOf x
theorem c_range (x : List Term) : ∀ y, cL x y = -1 ∨ cL x y = 0 ∨ cL x y = 1 := by
  refine tree_ind (P := fun x => ∀ y, cL x y = -1 ∨ cL x y = 0 ∨ cL x y = 1) ?_ ?_ x
  · intro y
    cases y with
    | nil => rw [cL_nn]; omega
    | cons b y => rw [cL_nc]; omega
  · intro t x h1 h2 y
    cases y with
    | nil => rw [cL_cn]; omega
    | cons b y =>
      rw [cL_cc, cT_eq]
      have a1 := h1 b.f1
      have a2 := h2 y
      by_cases e : cL t.f1 b.f1 = 0
      · rw [if_pos e]
        rcases Int.lt_trichotomy t.f0 b.f0 with h | h | h
        · simp [h]
        · simpa [h] using a2
        · have : ¬ t.f0 < b.f0 := by omega
          simp [h, this]
      · rw [if_neg e, if_neg e]
        exact a1
theorem c_refl (x : List Term) : cL x x = 0 := by
  refine tree_ind (P := fun x => cL x x = 0) cL_nn ?_ x
  intro t x h1 h2
  rw [cL_cc, cT_eq, h1, h2]
  simp
theorem c_eq (x : List Term) : ∀ y, cL x y = 0 → x = y := by
  refine tree_ind (P := fun x => ∀ y, cL x y = 0 → x = y) ?_ ?_ x
  · intro y h
    cases y with
    | nil => rfl
    | cons b y => rw [cL_nc] at h; omega
  · intro t x h1 h2 y h
    cases y with
    | nil => rw [cL_cn] at h; omega
    | cons b y =>
      rw [cL_cc, cT_eq] at h
      by_cases e : cL t.f1 b.f1 = 0
      · have e1 := h1 _ e
        rw [if_pos e] at h
        have : t.f0 = b.f0 := by
          apply Classical.byContradiction
          intro hc
          rcases Int.lt_or_gt_of_ne hc with hl | hl
          · simp [hl] at h
          · have : ¬ t.f0 < b.f0 := by omega
            simp [hl, this] at h
        have h3 : cL x y = 0 := by simpa [this] using h
        rw [h2 _ h3]
        cases t; cases b; simp_all
      · rw [if_neg e, if_neg e] at h
        exact absurd h e
theorem c_swap (x : List Term) : ∀ y, cL y x = - cL x y := by
  refine tree_ind (P := fun x => ∀ y, cL y x = - cL x y) ?_ ?_ x
  · intro y
    cases y with
    | nil => rw [cL_nn]; omega
    | cons b y => rw [cL_nc, cL_cn]; omega
  · intro t x h1 h2 y
    cases y with
    | nil => rw [cL_cn, cL_nc]
    | cons b y =>
      rw [cL_cc, cL_cc, cT_eq, cT_eq, h1 b.f1, h2 y]
      by_cases e : cL t.f1 b.f1 = 0
      · rw [if_pos (show - cL t.f1 b.f1 = 0 by omega), if_pos e]
        rcases Int.lt_trichotomy t.f0 b.f0 with h | h | h
        · have : ¬ b.f0 < t.f0 := by omega
          simp [h, this]
        · simp [h]
        · have : ¬ t.f0 < b.f0 := by omega
          simp [h, this]
      · rw [if_neg (show ¬ - cL t.f1 b.f1 = 0 by omega), if_neg e, if_neg (show ¬ - cL t.f1 b.f1 = 0 by omega), if_neg e]
/-- Less. -/
def Lt (x y : List Term) : Prop := cL x y = -1
theorem lt_cc {a b : Term} {x y : List Term} : Lt (a :: x) (b :: y) ↔ Lt a.f1 b.f1 ∨ (a.f1 = b.f1 ∧ (a.f0 < b.f0 ∨ (a.f0 = b.f0 ∧ Lt x y))) := by
  unfold Lt
  rw [cL_cc, cT_eq]
  by_cases e : cL a.f1 b.f1 = 0
  · have e1 := c_eq _ _ e
    rw [if_pos e]
    rcases Int.lt_trichotomy a.f0 b.f0 with h | h | h
    · simp [h, e1]
    · have := c_refl b.f1
      simp [h, e1, this]
    · have h' : ¬ a.f0 < b.f0 := by omega
      have h'' : ¬ a.f0 = b.f0 := by omega
      have := c_refl b.f1
      simp [h, h', h'', e1, this]
  · rw [if_neg e, if_neg e]
    have : a.f1 ≠ b.f1 := fun h => e (by rw [h]; exact c_refl _)
    simp [this]
theorem lt_irrefl (x : List Term) : ¬ Lt x x := by unfold Lt; rw [c_refl]; omega
theorem lt_trans (x : List Term) : ∀ y z, Lt x y → Lt y z → Lt x z := by
  refine tree_ind (P := fun x => ∀ y z, Lt x y → Lt y z → Lt x z) ?_ ?_ x
  · intro y z h1 h2
    cases z with
    | nil => cases y with
      | nil => exact h2
      | cons b y => unfold Lt at h2; rw [cL_cn] at h2; omega
    | cons c z => exact cL_nc _ _
  · intro t x i1 i2 y z h1 h2
    cases y with
    | nil => unfold Lt at h1; rw [cL_cn] at h1; omega
    | cons b y =>
      cases z with
      | nil => unfold Lt at h2; rw [cL_cn] at h2; omega
      | cons c z =>
        rw [lt_cc] at h1 h2 ⊢
        rcases h1 with h1 | ⟨h1, h1'⟩
        · rcases h2 with h2 | ⟨h2, _⟩
          · exact .inl (i1 _ _ h1 h2)
          · exact .inl (by rw [← h2]; exact h1)
        · rcases h2 with h2 | ⟨h2, h2'⟩
          · exact .inl (by rw [h1]; exact h2)
          · refine .inr ⟨h1.trans h2, ?_⟩
            rcases h1' with h1' | ⟨h1', h3⟩
            · rcases h2' with h2' | ⟨h2', h4⟩ <;> exact .inl (by omega)
            · rcases h2' with h2' | ⟨h2', h4⟩
              · exact .inl (by omega)
              · exact .inr ⟨by omega, i2 _ _ h3 h4⟩
theorem lt_asymm {x y : List Term} (h : Lt x y) : ¬ Lt y x := fun h2 => lt_irrefl x (lt_trans _ _ _ h h2)
theorem c_lt {x y : List Term} : cL x y = -1 ↔ Lt x y := Iff.rfl
theorem c_gt {x y : List Term} : cL x y = 1 ↔ Lt y x := by unfold Lt; rw [c_swap x y]; omega
theorem c_zero {x y : List Term} : cL x y = 0 ↔ x = y := ⟨c_eq x y, fun h => by rw [h]; exact c_refl _⟩
theorem c_cases (x y : List Term) : (cL x y = -1 ∧ Lt x y) ∨ (cL x y = 0 ∧ x = y) ∨ (cL x y = 1 ∧ Lt y x) := by
  rcases c_range x y with h | h | h
  · exact .inl ⟨h, h⟩
  · exact .inr (.inl ⟨h, c_eq _ _ h⟩)
  · exact .inr (.inr ⟨h, c_gt.1 h⟩)
theorem not_lt_nil (x : List Term) : ¬ Lt x [] := by
  unfold Lt
  cases x with
  | nil => rw [cL_nn]; omega
  | cons t x => rw [cL_cn]; omega
theorem nil_lt (t : Term) (x : List Term) : Lt [] (t :: x) := cL_nc _ _
/-! Ordinals in normal form. -/
mutual
def vT : Term → Prop
  | ⟨c, e⟩ => 1 ≤ c ∧ vL e
def vL : List Term → Prop
  | [] => True
  | t :: x => vT t ∧ (∀ u ∈ x, Lt u.f1 t.f1) ∧ vL x
end
theorem vT_eq (t : Term) : vT t ↔ 1 ≤ t.f0 ∧ vL t.f1 := by cases t; rw [vT]
theorem vL_nil : vL [] := by rw [vL]; trivial
theorem vL_cons (t : Term) (x : List Term) : vL (t :: x) ↔ (1 ≤ t.f0 ∧ vL t.f1) ∧ (∀ u ∈ x, Lt u.f1 t.f1) ∧ vL x := by rw [vL, vT_eq]
theorem vL_one (t : Term) : vL [t] ↔ 1 ≤ t.f0 ∧ vL t.f1 := by
  rw [vL_cons]
  exact ⟨fun h => h.1, fun h => ⟨h, (by intro u hu; cases hu), vL_nil⟩⟩
theorem vL_app (x y : List Term) : vL (x ++ y) ↔ vL x ∧ vL y ∧ (∀ t ∈ x, ∀ u ∈ y, Lt u.f1 t.f1) := by
  induction x with
  | nil => simp [vL_nil]
  | cons t x ih =>
    rw [List.cons_append, vL_cons, vL_cons, ih]
    constructor
    · rintro ⟨a, b, c, d, e⟩
      exact ⟨⟨a, fun u hu => b u (List.mem_append_left _ hu), c⟩, d, fun s hs u hu => by
        rcases List.mem_cons.1 hs with h | h
        · rw [h]; exact b u (List.mem_append_right _ hu)
        · exact e s h u hu⟩
    · rintro ⟨⟨a, b, c⟩, d, e⟩
      exact ⟨a, fun u hu => by
        rcases List.mem_append.1 hu with h | h
        · exact b u h
        · exact e t List.mem_cons_self u h, c, d, fun s hs u hu => e s (List.mem_cons_of_mem _ hs) u hu⟩
theorem vL_mem {x : List Term} (h : vL x) {t : Term} (ht : t ∈ x) : 1 ≤ t.f0 ∧ vL t.f1 := by
  induction x with
  | nil => cases ht
  | cons u x ih =>
    rw [vL_cons] at h
    rcases List.mem_cons.1 ht with h1 | h1
    · rw [h1]; exact h.1
    · exact ih h.2.2 h1
/-! Trees read off rows. -/
def pv (p : Option (List Term)) (e : List Term) : Bool := match p with
  | none => false
  | some q => decide (cL e q ≥ 0)
def tO : Nat → Nat → Option (List Term) → List Int → Option (List Term × List Int)
  | _, 0, _, l => some ([], l)
  | f + 1, n + 1, p, c :: m :: l => if c < 1 ∨ c > 9999 ∨ m < 0 ∨ m > 60 then none else match tO f m.toNat none l with
    | none => none
    | some (e, r) => if pv p e = true then none else match tO f n (some e) r with
      | none => none
      | some (x, r') => some (⟨c, e⟩ :: x, r')
  | _, _ + 1, _, _ => none
theorem tO_sound : ∀ (f n : Nat) (p : Option (List Term)) (l : List Int) {x : List Term} {r : List Int}, tO f n p l = some (x, r) →
    x.length = n ∧ l = fL x ++ r ∧ vL x ∧ mL x ≤ 9999 ∧ ∀ q, p = some q → ∀ t ∈ x, Lt t.f1 q
  | f, 0, p, l, x, r, h => by
    unfold tO at h
    simp only [Option.some.injEq, Prod.mk.injEq] at h
    obtain ⟨rfl, rfl⟩ := h
    exact ⟨rfl, by rw [fL_nil]; rfl, vL_nil, by rw [mL_nil]; omega, fun q _ t ht => by cases ht⟩
  | 0, n + 1, p, l, x, r, h => by cases l with
    | nil => simp [tO] at h
    | cons c l => cases l <;> simp [tO] at h
  | f + 1, n + 1, p, [], x, r, h => by simp [tO] at h
  | f + 1, n + 1, p, [c], x, r, h => by simp [tO] at h
  | f + 1, n + 1, p, c :: m :: l, x, r, h => by
    rw [tO] at h
    split at h
    · cases h
    · rename_i hb
      split at h
      · cases h
      · rename_i e r1 h1
        split at h
        · cases h
        · rename_i hq
          split at h
          · cases h
          · rename_i x' r2 h2
            simp only [Option.some.injEq, Prod.mk.injEq] at h
            obtain ⟨rfl, rfl⟩ := h
            obtain ⟨a1, a2, a3, a4, a5⟩ := tO_sound f _ _ l h1
            obtain ⟨b1, b2, b3, b4, b5⟩ := tO_sound f n _ r1 h2
            have hm : m = (e.length : Int) := by omega
            refine ⟨by simp [b1], ?_, ?_, ?_, ?_⟩
            · rw [fL_cons, a2, b2, hm]
              simp [row]
            · rw [vL_cons]
              exact ⟨⟨by show 1 ≤ c; omega, a3⟩, b5 e rfl, b3⟩
            · rw [mL_cons]
              show max (max c (mL e)) (mL x') ≤ 9999
              omega
            · intro q hp t ht
              subst hp
              have hlt : Lt e q := by
                have := c_range e q
                unfold Lt
                simp only [pv, decide_eq_true_eq] at hq
                omega
              rcases List.mem_cons.1 ht with h | h
              · rw [h]; exact hlt
              · exact lt_trans _ _ _ (b5 e rfl t h) hlt
theorem tO_complete : ∀ (f : Nat) (x : List Term) (p : Option (List Term)) (r : List Int), vL x → mL x ≤ 9999 → size x ≤ 61 → (∀ q, p = some q → ∀ t ∈ x, Lt t.f1 q) → (fL x).length ≤ f → tO f x.length p (fL x ++ r) = some (x, r)
  | f, [], p, r, _, _, _, _, _ => by simp [fL_nil, tO]
  | 0, t :: x, p, r, _, _, _, _, h => by rw [fL_cons] at h; simp at h
  | f + 1, t :: x, p, r, hv, hm, hs, hp, h => by
    rw [vL_cons] at hv
    rw [mL_cons] at hm
    rw [size_cons] at hs
    rw [fL_cons] at h ⊢
    have hz := size_pos x
    have hz2 := size_len t.f1
    have hz3 := size_eq t.f1
    have hz4 := size_eq x
    rw [List.length_cons, List.length_append] at h
    have hr : (row t.f1).length = size t.f1 := rfl
    simp only [row, List.cons_append, List.length_cons, List.append_assoc]
    rw [tO, if_neg (by omega), Int.toNat_natCast, tO_complete f t.f1 none (fL x ++ r) hv.1.2 (by omega) (by omega) (fun q h => by cases h) (by omega)]
    have hpp : ¬ pv p t.f1 = true := by
      cases p with
      | none => exact Bool.false_ne_true
      | some q =>
        have := hp q rfl t List.mem_cons_self
        unfold Lt at this
        simp only [pv, decide_eq_true_eq]
        omega
    simp only []
    rw [if_neg hpp, tO_complete f x (some t.f1) r hv.2.2 (by omega) (by omega) (fun q h => by cases h; exact hv.2.1) (by omega)]
    cases t
    rfl
theorem tO_fuel : ∀ (f g n : Nat) (p : Option (List Term)) (l : List Int), l.length ≤ f → l.length ≤ g → tO f n p l = tO g n p l
  | f, g, 0, p, l, _, _ => by simp [tO]
  | 0, 0, n + 1, p, l, _, _ => rfl
  | 0, g + 1, n + 1, p, l, h, _ => by
    obtain rfl : l = [] := List.eq_nil_of_length_eq_zero (by omega)
    simp [tO]
  | f + 1, 0, n + 1, p, l, _, h => by
    obtain rfl : l = [] := List.eq_nil_of_length_eq_zero (by omega)
    simp [tO]
  | f + 1, g + 1, n + 1, p, [], _, _ => by simp [tO]
  | f + 1, g + 1, n + 1, p, [c], _, _ => by simp [tO]
  | f + 1, g + 1, n + 1, p, c :: m :: l, hf, hg => by
    simp only [List.length_cons] at hf hg
    rw [tO, tO]
    split
    · rfl
    · rw [tO_fuel f g m.toNat none l (by omega) (by omega)]
      cases h : tO g m.toNat none l with
      | none => rfl
      | some q =>
        obtain ⟨e, r⟩ := q
        have := congrArg List.length (tO_sound g _ _ l h).2.1
        rw [List.length_append] at this
        simp only
        rw [tO_fuel f g n (some e) r (by omega) (by omega)]
def tO1 (l : List Int) : Option (List Term × List Int) := match l with
  | [] => none
  | m :: l' => if m < 0 ∨ m > 60 then none else tO l'.length m.toNat none l'
theorem tO1_sound {l : List Int} {x : List Term} {r : List Int} (h : tO1 l = some (x, r)) : l = row x ++ r ∧ vL x ∧ mL x ≤ 9999 := by
  cases l with
  | nil => simp [tO1] at h
  | cons m l =>
    simp only [tO1] at h
    split at h
    · cases h
    · obtain ⟨a1, a2, a3, a4, _⟩ := tO_sound _ _ _ l h
      refine ⟨?_, a3, a4⟩
      rw [a2, row, a1, List.cons_append]
      congr 1
      omega
theorem tO1_complete {x : List Term} (r : List Int) (hv : vL x) (hm : mL x ≤ 9999) (hs : size x ≤ 61) : tO1 (row x ++ r) = some (x, r) := by
  have := size_len x
  simp only [row, List.cons_append, tO1]
  rw [if_neg (by omega), Int.toNat_natCast]
  exact tO_complete _ x none r hv hm (by omega) (fun q h => by cases h) (by simp)
theorem tO_step {f n : Nat} {p : Option (List Term)} {c : Int} {l : List Int} (hf : l.length ≤ f) : tO (f + 1) (n + 1) p (c :: l) = if c < 1 ∨ c > 9999 then none else match tO1 l with
    | none => none
    | some (e, r) => if pv p e = true then none else match tO r.length n (some e) r with
      | none => none
      | some (x, r') => some (⟨c, e⟩ :: x, r') := by
  cases l with
  | nil => simp [tO, tO1]
  | cons m l =>
    simp only [List.length_cons] at hf
    rw [tO]
    simp only [tO1]
    by_cases h1 : c < 1 ∨ c > 9999
    · rw [if_pos (by omega), if_pos h1]
    · rw [if_neg h1]
      by_cases h2 : m < 0 ∨ m > 60
      · rw [if_pos (by omega), if_pos h2]
      · rw [if_neg (by omega), if_neg h2, tO_fuel f l.length m.toNat none l (by omega) (by omega)]
        cases h : tO l.length m.toNat none l with
        | none => rfl
        | some q =>
          obtain ⟨e, r⟩ := q
          have := congrArg List.length (tO_sound _ _ _ l h).2.1
          rw [List.length_append] at this
          simp only
          rw [tO_fuel f r.length n (some e) r (by omega) (by omega)]
/-- A valid row. -/
def OV (r : List Int) : Bool := decide (1 ≤ r.length ∧ r.length ≤ 60) && match tO1 r with
  | some (_, r') => r'.isEmpty
  | none => false
/-- A tree whose row is valid. -/
structure Fit (x : List Term) : Prop where
  v : vL x
  m : mL x ≤ 9999
  s : size x ≤ 60
theorem OV_row {x : List Term} (h : vL x) : OV (row x) = decide (mL x ≤ 9999 ∧ size x ≤ 60) := by
  have hz := size_pos x
  have hr : (row x).length = size x := rfl
  by_cases hf : mL x ≤ 9999 ∧ size x ≤ 60
  · rw [decide_eq_true hf]
    unfold OV
    have := tO1_complete [] h hf.1 (by omega)
    rw [List.append_nil] at this
    rw [this, hr, decide_eq_true (by omega)]
    rfl
  · rw [decide_eq_false hf]
    unfold OV
    by_cases hl : size x ≤ 60
    · rw [hr, decide_eq_true (by omega), Bool.true_and]
      cases ht : tO1 (row x) with
      | none => rfl
      | some q =>
        obtain ⟨y, r⟩ := q
        obtain ⟨a1, a2, a3⟩ := tO1_sound ht
        cases r with
        | cons _ _ => rfl
        | nil =>
          exfalso
          rw [List.append_nil] at a1
          have hys : size y = size x := by unfold size; rw [a1]
          have h1 := tO1_complete (x := y) [] a2 a3 (by omega)
          have h2 : mL x ≤ 9999 := by
            -- rows tell trees
            have : ∀ (x : List Term) (y : List Term) (r s : List Int), row x ++ r = row y ++ s → x = y ∧ r = s := by
              intro x
              refine tree_ind (P := fun x => ∀ y r s, row x ++ r = row y ++ s → x = y ∧ r = s) ?_ ?_ x
              · intro y r s h
                cases y with
                | nil => exact ⟨rfl, by simpa [row, fL_nil] using h⟩
                | cons b y => simp only [row, List.length_nil, List.length_cons, List.cons_append, List.cons.injEq] at h; omega
              · intro t x i1 i2 y r s h
                cases y with
                | nil => simp only [row, List.length_nil, List.length_cons, List.cons_append, List.cons.injEq] at h; omega
                | cons b y =>
                  simp only [row, List.length_cons, List.cons_append, List.cons.injEq, fL_cons, List.append_assoc] at h
                  obtain ⟨h0, h1, h2⟩ := h
                  have h3 := i1 b.f1 (fL x ++ r) (fL y ++ s) (by simp only [row, List.cons_append]; rw [h2.1, h2.2])
                  have h4 := i2 y r s (by simp only [row, List.cons_append]; rw [h3.2]; congr 1; omega)
                  refine ⟨?_, h4.2⟩
                  cases t; cases b; simp_all
            have := (this x y [] [] (by simpa using a1)).1
            rw [this]; exact a3
          exact hf ⟨h2, hl⟩
    · rw [hr, decide_eq_false (by omega), Bool.false_and]
theorem OV_tree {r : List Int} (h : OV r = true) : ∃ x, r = row x ∧ Fit x ∧ tO1 r = some (x, []) := by
  unfold OV at h
  rw [Bool.and_eq_true, decide_eq_true_eq] at h
  obtain ⟨h1, h2⟩ := h
  cases ht : tO1 r with
  | none => rw [ht] at h2; cases h2
  | some q =>
    obtain ⟨x, r'⟩ := q
    rw [ht] at h2
    obtain ⟨a1, a2, a3⟩ := tO1_sound ht
    cases r' with
    | cons _ _ => cases h2
    | nil =>
      rw [List.append_nil] at a1
      exact ⟨x, a1, ⟨a2, a3, by unfold size; rw [← a1]; exact h1.2⟩, rfl⟩
theorem Fit.ov {x : List Term} (h : Fit x) : OV (row x) = true := by rw [OV_row h.v]; exact decide_eq_true ⟨h.m, h.s⟩
/-! Natural sums. -/
def natO : List Term → List Term → List Term
  | [], y => y
  | a :: x, [] => a :: x
  | a :: x, b :: y => if cL a.f1 b.f1 = 1 then a :: natO x (b :: y) else if cL a.f1 b.f1 = -1 then b :: natO (a :: x) y else ⟨a.f0 + b.f0, a.f1⟩ :: natO x y
termination_by x y => x.length + y.length
theorem nat_nl (y : List Term) : natO [] y = y := by rw [natO]
theorem nat_nr (x : List Term) : natO x [] = x := by cases x <;> rw [natO]
/-- How often an exponent comes. -/
def co : List Term → List Term → Int
  | [], _ => 0
  | t :: x, e => (if cL t.f1 e = 0 then t.f0 else 0) + co x e
theorem co_app (x y e : List Term) : co (x ++ y) e = co x e + co y e := by
  induction x with
  | nil => simp [co]
  | cons t x ih => simp only [List.cons_append, co, ih]; omega
/-- How the two first terms lie decides. -/
theorem nat_ind {P : List Term → List Term → Prop} (h1 : ∀ y, P [] y) (h2 : ∀ x, P x []) (h3 : ∀ a x b y, Lt b.f1 a.f1 → P x (b :: y) → P (a :: x) (b :: y)) (h4 : ∀ a x b y, Lt a.f1 b.f1 → P (a :: x) y → P (a :: x) (b :: y)) (h5 : ∀ a x b y, a.f1 = b.f1 → P x y → P (a :: x) (b :: y)) : ∀ x y, P x y
  | [], y => h1 y
  | a :: x, [] => h2 _
  | a :: x, b :: y => by
    rcases c_cases a.f1 b.f1 with ⟨_, h⟩ | ⟨_, h⟩ | ⟨_, h⟩
    · exact h4 a x b y h (nat_ind h1 h2 h3 h4 h5 (a :: x) y)
    · exact h5 a x b y h (nat_ind h1 h2 h3 h4 h5 x y)
    · exact h3 a x b y h (nat_ind h1 h2 h3 h4 h5 x (b :: y))
termination_by x y => x.length + y.length
theorem nat_gt {a b : Term} (x y : List Term) (h : Lt b.f1 a.f1) : natO (a :: x) (b :: y) = a :: natO x (b :: y) := by
  rw [natO, if_pos (c_gt.2 h)]
theorem nat_lt {a b : Term} (x y : List Term) (h : Lt a.f1 b.f1) : natO (a :: x) (b :: y) = b :: natO (a :: x) y := by
  have := c_lt.2 h
  rw [natO, if_neg (by omega), if_pos this]
theorem nat_eq {a b : Term} (x y : List Term) (h : a.f1 = b.f1) : natO (a :: x) (b :: y) = ⟨a.f0 + b.f0, a.f1⟩ :: natO x y := by
  have := c_zero.2 h
  rw [natO, if_neg (by omega), if_neg (by omega)]
theorem co_nat (x y e : List Term) : co (natO x y) e = co x e + co y e := by
  refine nat_ind (P := fun x y => co (natO x y) e = co x e + co y e) ?_ ?_ ?_ ?_ ?_ x y
  · intro y; rw [nat_nl]; simp [co]
  · intro x; rw [nat_nr]; simp [co]
  · intro a x b y h ih; rw [nat_gt x y h]; simp only [co] at ih ⊢; omega
  · intro a x b y h ih; rw [nat_lt x y h]; simp only [co] at ih ⊢; omega
  · intro a x b y h ih
    rw [nat_eq x y h]
    simp only [co] at ih ⊢
    rw [ih, h]
    split <;> omega
theorem nat_mem (x y : List Term) : ∀ t ∈ natO x y, ∃ u, (u ∈ x ∨ u ∈ y) ∧ u.f1 = t.f1 := by
  refine nat_ind (P := fun x y => ∀ t ∈ natO x y, ∃ u, (u ∈ x ∨ u ∈ y) ∧ u.f1 = t.f1) ?_ ?_ ?_ ?_ ?_ x y
  · intro y t ht; rw [nat_nl] at ht; exact ⟨t, .inr ht, rfl⟩
  · intro x t ht; rw [nat_nr] at ht; exact ⟨t, .inl ht, rfl⟩
  · intro a x b y h ih t ht
    rw [nat_gt x y h] at ht
    rcases List.mem_cons.1 ht with h1 | h1
    · exact ⟨a, .inl List.mem_cons_self, by rw [h1]⟩
    · obtain ⟨u, hu, he⟩ := ih t h1
      exact ⟨u, hu.imp (List.mem_cons_of_mem _) id, he⟩
  · intro a x b y h ih t ht
    rw [nat_lt x y h] at ht
    rcases List.mem_cons.1 ht with h1 | h1
    · exact ⟨b, .inr List.mem_cons_self, by rw [h1]⟩
    · obtain ⟨u, hu, he⟩ := ih t h1
      exact ⟨u, hu.imp id (List.mem_cons_of_mem _), he⟩
  · intro a x b y h ih t ht
    rw [nat_eq x y h] at ht
    rcases List.mem_cons.1 ht with h1 | h1
    · exact ⟨a, .inl List.mem_cons_self, by rw [h1]⟩
    · obtain ⟨u, hu, he⟩ := ih t h1
      exact ⟨u, hu.imp (List.mem_cons_of_mem _) (List.mem_cons_of_mem _), he⟩
theorem nat_v (x y : List Term) : vL x → vL y → vL (natO x y) := by
  refine nat_ind (P := fun x y => vL x → vL y → vL (natO x y)) ?_ ?_ ?_ ?_ ?_ x y
  · intro y _ h; rw [nat_nl]; exact h
  · intro x h _; rw [nat_nr]; exact h
  · intro a x b y h ih hx hy
    rw [nat_gt x y h]
    rw [vL_cons] at hx ⊢
    refine ⟨hx.1, fun t ht => ?_, ih hx.2.2 hy⟩
    obtain ⟨u, hu, he⟩ := nat_mem _ _ t ht
    rw [← he]
    rcases hu with hu | hu
    · exact hx.2.1 u hu
    · rw [vL_cons] at hy
      rcases List.mem_cons.1 hu with hu | hu
      · rw [hu]; exact h
      · exact lt_trans _ _ _ (hy.2.1 u hu) h
  · intro a x b y h ih hx hy
    rw [nat_lt x y h]
    rw [vL_cons] at hy ⊢
    refine ⟨hy.1, fun t ht => ?_, ih hx hy.2.2⟩
    obtain ⟨u, hu, he⟩ := nat_mem _ _ t ht
    rw [← he]
    rcases hu with hu | hu
    · rw [vL_cons] at hx
      rcases List.mem_cons.1 hu with hu | hu
      · rw [hu]; exact h
      · exact lt_trans _ _ _ (hx.2.1 u hu) h
    · exact hy.2.1 u hu
  · intro a x b y h ih hx hy
    rw [nat_eq x y h]
    rw [vL_cons] at hx hy ⊢
    refine ⟨⟨by show 1 ≤ a.f0 + b.f0; omega, hx.1.2⟩, fun t ht => ?_, ih hx.2.2 hy.2.2⟩
    obtain ⟨u, hu, he⟩ := nat_mem _ _ t ht
    rw [← he]
    rcases hu with hu | hu
    · exact hx.2.1 u hu
    · show Lt u.f1 a.f1
      rw [h]; exact hy.2.1 u hu
theorem nat_size (x y : List Term) : size x ≤ size (natO x y) ∧ size y ≤ size (natO x y) ∧ size (natO x y) + 1 ≤ size x + size y := by
  refine nat_ind (P := fun x y => size x ≤ size (natO x y) ∧ size y ≤ size (natO x y) ∧ size (natO x y) + 1 ≤ size x + size y) ?_ ?_ ?_ ?_ ?_ x y
  · intro y; rw [nat_nl, size_nil]; have := size_pos y; omega
  · intro x; rw [nat_nr, size_nil]; have := size_pos x; omega
  · intro a x b y h ih; rw [nat_gt x y h, size_cons, size_cons]; have := size_cons b y; omega
  · intro a x b y h ih; rw [nat_lt x y h, size_cons, size_cons]; have := size_cons a x; have := size_cons b y; rw [size_cons] at ih; omega
  · intro a x b y h ih; rw [nat_eq x y h, size_cons, size_cons, size_cons, h]; omega
theorem nat_m (x y : List Term) : vL x → vL y → mL x ≤ mL (natO x y) ∧ mL y ≤ mL (natO x y) ∧ mL (natO x y) ≤ mL x + mL y := by
  refine nat_ind (P := fun x y => vL x → vL y → mL x ≤ mL (natO x y) ∧ mL y ≤ mL (natO x y) ∧ mL (natO x y) ≤ mL x + mL y) ?_ ?_ ?_ ?_ ?_ x y
  · intro y _ _; rw [nat_nl, mL_nil]; have := mL_pos y; omega
  · intro x _ _; rw [nat_nr, mL_nil]; have := mL_pos x; omega
  · intro a x b y h ih hx hy; rw [nat_gt x y h, mL_cons, mL_cons]; rw [vL_cons] at hx; have := ih hx.2.2 hy; have := mL_pos (b :: y); have := mL_pos a.f1; omega
  · intro a x b y h ih hx hy; rw [nat_lt x y h, mL_cons b, mL_cons b]; rw [vL_cons] at hy; have := ih hx hy.2.2; have := mL_pos (a :: x); have := mL_pos b.f1; omega
  · intro a x b y h ih hx hy
    rw [nat_eq x y h, mL_cons, mL_cons, mL_cons, ← h]
    rw [vL_cons] at hx hy
    have := ih hx.2.2 hy.2.2
    have := mL_pos a.f1
    show max (max a.f0 (mL a.f1)) (mL x) ≤ max (max (a.f0 + b.f0) (mL a.f1)) (mL (natO x y)) ∧ max (max b.f0 (mL a.f1)) (mL y) ≤ max (max (a.f0 + b.f0) (mL a.f1)) (mL (natO x y)) ∧ max (max (a.f0 + b.f0) (mL a.f1)) (mL (natO x y)) ≤ max (max a.f0 (mL a.f1)) (mL x) + max (max b.f0 (mL a.f1)) (mL y)
    omega
theorem co_zero {x e : List Term} (h : ∀ t ∈ x, t.f1 ≠ e) : co x e = 0 := by
  induction x with
  | nil => rfl
  | cons t x ih =>
    rw [co, ih (fun u hu => h u (List.mem_cons_of_mem _ hu)), if_neg (fun hc => h t List.mem_cons_self (c_eq _ _ hc))]
    rfl
theorem co_pos {x : List Term} (h : vL x) (e : List Term) : 0 ≤ co x e := by
  induction x with
  | nil => exact Int.le_refl _
  | cons t x ih =>
    rw [vL_cons] at h
    have := ih h.2.2
    rw [co]
    split <;> omega
theorem co_ne {x e : List Term} (h : co x e ≠ 0) : ∃ t ∈ x, t.f1 = e := by
  apply Classical.byContradiction
  intro hc
  exact h (co_zero fun t ht he => hc ⟨t, ht, he⟩)
theorem co_head {t : Term} {x : List Term} (h : vL (t :: x)) : co (t :: x) t.f1 = t.f0 := by
  rw [vL_cons] at h
  rw [co, if_pos (c_refl _), co_zero fun u hu he => lt_irrefl t.f1 (by have := h.2.1 u hu; rwa [he] at this)]
  omega
theorem co_above {t : Term} {x e : List Term} (h : vL (t :: x)) (he : Lt t.f1 e) : co (t :: x) e = 0 := by
  rw [vL_cons] at h
  refine co_zero fun u hu hc => ?_
  rcases List.mem_cons.1 hu with hu | hu
  · rw [hu] at hc; rw [hc] at he; exact lt_irrefl _ he
  · have := h.2.1 u hu
    rw [hc] at this
    exact lt_asymm he this
theorem lt_co1 : ∀ x y, vL x → vL y → Lt x y → ∃ e, co x e < co y e ∧ ∀ f, Lt e f → co x f = co y f
  | x, [], _, _, h => absurd h (not_lt_nil x)
  | [], b :: y, _, hy, _ => ⟨b.f1, by
      rw [co_head hy, co]
      rw [vL_cons] at hy
      omega, fun f hf => by rw [co_above hy hf]; rfl⟩
  | a :: x, b :: y, hx, hy, h => by
    rcases lt_cc.1 h with h | ⟨h1, h | ⟨h2, h3⟩⟩
    · refine ⟨b.f1, ?_, fun f hf => by rw [co_above hy hf, co_above hx (lt_trans _ _ _ h hf)]⟩
      rw [co_head hy, co_above hx h]
      rw [vL_cons] at hy
      omega
    · refine ⟨b.f1, ?_, fun f hf => by rw [co_above hy hf, co_above hx (by rw [h1]; exact hf)]⟩
      rw [co_head hy, ← h1, co_head hx]
      exact h
    · have hx' := hx
      have hy' := hy
      rw [vL_cons] at hx hy
      obtain ⟨e, e1, e2⟩ := lt_co1 x y hx.2.2 hy.2.2 h3
      refine ⟨e, by simp only [co, h1, h2]; omega, fun f hf => by simp only [co, h1, h2, e2 f hf]⟩
theorem co_lt {x y : List Term} (hx : vL x) (hy : vL y) {e : List Term} (h1 : co x e < co y e) (h2 : ∀ f, Lt e f → co x f = co y f) : Lt x y := by
  rcases c_cases x y with ⟨_, h⟩ | ⟨_, h⟩ | ⟨_, h⟩
  · exact h
  · rw [h] at h1; omega
  · exfalso
    obtain ⟨f, f1, f2⟩ := lt_co1 y x hy hx h
    rcases c_cases e f with ⟨_, h⟩ | ⟨_, h⟩ | ⟨_, h⟩
    · have := h2 f h; omega
    · rw [h] at h1; omega
    · have := f2 e h; omega
theorem co_ext {x y : List Term} (hx : vL x) (hy : vL y) (h : ∀ e, co x e = co y e) : x = y := by
  rcases c_cases x y with ⟨_, h1⟩ | ⟨_, h1⟩ | ⟨_, h1⟩
  · obtain ⟨e, h2, _⟩ := lt_co1 x y hx hy h1
    have := h e
    omega
  · exact h1
  · obtain ⟨e, h2, _⟩ := lt_co1 y x hy hx h1
    have := h e
    omega
theorem nat_mono {a b c : List Term} (ha : vL a) (hb : vL b) (hc : vL c) (h : Lt a b) : Lt (natO a c) (natO b c) := by
  obtain ⟨e, h1, h2⟩ := lt_co1 a b ha hb h
  exact co_lt (nat_v _ _ ha hc) (nat_v _ _ hb hc) (e := e) (by rw [co_nat, co_nat]; omega) (fun f hf => by rw [co_nat, co_nat, h2 f hf])
theorem nat_ge {a c : List Term} (ha : vL a) (hc : vL c) : ¬ Lt (natO a c) a := fun h => by
  obtain ⟨e, h1, _⟩ := lt_co1 _ _ (nat_v _ _ ha hc) ha h
  have := co_pos hc e
  rw [co_nat] at h1
  omega
theorem nat_comm {a b : List Term} (ha : vL a) (hb : vL b) : natO a b = natO b a :=
  co_ext (nat_v _ _ ha hb) (nat_v _ _ hb ha) fun e => by rw [co_nat, co_nat]; omega
theorem nat_assoc {a b c : List Term} (ha : vL a) (hb : vL b) (hc : vL c) : natO (natO a b) c = natO a (natO b c) :=
  co_ext (nat_v _ _ (nat_v _ _ ha hb) hc) (nat_v _ _ ha (nat_v _ _ hb hc)) fun e => by simp only [co_nat]; omega
/-! One less, and steps down. -/
def bef : List Term → List Term
  | [] => []
  | [t] => if t.f0 = 1 then [] else [⟨t.f0 - 1, t.f1⟩]
  | t :: u :: x => t :: bef (u :: x)
def kd : List Term → Int
  | [] => 0
  | [t] => if t.f1.isEmpty then 1 else 2
  | _ :: u :: x => kd (u :: x)
def stp (n : Int) : List Term → List Term
  | [] => []
  | [⟨c, e⟩] => (if c = 1 then [] else [⟨c - 1, e⟩]) ++ (if e.isEmpty then [] else if kd e = 2 then [⟨1, stp n e⟩] else if n > 0 then [⟨n, bef e⟩] else [])
  | t :: u :: x => t :: stp n (u :: x)
termination_by x => SizeOf.sizeOf x
theorem bef_app (l : List Term) (t : Term) : bef (l ++ [t]) = l ++ bef [t] := by
  induction l with
  | nil => rfl
  | cons s l ih =>
    cases l with
    | nil => rfl
    | cons u l => exact congrArg (s :: ·) ih
theorem kd_app (l : List Term) (t : Term) : kd (l ++ [t]) = if t.f1.isEmpty then 1 else 2 := by
  induction l with
  | nil => rfl
  | cons s l ih =>
    cases l with
    | nil => rfl
    | cons u l => simp only [List.cons_append] at ih ⊢; rw [kd, ih]
theorem stp_nil (n : Int) : stp n [] = [] := by rw [stp]
theorem stp_one (n : Int) (t : Term) : stp n [t] = bef [t] ++ (if t.f1.isEmpty then [] else if kd t.f1 = 2 then [⟨1, stp n t.f1⟩] else if n > 0 then [⟨n, bef t.f1⟩] else []) := by
  cases t
  rw [stp]
  rfl
theorem stp_app (n : Int) (l : List Term) (t : Term) : stp n (l ++ [t]) = l ++ stp n [t] := by
  induction l with
  | nil => rfl
  | cons s l ih =>
    cases l with
    | nil => simp only [List.cons_append, List.nil_append]; rw [stp]
    | cons u l => simp only [List.cons_append] at ih ⊢; rw [stp, ih]
theorem last_cases {P : List Term → Prop} (h0 : P []) (h1 : ∀ l t, P (l ++ [t])) (x : List Term) : P x := by
  rcases List.eq_nil_or_concat x with h | ⟨l, t, h⟩
  · rw [h]; exact h0
  · rw [h, List.concat_eq_append]; exact h1 l t
theorem kd_zero {x : List Term} : kd x = 0 ↔ x = [] := by
  refine last_cases (P := fun x => kd x = 0 ↔ x = []) (by simp [kd]) (fun l t => ?_) x
  rw [kd_app]
  constructor
  · intro h; split at h <;> omega
  · intro h; simp at h
theorem kd_range (x : List Term) : kd x = 0 ∨ kd x = 1 ∨ kd x = 2 := by
  refine last_cases (P := fun x => kd x = 0 ∨ kd x = 1 ∨ kd x = 2) (.inl rfl) (fun l t => ?_) x
  rw [kd_app]
  split <;> omega
theorem stp_bef {n : Int} {x : List Term} (h : kd x ≠ 2) : stp n x = bef x := by
  refine last_cases (P := fun x => kd x ≠ 2 → stp n x = bef x) (fun _ => stp_nil n) (fun l t h => ?_) x h
  rw [kd_app] at h
  rw [stp_app, bef_app, stp_one]
  have : t.f1.isEmpty = true := by
    cases hc : t.f1.isEmpty
    · rw [hc] at h; simp at h
    · rfl
  rw [if_pos this, List.append_nil]
theorem lt_app (l x y : List Term) : Lt (l ++ x) (l ++ y) ↔ Lt x y := by
  induction l with
  | nil => exact Iff.rfl
  | cons t l ih =>
    simp only [List.cons_append]
    rw [lt_cc]
    constructor
    · rintro (h | ⟨_, h | ⟨_, h⟩⟩)
      · exact absurd h (lt_irrefl _)
      · omega
      · exact ih.1 h
    · intro h; exact .inr ⟨rfl, .inr ⟨rfl, ih.2 h⟩⟩
theorem bef_lt (x : List Term) (h : x ≠ []) (hv : vL x) : Lt (bef x) x := by
  refine last_cases (P := fun x => x ≠ [] → vL x → Lt (bef x) x) (fun h _ => absurd rfl h) (fun l t _ hv => ?_) x h hv
  rw [bef_app, lt_app, bef]
  split
  · exact nil_lt _ _
  · rw [lt_cc]; exact .inr ⟨rfl, .inl (by show t.f0 - 1 < t.f0; omega)⟩
theorem bef_v (x : List Term) (hv : vL x) : vL (bef x) := by
  refine last_cases (P := fun x => vL x → vL (bef x)) (fun _ => vL_nil) (fun l t hv => ?_) x hv
  rw [bef_app]
  rw [vL_app] at hv ⊢
  obtain ⟨h1, h2, h3⟩ := hv
  rw [vL_cons] at h2
  rw [bef]
  split
  · exact ⟨h1, vL_nil, fun t _ u hu => by cases hu⟩
  · refine ⟨h1, ?_, fun s hs u hu => ?_⟩
    · rw [vL_one]; exact ⟨by show 1 ≤ t.f0 - 1; omega, h2.1.2⟩
    · rw [List.mem_singleton.1 hu]; exact h3 s hs t List.mem_cons_self
theorem stp_one_v (n : Int) (t : Term) (hn : 0 ≤ n) (ht : 1 ≤ t.f0 ∧ vL t.f1) (ih : t.f1 ≠ [] → vL (stp n t.f1) ∧ Lt (stp n t.f1) t.f1) : vL (stp n [t]) ∧ Lt (stp n [t]) [t] ∧ ∀ u ∈ stp n [t], u.f1 = t.f1 ∨ Lt u.f1 t.f1 := by
  have hb : vL (bef [t]) := bef_v _ ((vL_one t).2 ht)
  have hm : ∀ u ∈ bef [t], u.f1 = t.f1 := by
    intro u hu
    rw [bef] at hu
    split at hu
    · cases hu
    · rw [List.mem_singleton.1 hu]
  -- what is added has a less exponent
  have key : ∀ s : Term, 1 ≤ s.f0 → vL s.f1 → Lt s.f1 t.f1 → vL (bef [t] ++ [s]) ∧ Lt (bef [t] ++ [s]) [t] ∧ ∀ u ∈ bef [t] ++ [s], u.f1 = t.f1 ∨ Lt u.f1 t.f1 := by
    intro s s1 s2 s3
    refine ⟨?_, ?_, ?_⟩
    · rw [vL_app]
      refine ⟨hb, (vL_one s).2 ⟨s1, s2⟩, fun r hr u hu => ?_⟩
      rw [List.mem_singleton.1 hu, hm r hr]; exact s3
    · rw [bef]
      split
      · rw [List.nil_append, lt_cc]; exact .inl s3
      · rw [List.cons_append, lt_cc]; exact .inr ⟨rfl, .inl (by show t.f0 - 1 < t.f0; omega)⟩
    · intro u hu
      rcases List.mem_append.1 hu with hu | hu
      · exact .inl (hm u hu)
      · rw [List.mem_singleton.1 hu]; exact .inr s3
  have base : vL (bef [t] ++ []) ∧ Lt (bef [t] ++ []) [t] ∧ ∀ u ∈ bef [t] ++ [], u.f1 = t.f1 ∨ Lt u.f1 t.f1 := by
    rw [List.append_nil]
    exact ⟨hb, bef_lt _ (by simp) ((vL_one t).2 ht), fun u hu => .inl (hm u hu)⟩
  rw [stp_one]
  split
  · exact base
  · rename_i he
    have hne : t.f1 ≠ [] := fun h => he (by rw [h]; rfl)
    split
    · obtain ⟨i1, i2⟩ := ih hne
      exact key ⟨1, stp n t.f1⟩ (Int.le_refl 1) i1 i2
    · split
      · exact key ⟨n, bef t.f1⟩ (by show 1 ≤ n; omega) (bef_v _ ht.2) (bef_lt _ hne ht.2)
      · exact base
theorem stp_v (n : Int) (hn : 0 ≤ n) (x : List Term) : vL x → vL (stp n x) ∧ (x ≠ [] → Lt (stp n x) x) := by
  have main : ∀ x, (∀ t ∈ x, vL t.f1 → vL (stp n t.f1) ∧ (t.f1 ≠ [] → Lt (stp n t.f1) t.f1)) ∧ (vL x → vL (stp n x) ∧ (x ≠ [] → Lt (stp n x) x)) := by
    intro x
    refine tree_ind (P := fun x => (∀ t ∈ x, vL t.f1 → vL (stp n t.f1) ∧ (t.f1 ≠ [] → Lt (stp n t.f1) t.f1)) ∧ (vL x → vL (stp n x) ∧ (x ≠ [] → Lt (stp n x) x))) ?_ ?_ x
    · exact ⟨(by intro t ht; cases ht), fun _ => ⟨(by rw [stp_nil]; exact vL_nil), fun h => absurd rfl h⟩⟩
    · intro t x i1 i2
      have all : ∀ s ∈ t :: x, vL s.f1 → vL (stp n s.f1) ∧ (s.f1 ≠ [] → Lt (stp n s.f1) s.f1) := by
        intro s hs
        rcases List.mem_cons.1 hs with h | h
        · rw [h]; exact i1.2
        · exact i2.1 s h
      refine ⟨all, ?_⟩
      generalize t :: x = y at all
      refine last_cases (P := fun y => (∀ s ∈ y, vL s.f1 → vL (stp n s.f1) ∧ (s.f1 ≠ [] → Lt (stp n s.f1) s.f1)) → vL y → vL (stp n y) ∧ (y ≠ [] → Lt (stp n y) y)) ?_ ?_ y all
      · exact fun _ _ => ⟨by rw [stp_nil]; exact vL_nil, fun h => absurd rfl h⟩
      · intro l s hs hv
        rw [vL_app] at hv
        obtain ⟨v1, v2, v3⟩ := hv
        rw [vL_cons] at v2
        have hss := hs s (by simp) v2.1.2
        obtain ⟨a1, a2, a3⟩ := stp_one_v n s hn v2.1 (fun h => ⟨hss.1, hss.2 h⟩)
        rw [stp_app, lt_app, vL_app]
        refine ⟨⟨v1, a1, fun r hr u hu => ?_⟩, fun _ => a2⟩
        have := v3 r hr s List.mem_cons_self
        rcases a3 u hu with h | h
        · rw [h]; exact this
        · exact lt_trans _ _ _ h this
  exact (main x).2
/-! What the code makes of trees and their rows. -/
theorem tree_mem {P : List Term → Prop} (h : ∀ x, (∀ t ∈ x, P t.f1) → P x) (x : List Term) : P x := by
  have : (∀ t ∈ x, P t.f1) ∧ P x := by
    refine tree_ind (P := fun x => (∀ t ∈ x, P t.f1) ∧ P x) ⟨(by intro t ht; cases ht), h _ (by intro t ht; cases ht)⟩ ?_ x
    intro t x h1 h2
    have : ∀ s ∈ t :: x, P s.f1 := by
      intro s hs
      rcases List.mem_cons.1 hs with e | e
      · rw [e]; exact h1.2
      · exact h2.1 s e
    exact ⟨this, h _ this⟩
  exact this.2
theorem size_mem {x : List Term} {t : Term} (h : t ∈ x) : size t.f1 + 2 ≤ size x := by
  induction x with
  | nil => cases h
  | cons s x ih =>
    rw [size_cons]
    rcases List.mem_cons.1 h with h | h
    · rw [h]; have := size_pos x; omega
    · have := ih h; omega
theorem cmp_ev (a b : Int) : Ev (fun k => cmp_Compare_int.f k a b) (if a < b then -1 else if a > b then 1 else 0) := by
  have nn : ∀ a : Int, Ev (fun k => cmp_isNaN_int.f k a) false := fun a => ev_succ (fun k => cmp_isNaN_int.f_eq k a) (ev_some.2 (by simp))
  refine ev_succ (fun k => cmp_Compare_int.f_eq k a b) (ev_bind (nn a) (ev_bind (nn b) (ev_bf rfl (ev_bf rfl ?_))))
  by_cases h : a < b
  · rw [if_pos h]; exact ev_dt h (ev_some.2 rfl)
  · rw [if_neg h]
    by_cases h2 : a > b
    · rw [if_pos h2]; exact ev_df h (ev_dt h2 (ev_some.2 rfl))
    · rw [if_neg h2]; exact ev_df h (ev_df h2 (ev_some.2 rfl))
theorem cL_len (x y : List Term) (h : x = [] ∨ y = []) : cL x y = if (x.length : Int) < (y.length : Int) then -1 else if (x.length : Int) > (y.length : Int) then 1 else 0 := by
  rcases h with rfl | rfl
  · cases y with
    | nil => rw [cL_nn]; simp
    | cons b y => rw [cL_nc, if_pos (by simp <;> omega)]
  · cases x with
    | nil => rw [cL_nn]; simp
    | cons b y => rw [cL_cn, if_neg (by simp <;> omega), if_pos (by simp <;> omega)]
theorem compare_ev (x : List Term) : ∀ y, size x ≤ 1000000000 → size y ≤ 1000000000 → Ev (fun k => impl_compare.f k x y) (cL x y) := by
  refine tree_mem (P := fun x => ∀ y, size x ≤ 1000000000 → size y ≤ 1000000000 → Ev (fun k => impl_compare.f k x y) (cL x y)) (fun x ih y hx hy => ?_) x
  have lx := size_len x
  have ly := size_len y
  have loop : ∀ d i : Nat, i + d = min x.length y.length → Ev (fun k => impl_compare.l0 k x y (i : Int)) (cL (x.drop i) (y.drop i)) := by
    intro d
    induction d with
    | zero =>
      intro i hi
      have e : cL (x.drop i) (y.drop i) = if (x.length : Int) < (y.length : Int) then -1 else if (x.length : Int) > (y.length : Int) then 1 else 0 := by
        rw [cL_len _ _ (by
          rcases Nat.lt_or_ge i x.length with h | h
          · exact .inr (List.drop_eq_nil_of_le (by omega))
          · exact .inl (List.drop_eq_nil_of_le (by omega))), List.length_drop, List.length_drop]
        congr 1
        · simp only [eq_iff_iff]; omega
        · congr 1; simp only [eq_iff_iff]; omega
      rw [e]
      refine ev_succ (fun k => impl_compare.l0_eq k _ _ _) ?_
      by_cases h : (i : Int) < (x.length : Int)
      · exact ev_dt h (ev_df (by omega) (ev_bind (cmp_ev _ _) (ev_some.2 rfl)))
      · exact ev_df h (ev_bind (cmp_ev _ _) (ev_some.2 rfl))
    | succ d ihd =>
      intro i hi
      have h1 : i < x.length := by omega
      have h2 : i < y.length := by omega
      rw [List.drop_eq_getElem_cons h1, List.drop_eq_getElem_cons h2, cL_cc, cT_eq]
      have s1 := size_mem (List.getElem_mem h1)
      have s2 := size_mem (List.getElem_mem h2)
      refine ev_succ (fun k => impl_compare.l0_eq k _ _ _) (ev_dt (by first | omega | (simp only [List.length_append, List.length_cons, List.length_nil, List.length_map, List.length_take, List.length_drop, limE]; omega) | (simp [limE] <;> omega)) (ev_dt (by first | omega | (simp only [List.length_append, List.length_cons, List.length_nil, List.length_map, List.length_take, List.length_drop, limE]; omega) | (simp [limE] <;> omega)) (ev_gd (by first | omega | (simp only [List.length_append, List.length_cons, List.length_nil, List.length_map, List.length_take, List.length_drop, limE]; omega) | (simp [limE] <;> omega)) (ev_gd (by first | omega | (simp only [List.length_append, List.length_cons, List.length_nil, List.length_map, List.length_take, List.length_drop, limE]; omega) | (simp [limE] <;> omega)) ?_))))
      rw [get_at h1, get_at h2, w_succ (by omega)]
      refine ev_bind (ih _ (List.getElem_mem h1) _ (by omega) (by omega)) ?_
      by_cases hc : cL x[i].f1 y[i].f1 = 0
      · rw [if_pos hc]
        refine ev_nf (decide_eq_true hc) (ev_gd (by first | omega | (simp only [List.length_append, List.length_cons, List.length_nil, List.length_map, List.length_take, List.length_drop, limE]; omega) | (simp [limE] <;> omega)) (ev_gd (by first | omega | (simp only [List.length_append, List.length_cons, List.length_nil, List.length_map, List.length_take, List.length_drop, limE]; omega) | (simp [limE] <;> omega)) (ev_bind (cmp_ev _ _) ?_)))
        by_cases ht : (if x[i].f0 < y[i].f0 then (-1 : Int) else if x[i].f0 > y[i].f0 then 1 else 0) = 0
        · rw [if_pos ht]; exact ev_nf (decide_eq_true ht) (ihd (i + 1) (by omega))
        · rw [if_neg ht]; exact ev_nt (decide_eq_false ht) (ev_some.2 rfl)
      · rw [if_neg hc, if_neg hc]
        exact ev_nt (decide_eq_false hc) (ev_some.2 rfl)
  exact ev_succ (fun k => impl_compare.f_eq k _ _) (loop (min x.length y.length) 0 (by omega))
theorem fL_drop {x : List Term} {i : Nat} (h : i < x.length) : fL (x.drop i) = x[i].f0 :: (row x[i].f1 ++ fL (x.drop (i + 1))) := by
  rw [List.drop_eq_getElem_cons h, fL_cons]
theorem fL_len (x : List Term) (i : Nat) : (fL (x.drop i)).length ≤ (fL x).length := by
  have := fL_app (x.take i) (x.drop i)
  rw [List.take_append_drop] at this
  rw [this, List.length_append]
  omega
theorem rowOf_ev (x : List Term) : size x ≤ 1000000000 → Ev (fun k => impl_rowOf.f k x) (row x) := by
  refine tree_mem (P := fun x => size x ≤ 1000000000 → Ev (fun k => impl_rowOf.f k x) (row x)) (fun x ih hx => ?_) x
  have lx := size_len x
  have sx := size_eq x
  have loop : ∀ (d i : Nat) (acc : List Int), i + d = x.length → acc.length + (fL (x.drop i)).length ≤ 1000000000 → Ev (fun k => impl_rowOf.l0 k acc x (x.length : Int) (i : Int)) (acc ++ fL (x.drop i)) := by
    intro d
    induction d with
    | zero =>
      intro i acc hi ha
      refine ev_succ (fun k => impl_rowOf.l0_eq k _ _ _ _) (ev_df (by first | omega | (simp only [List.length_append, List.length_cons, List.length_nil, List.length_map, List.length_take, List.length_drop, limE]; omega) | (simp [limE] <;> omega)) (ev_some.2 ?_))
      rw [List.drop_eq_nil_of_le (by omega), fL_nil, List.append_nil]
    | succ d ihd =>
      intro i acc hi ha
      have h1 : i < x.length := by omega
      have s1 := size_mem (List.getElem_mem h1)
      rw [fL_drop h1] at ha ⊢
      simp only [List.length_cons, List.length_append] at ha
      refine ev_succ (fun k => impl_rowOf.l0_eq k _ _ _ _) (ev_dt (by first | omega | (simp only [List.length_append, List.length_cons, List.length_nil, List.length_map, List.length_take, List.length_drop, limE]; omega) | (simp [limE] <;> omega)) (ev_gd (by first | omega | (simp only [List.length_append, List.length_cons, List.length_nil, List.length_map, List.length_take, List.length_drop, limE]; omega) | (simp [limE] <;> omega)) (ev_gd (by first | omega | (simp only [List.length_append, List.length_cons, List.length_nil, List.length_map, List.length_take, List.length_drop, limE]; omega) | (simp [limE] <;> omega)) ?_)))
      rw [get_at h1, w_succ (by omega)]
      refine ev_bind (ih _ (List.getElem_mem h1) (by omega)) (ev_gd (by first | omega | (simp only [List.length_append, List.length_cons, List.length_nil, List.length_map, List.length_take, List.length_drop, limE]; omega) | (simp [limE] <;> omega)) ?_)
      have := ihd (i + 1) ((acc ++ [x[i].f0]) ++ row x[i].f1) (by omega) (by simp only [List.length_append, List.length_cons, List.length_nil]; omega)
      simpa using this
  refine ev_succ (fun k => impl_rowOf.f_eq k _) ?_
  have := loop x.length 0 [(x.length : Int)] (by omega) (by simp only [List.length_cons, List.length_nil, List.drop_zero]; omega)
  simpa [row] using this
theorem sizeOf_ev (x : List Term) : size x ≤ 1000000000 → Ev (fun k => impl_sizeOf.f k x) (size x : Int) := by
  refine tree_mem (P := fun x => size x ≤ 1000000000 → Ev (fun k => impl_sizeOf.f k x) (size x : Int)) (fun x ih hx => ?_) x
  have lx := size_len x
  have sx := size_eq x
  have loop : ∀ (d i : Nat) (acc : Int), i + d = x.length → 0 ≤ acc → acc + (fL (x.drop i)).length ≤ 1000000000 → Ev (fun k => impl_sizeOf.l0 k acc x (x.length : Int) (i : Int)) (acc + ((fL (x.drop i)).length : Int)) := by
    intro d
    induction d with
    | zero =>
      intro i acc hi h0 ha
      refine ev_succ (fun k => impl_sizeOf.l0_eq k _ _ _ _) (ev_df (by first | omega | (simp only [List.length_append, List.length_cons, List.length_nil, List.length_map, List.length_take, List.length_drop, limE]; omega) | (simp [limE] <;> omega)) (ev_some.2 ?_))
      rw [List.drop_eq_nil_of_le (by omega), fL_nil]; simp
    | succ d ihd =>
      intro i acc hi h0 ha
      have h1 : i < x.length := by omega
      have s1 := size_mem (List.getElem_mem h1)
      rw [fL_drop h1] at ha ⊢
      simp only [List.length_cons, List.length_append] at ha ⊢
      have hr : (row x[i].f1).length = size x[i].f1 := rfl
      refine ev_succ (fun k => impl_sizeOf.l0_eq k _ _ _ _) (ev_dt (by first | omega | (simp only [List.length_append, List.length_cons, List.length_nil, List.length_map, List.length_take, List.length_drop, limE]; omega) | (simp [limE] <;> omega)) (ev_gd (by first | omega | (simp only [List.length_append, List.length_cons, List.length_nil, List.length_map, List.length_take, List.length_drop, limE]; omega) | (simp [limE] <;> omega)) ?_))
      rw [get_at h1, w_succ (by omega)]
      refine ev_bind (ih _ (List.getElem_mem h1) (by omega)) ?_
      rw [w64 (x := 1 + (size x[i].f1 : Int)) (by omega) (by omega), w64 (by omega) (by omega)]
      have := ihd (i + 1) (acc + (1 + (size x[i].f1 : Int))) (by omega) (by omega) (by omega)
      rw [show acc + (((row x[i].f1).length + (fL (x.drop (i + 1))).length + 1 : Nat) : Int) = acc + (1 + (size x[i].f1 : Int)) + ((fL (x.drop (i + 1))).length : Int) by omega]
      exact this
  refine ev_succ (fun k => impl_sizeOf.f_eq k _) ?_
  have := loop x.length 0 1 (by omega) (by omega) (by simp only [List.drop_zero]; omega)
  rw [List.drop_zero, show (1 : Int) + ((fL x).length : Int) = (size x : Int) by omega] at this
  exact this
theorem most_ev (x : List Term) : size x ≤ 1000000000 → Ev (fun k => impl_most.f k x) (mL x) := by
  refine tree_mem (P := fun x => size x ≤ 1000000000 → Ev (fun k => impl_most.f k x) (mL x)) (fun x ih hx => ?_) x
  have lx := size_len x
  have loop : ∀ (d i : Nat) (acc : Int), i + d = x.length → 0 ≤ acc → Ev (fun k => impl_most.l0 k acc x (x.length : Int) (i : Int)) (max acc (mL (x.drop i))) := by
    intro d
    induction d with
    | zero =>
      intro i acc hi h0
      refine ev_succ (fun k => impl_most.l0_eq k _ _ _ _) (ev_df (by first | omega | (simp only [List.length_append, List.length_cons, List.length_nil, List.length_map, List.length_take, List.length_drop, limE]; omega) | (simp [limE] <;> omega)) (ev_some.2 ?_))
      rw [List.drop_eq_nil_of_le (by omega), mL_nil]; omega
    | succ d ihd =>
      intro i acc hi h0
      have h1 : i < x.length := by omega
      have s1 := size_mem (List.getElem_mem h1)
      rw [List.drop_eq_getElem_cons h1, mL_cons]
      refine ev_succ (fun k => impl_most.l0_eq k _ _ _ _) (ev_dt (by first | omega | (simp only [List.length_append, List.length_cons, List.length_nil, List.length_map, List.length_take, List.length_drop, limE]; omega) | (simp [limE] <;> omega)) (ev_gd (by first | omega | (simp only [List.length_append, List.length_cons, List.length_nil, List.length_map, List.length_take, List.length_drop, limE]; omega) | (simp [limE] <;> omega)) ?_))
      rw [get_at h1, w_succ (by omega)]
      refine ev_bind (ih _ (List.getElem_mem h1) (by omega)) ?_
      have := ihd (i + 1) (max (max acc x[i].f0) (mL x[i].f1)) (by omega) (by omega)
      rw [show max acc (max (max x[i].f0 (mL x[i].f1)) (mL (x.drop (i + 1)))) = max (max (max acc x[i].f0) (mL x[i].f1)) (mL (x.drop (i + 1))) by omega]
      exact this
  refine ev_succ (fun k => impl_most.f_eq k _) ?_
  have := loop x.length 0 0 (by omega) (by omega)
  have hp := mL_pos x
  rw [List.drop_zero, show max 0 (mL x) = mL x by omega] at this
  exact this
theorem clipI_ev (l : List Int) : Ev (fun k => slices_Clip_int_int.f k l) l :=
  ev_succ (fun k => slices_Clip_int_int.f_eq k l) (ev_gd (by first | omega | (simp only [List.length_append, List.length_cons, List.length_nil, List.length_map, List.length_take, List.length_drop, limE]; omega) | (simp [limE] <;> omega)) (ev_some.2 (by rw [Int.toNat_natCast, List.take_length])))
theorem told_ev (x : List Term) (hx : size x ≤ 1000000000) : Ev (fun k => impl_told.f k x) (if mL x ≤ 9999 ∧ size x ≤ 60 then (row x, true) else ([], false)) := by
  refine ev_succ (fun k => impl_told.f_eq k _) (ev_bind (sizeOf_ev x hx) ?_)
  by_cases h : (size x : Int) > 60
  · rw [if_neg (by omega)]; exact ev_dt h (ev_some.2 rfl)
  · refine ev_df h (ev_bind (most_ev x hx) ?_)
    by_cases h2 : mL x > 9999
    · rw [if_neg (by omega)]; exact ev_dt h2 (ev_some.2 rfl)
    · rw [if_pos (by omega)]; exact ev_df h2 (ev_bind (rowOf_ev x hx) (ev_bind (clipI_ev _) (ev_some.2 rfl)))
theorem tO1_len {l : List Int} {x : List Term} {r : List Int} (h : tO1 l = some (x, r)) : r.length < l.length ∧ size x ≤ l.length ∧ r = l.drop (l.length - r.length) := by
  have h1 := (tO1_sound h).1
  have h2 := congrArg List.length h1
  rw [List.length_append] at h2
  have h3 : (row x).length = size x := rfl
  have h4 := size_pos x
  refine ⟨by omega, by omega, ?_⟩
  have : l.length - r.length = (row x).length := by omega
  rw [this, h1, List.drop_left]
/-! What the reference makes of rows. -/
theorem drop_at {α : Type} {l : List α} {i : Nat} {x : α} {r : List α} (h : l.drop i = x :: r) : i < l.length ∧ l.drop (i + 1) = r ∧ ∀ h : i < l.length, l[i] = x := by
  have hlt : i < l.length := by
    apply Classical.byContradiction
    intro hc
    rw [List.drop_eq_nil_of_le (by omega)] at h
    cases h
  have e := List.drop_eq_getElem_cons hlt
  rw [h] at e
  injection e with e1 e2
  exact ⟨hlt, e2.symm, fun _ => e1.symm⟩
theorem drop_more {α : Type} {l : List α} {i : Nat} {x r : List α} (h : l.drop i = x ++ r) : l.drop (i + x.length) = r := by
  rw [← List.drop_drop, h, List.drop_left]
theorem drop_fits {α : Type} {l : List α} {i : Nat} {x r : List α} (h : l.drop i = x ++ r) (hx : 0 < x.length) : i + x.length ≤ l.length := by
  have := congrArg List.length h
  rw [List.length_drop, List.length_append] at this
  omega
theorem slice_at {α : Type} {l : List α} {i : Nat} {x r : List α} (h : l.drop i = x ++ r) : (l.take (i + x.length)).drop i = x := by
  rw [List.drop_take, h, show i + x.length - i = x.length by omega, List.take_left]
theorem row_len (x : List Term) : (row x).length = size x := rfl
theorem span_ev (x : List Term) : ∀ (r rest : List Int) (a : Nat), r.length ≤ 1000000000 → r.drop a = row x ++ rest → Ev (fun k => spec_l1Span.f k r (a : Int)) ((a + size x : Nat) : Int) := by
  refine tree_mem (P := fun x => ∀ (r rest : List Int) (a : Nat), r.length ≤ 1000000000 → r.drop a = row x ++ rest → Ev (fun k => spec_l1Span.f k r (a : Int)) ((a + size x : Nat) : Int)) (fun x ih r rest a hr hd => ?_) x
  have sx := size_eq x
  have lx := size_len x
  have hfx := drop_fits hd (by rw [row_len]; omega)
  rw [row_len] at hfx
  rw [row, List.cons_append] at hd
  obtain ⟨h1, h2, h3⟩ := drop_at hd
  have loop : ∀ d i b : Nat, i + d = x.length → r.drop b = fL (x.drop i) ++ rest → b ≤ r.length → Ev (fun k => spec_l1Span.l0 k r (b : Int) (x.length : Int) (i : Int)) ((b + (fL (x.drop i)).length : Nat) : Int) := by
    intro d
    induction d with
    | zero =>
      intro i b hi hb hbl
      refine ev_succ (fun k => spec_l1Span.l0_eq k _ _ _ _) (ev_df (by first | omega | (simp only [List.length_append, List.length_cons, List.length_nil, List.length_map, List.length_take, List.length_drop, limE]; omega) | (simp [limE] <;> omega)) (ev_some.2 ?_))
      rw [List.drop_eq_nil_of_le (by omega), fL_nil]; simp
    | succ d ihd =>
      intro i b hi hb hbl
      have hlt : i < x.length := by omega
      rw [fL_drop hlt] at hb ⊢
      rw [List.cons_append, List.append_assoc] at hb
      obtain ⟨b1, b2, b3⟩ := drop_at hb
      have hp := size_pos x[i].f1
      have hf := drop_fits b2 (by rw [row_len]; omega)
      rw [row_len] at hf
      refine ev_succ (fun k => spec_l1Span.l0_eq k _ _ _ _) (ev_dt (by first | omega | (simp only [List.length_append, List.length_cons, List.length_nil, List.length_map, List.length_take, List.length_drop, limE]; omega) | (simp [limE] <;> omega)) ?_)
      rw [w_succ (by omega), w_succ (by omega)]
      refine ev_bind (ih _ (List.getElem_mem hlt) r _ (b + 1) hr b2) ?_
      have := ihd (i + 1) (b + 1 + size x[i].f1) (by omega) (by have := drop_more b2; rw [row_len] at this; exact this) hf
      simp only [List.length_cons, List.length_append, row_len]
      rw [show b + (size x[i].f1 + (fL (x.drop (i + 1))).length + 1) = b + 1 + size x[i].f1 + (fL (x.drop (i + 1))).length by omega]
      exact this
  have := loop x.length 0 (a + 1) (by omega) (by rw [List.drop_zero]; exact h2) (by omega)
  refine ev_succ (fun k => spec_l1Span.f_eq k _ _) (ev_gd (by first | omega | (simp only [List.length_append, List.length_cons, List.length_nil, List.length_map, List.length_take, List.length_drop, limE]; omega) | (simp [limE] <;> omega)) ?_)
  rw [get_at h1, h3 h1, w_succ (by omega), sx, show a + (1 + (fL x).length) = a + 1 + (fL x).length by omega]
  rw [List.drop_zero] at this
  exact this
theorem terms_ev (x : List Term) (hx : size x ≤ 1000000000) : Ev (fun k => spec_l1Terms.f k (row x)) (x.map (·.f0), x.map fun t => row t.f1) := by
  have lx := size_len x
  have loop : ∀ (d i b : Nat) (p : List Int) (q : List (List Int)), i + d = x.length → (row x).drop b = fL (x.drop i) → b ≤ size x → p.length = i → q.length = i →
      Ev (fun k => spec_l1Terms.l0 k (row x) p q (b : Int)) (p ++ (x.drop i).map (·.f0), q ++ (x.drop i).map fun t => row t.f1) := by
    intro d
    induction d with
    | zero =>
      intro i b p q hi hb hbl hp hq
      have hbb : size x ≤ b := by
        have := congrArg List.length hb
        rw [List.length_drop, List.drop_eq_nil_of_le (by omega), fL_nil, row_len] at this
        simp at this
        omega
      refine ev_succ (fun k => spec_l1Terms.l0_eq k _ _ _ _) (ev_df (by rw [row_len]; omega) (ev_some.2 ?_))
      rw [List.drop_eq_nil_of_le (by omega)]; simp
    | succ d ihd =>
      intro i b p q hi hb hbl hp hq
      have hlt : i < x.length := by omega
      rw [fL_drop hlt] at hb
      obtain ⟨b1, b2, b3⟩ := drop_at hb
      have hp1 := size_pos x[i].f1
      have hf := drop_fits b2 (by rw [row_len]; omega)
      rw [row_len, row_len] at hf
      have b1' := b1
      rw [row_len] at b1'
      refine ev_succ (fun k => spec_l1Terms.l0_eq k _ _ _ _) (ev_dt (by omega) ?_)
      rw [w_succ (by omega)]
      refine ev_bind (span_ev _ (row x) _ (b + 1) (by rw [row_len]; omega) b2) (ev_gd (by omega) (ev_gd (by first | omega | (simp only [List.length_append, List.length_cons, List.length_nil, List.length_map, List.length_take, List.length_drop, limE]; omega) | (simp [limE] <;> omega)) (ev_gd (by rw [row_len]; omega) (ev_gd (by first | omega | (simp only [List.length_append, List.length_cons, List.length_nil, List.length_map, List.length_take, List.length_drop, limE]; omega) | (simp [limE] <;> omega)) ?_))))
      have hsl := slice_at b2
      rw [row_len] at hsl
      rw [get_at b1, b3 b1, Int.toNat_natCast, Int.toNat_natCast, hsl]
      have := ihd (i + 1) (b + 1 + size x[i].f1) (p ++ [x[i].f0]) (q ++ [row x[i].f1]) (by omega) (by have := drop_more b2; rw [row_len] at this; exact this) (by omega) (by simp [hp]) (by simp [hq])
      rw [List.drop_eq_getElem_cons hlt]
      simp only [List.append_assoc, List.cons_append, List.nil_append] at this
      exact this
  refine ev_succ (fun k => spec_l1Terms.f_eq k _) ?_
  have := loop x.length 0 1 [] [] (by omega) rfl (size_pos x) rfl rfl
  simpa using this
theorem make_ev (x : List Term) (hx : size x ≤ 1000000000) : Ev (fun k => spec_l1Make.f k (x.map (·.f0)) (x.map fun t => row t.f1)) (row x) := by
  have lx := size_len x
  have sx := size_eq x
  have loop : ∀ (d i : Nat) (acc : List Int), i + d = x.length → acc.length + (fL (x.drop i)).length ≤ 1000000000 → Ev (fun k => spec_l1Make.l0 k (x.map (·.f0)) (x.map fun t => row t.f1) acc (i : Int)) (acc ++ fL (x.drop i)) := by
    intro d
    induction d with
    | zero =>
      intro i acc hi ha
      refine ev_succ (fun k => spec_l1Make.l0_eq k _ _ _ _) (ev_df (by rw [List.length_map]; omega) (ev_some.2 ?_))
      rw [List.drop_eq_nil_of_le (by omega), fL_nil, List.append_nil]
    | succ d ihd =>
      intro i acc hi ha
      have h1 : i < x.length := by omega
      rw [fL_drop h1] at ha ⊢
      simp only [List.length_cons, List.length_append] at ha
      have g1 : (x.map (·.f0)).getD (i : Int).toNat 0 = x[i].f0 := by rw [get_at (by rw [List.length_map]; exact h1), List.getElem_map]
      have g2 : (x.map fun t => row t.f1).getD (i : Int).toNat [] = row x[i].f1 := by rw [get_at (by rw [List.length_map]; exact h1), List.getElem_map]
      refine ev_succ (fun k => spec_l1Make.l0_eq k _ _ _ _) (ev_dt (by rw [List.length_map]; omega) (ev_gd (by rw [List.length_map]; omega) (ev_gd (by first | omega | (simp only [List.length_append, List.length_cons, List.length_nil, List.length_map, List.length_take, List.length_drop, limE]; omega) | (simp [limE] <;> omega)) (ev_gd (by rw [List.length_map]; omega) ?_))))
      rw [g1, g2, w_succ (by omega)]
      refine ev_gd (by first | omega | (simp only [List.length_append, List.length_cons, List.length_nil, List.length_map, List.length_take, List.length_drop, limE]; omega) | (simp [limE] <;> omega)) ?_
      have := ihd (i + 1) ((acc ++ [x[i].f0]) ++ row x[i].f1) (by omega) (by simp only [List.length_append, List.length_cons, List.length_nil]; omega)
      simpa using this
  refine ev_succ (fun k => spec_l1Make.f_eq k _ _) ?_
  have := loop x.length 0 [((x.map (·.f0)).length : Int)] (by omega) (by simp only [List.length_cons, List.length_nil, List.drop_zero]; omega)
  simpa [row] using this
theorem scompare_ev (x : List Term) : ∀ y, size x ≤ 1000000000 → size y ≤ 1000000000 → Ev (fun k => spec_l1Compare.f k (row x) (row y)) (cL x y) := by
  refine tree_mem (P := fun x => ∀ y, size x ≤ 1000000000 → size y ≤ 1000000000 → Ev (fun k => spec_l1Compare.f k (row x) (row y)) (cL x y)) (fun x ih y hx hy => ?_) x
  have lx := size_len x
  have ly := size_len y
  have loop : ∀ d i : Nat, i + d = min x.length y.length → Ev (fun k => spec_l1Compare.l0 k (x.map (·.f0)) (x.map fun t => row t.f1) (y.map (·.f0)) (y.map fun t => row t.f1) (i : Int)) (cL (x.drop i) (y.drop i)) := by
    intro d
    induction d with
    | zero =>
      intro i hi
      have e : cL (x.drop i) (y.drop i) = if (x.length : Int) < (y.length : Int) then -1 else if (x.length : Int) > (y.length : Int) then 1 else 0 := by
        rw [cL_len _ _ (by
          rcases Nat.lt_or_ge i x.length with h | h
          · exact .inr (List.drop_eq_nil_of_le (by omega))
          · exact .inl (List.drop_eq_nil_of_le (by omega))), List.length_drop, List.length_drop]
        congr 1
        · simp only [eq_iff_iff]; omega
        · congr 1; simp only [eq_iff_iff]; omega
      rw [e]
      have fin : Ev (fun k => br (decide (((x.map (·.f0)).length : Int) < ((y.map (·.f0)).length : Int))) (some (-1)) (br (decide (((x.map (·.f0)).length : Int) > ((y.map (·.f0)).length : Int))) (some 1) (some 0))) (if (x.length : Int) < (y.length : Int) then (-1 : Int) else if (x.length : Int) > (y.length : Int) then 1 else 0) := by
        rw [List.length_map, List.length_map]
        by_cases h1 : (x.length : Int) < (y.length : Int)
        · rw [if_pos h1]; exact ev_dt h1 (ev_some.2 rfl)
        · rw [if_neg h1]
          by_cases h2 : (x.length : Int) > (y.length : Int)
          · rw [if_pos h2]; exact ev_df h1 (ev_dt h2 (ev_some.2 rfl))
          · rw [if_neg h2]; exact ev_df h1 (ev_df h2 (ev_some.2 rfl))
      refine ev_succ (fun k => spec_l1Compare.l0_eq k _ _ _ _ _) ?_
      by_cases h : (i : Int) < (x.length : Int)
      · exact ev_dt (by rw [List.length_map]; exact h) (ev_df (by rw [List.length_map]; omega) fin)
      · exact ev_df (by rw [List.length_map]; exact h) fin
    | succ d ihd =>
      intro i hi
      have h1 : i < x.length := by omega
      have h2 : i < y.length := by omega
      rw [List.drop_eq_getElem_cons h1, List.drop_eq_getElem_cons h2, cL_cc, cT_eq]
      have s1 := size_mem (List.getElem_mem h1)
      have s2 := size_mem (List.getElem_mem h2)
      have g1 : (x.map (·.f0)).getD (i : Int).toNat 0 = x[i].f0 := by rw [get_at (by rw [List.length_map]; exact h1), List.getElem_map]
      have g2 : (x.map fun t => row t.f1).getD (i : Int).toNat [] = row x[i].f1 := by rw [get_at (by rw [List.length_map]; exact h1), List.getElem_map]
      have g3 : (y.map (·.f0)).getD (i : Int).toNat 0 = y[i].f0 := by rw [get_at (by rw [List.length_map]; exact h2), List.getElem_map]
      have g4 : (y.map fun t => row t.f1).getD (i : Int).toNat [] = row y[i].f1 := by rw [get_at (by rw [List.length_map]; exact h2), List.getElem_map]
      have l1 : (i : Int) < ((x.map (·.f0)).length : Int) := by rw [List.length_map]; omega
      have l2 : (i : Int) < ((y.map (·.f0)).length : Int) := by rw [List.length_map]; omega
      refine ev_succ (fun k => spec_l1Compare.l0_eq k _ _ _ _ _) (ev_dt l1 (ev_dt l2 (ev_gd (by rw [List.length_map]; omega) (ev_gd (by rw [List.length_map]; omega) ?_))))
      rw [g1, g2, g3, g4, w_succ (by omega)]
      refine ev_bind (ih _ (List.getElem_mem h1) _ (by omega) (by omega)) ?_
      by_cases hc : cL x[i].f1 y[i].f1 = 0
      · rw [if_pos hc]
        refine ev_nf (decide_eq_true hc) (ev_gd ⟨by omega, l1⟩ (ev_gd ⟨by omega, l2⟩ ?_))
        by_cases ht : x[i].f0 = y[i].f0
        · rw [if_neg (show ¬ x[i].f0 < y[i].f0 by omega), if_neg (show ¬ x[i].f0 > y[i].f0 by omega), if_pos rfl]
          exact ev_nf (decide_eq_true ht) (ihd (i + 1) (by omega))
        · refine ev_nt (decide_eq_false ht) (ev_gd ⟨by omega, l1⟩ (ev_gd ⟨by omega, l2⟩ ?_))
          by_cases hlt : x[i].f0 < y[i].f0
          · rw [if_pos hlt, if_neg (show ¬ (-1 : Int) = 0 by omega)]; exact ev_dt hlt (ev_some.2 rfl)
          · rw [if_neg hlt, if_pos (show x[i].f0 > y[i].f0 by omega), if_neg (show ¬ (1 : Int) = 0 by omega)]; exact ev_df hlt (ev_some.2 rfl)
      · rw [if_neg hc, if_neg hc]
        exact ev_nt (decide_eq_false hc) (ev_some.2 rfl)
  exact ev_succ (fun k => spec_l1Compare.f_eq k _ _) (ev_bind (terms_ev x hx) (ev_bind (terms_ev y hy) (loop (min x.length y.length) 0 (by omega))))
/-- Where an ordinal ends. -/
def eR (n : Nat) : Option (List Term × List Int) → Int
  | some (_, r) => (n : Int) - (r.length : Int)
  | none => -1
theorem end_ev (r : List Int) (hr : r.length ≤ 1000000) : ∀ (N a : Nat), r.length ≤ a + N → a ≤ r.length → Ev (fun k => spec_l1End.f k r (a : Int)) (eR r.length (tO1 (r.drop a))) := by
  intro N
  induction N with
  | zero =>
    intro a h1 h2
    refine ev_succ (fun k => spec_l1End.f_eq k _ _) (ev_dt (by omega) (ev_some.2 ?_))
    rw [List.drop_eq_nil_of_le (by omega)]
    rfl
  | succ N ih =>
    intro a h1 h2
    have loop : ∀ (d i b : Nat) (last : List Int) (p : Option (List Term)), r.length ≤ b + N → b ≤ r.length → i + d ≤ 60 → (i = 0 → p = none) → (0 < i → ∃ q, p = some q ∧ last = row q ∧ size q ≤ 1000000) →
        Ev (fun k => spec_l1End.l0 k r (b : Int) ((i + d : Nat) : Int) last (i : Int)) (eR r.length (tO (r.drop b).length d p (r.drop b))) := by
      intro d
      induction d with
      | zero =>
        intro i b last p hb hb2 hi hp0 hp1
        refine ev_succ (fun k => spec_l1End.l0_eq k _ _ _ _ _) (ev_df (by first | omega | (simp only [List.length_append, List.length_cons, List.length_nil, List.length_map, List.length_take, List.length_drop, limE]; omega) | (simp [limE] <;> omega)) (ev_some.2 ?_))
        simp only [tO, eR, List.length_drop]
        omega
      | succ d ihd =>
        intro i b last p hb hb2 hi hp0 hp1
        refine ev_succ (fun k => spec_l1End.l0_eq k _ _ _ _ _) (ev_dt (by first | omega | (simp only [List.length_append, List.length_cons, List.length_nil, List.length_map, List.length_take, List.length_drop, limE]; omega) | (simp [limE] <;> omega)) ?_)
        by_cases hlt : b < r.length
        · have hdr := List.drop_eq_getElem_cons hlt
          have hT := tO_step (f := (r.drop (b + 1)).length) (n := d) (p := p) (c := r[b]) (l := r.drop (b + 1)) (Nat.le_refl _)
          rw [hdr, show tO (r[b] :: r.drop (b + 1)).length (d + 1) p (r[b] :: r.drop (b + 1)) = _ from hT]
          refine ev_df (by omega) (ev_gd (by first | omega | (simp only [List.length_append, List.length_cons, List.length_nil, List.length_map, List.length_take, List.length_drop, limE]; omega) | (simp [limE] <;> omega)) (ev_bind (l1In_ev _ _ _) ?_))
          rw [get_at hlt]
          by_cases hc : r[b] < 1 ∨ r[b] > 9999
          · rw [if_pos hc]
            refine ev_nt ?_ (ev_some.2 rfl)
            rcases hc with hc | hc
            · simp; omega
            · simp; omega
          · rw [if_neg hc, w_succ (by omega)]
            refine ev_nf (by simp <;> omega) (ev_bind (ih (b + 1) (by omega) (by omega)) ?_)
            cases ht : tO1 (r.drop (b + 1)) with
            | none => exact ev_dt (by simp [eR]) (ev_some.2 rfl)
            | some q =>
              obtain ⟨e, r'⟩ := q
              have hl := tO1_len ht
              rw [List.length_drop] at hl
              obtain ⟨g1, g2, g3⟩ := tO1_sound ht
              have hsz : size e + r'.length = r.length - (b + 1) := by
                have := congrArg List.length g1
                rw [List.length_append, row_len, List.length_drop] at this
                omega
              have he : eR r.length (some (e, r')) = ((b + 1 + size e : Nat) : Int) := by simp only [eR]; omega
              have hsl : (r.take (b + 1 + size e)).drop (b + 1) = row e := by
                have := slice_at g1
                rw [row_len] at this
                exact this
              have hrest : r.drop (b + 1 + size e) = r' := by
                have := drop_more g1
                rw [row_len] at this
                exact this
              rw [he]
              refine ev_df (by omega) ?_
              rw [Int.toNat_natCast, Int.toNat_natCast, hsl]
              have next : pv p e = false → Ev (fun k => spec_l1End.l0 k r ((b + 1 + size e : Nat) : Int) ((i + (d + 1) : Nat) : Int) (row e) (wr ((i : Int) + 1))) (eR r.length (if pv p e = true then none else match tO r'.length d (some e) r' with | none => none | some (x, r'') => some (⟨r[b], e⟩ :: x, r''))) := by
                intro hp
                rw [hp, if_neg (by simp), w_succ (by omega)]
                have := ihd (i + 1) (b + 1 + size e) (row e) (some e) (by omega) (by omega) (by omega) (by omega) (fun _ => ⟨e, rfl, rfl, by omega⟩)
                rw [show i + 1 + d = i + (d + 1) by omega, hrest] at this
                revert this
                cases tO r'.length d (some e) r' with
                | none => exact id
                | some q => exact id
              by_cases h3 : (i : Int) > 0
              · obtain ⟨q, rfl, hq, hqs⟩ := hp1 (by omega)
                rw [hq]
                refine ev_dt h3 (ev_gd (by omega) (ev_bind (scompare_ev e q (by omega) (by omega)) ?_))
                by_cases h4 : cL e q ≥ 0
                · refine ev_dt h4 (ev_some.2 ?_)
                  have hpv : pv (some q) e = true := decide_eq_true h4
                  simp only [hpv, if_true, eR]
                · exact ev_df h4 (ev_gd (by omega) (next (decide_eq_false h4)))
              · obtain rfl := hp0 (by omega)
                exact ev_df h3 (ev_gd (by omega) (next rfl))
        · refine ev_dt (by omega) (ev_some.2 ?_)
          rw [List.drop_eq_nil_of_le (by omega)]
          simp [tO, eR]
    refine ev_succ (fun k => spec_l1End.f_eq k _ _) ?_
    by_cases hlt : a < r.length
    · have hdr := List.drop_eq_getElem_cons hlt
      refine ev_df (by omega) (ev_gd (by first | omega | (simp only [List.length_append, List.length_cons, List.length_nil, List.length_map, List.length_take, List.length_drop, limE]; omega) | (simp [limE] <;> omega)) (ev_bind (l1In_ev _ _ _) ?_))
      rw [get_at hlt, hdr]
      simp only [tO1]
      by_cases hc : r[a] < 0 ∨ r[a] > 60
      · rw [if_pos hc]
        refine ev_nt ?_ (ev_some.2 rfl)
        rcases hc with hc | hc
        · simp; omega
        · simp; omega
      · rw [if_neg hc, w_succ (by omega)]
        refine ev_nf (by simp <;> omega) (ev_gd (by first | omega | (simp only [List.length_append, List.length_cons, List.length_nil, List.length_map, List.length_take, List.length_drop, limE]; omega) | (simp [limE] <;> omega)) ?_)
        have := loop r[a].toNat 0 (a + 1) [] none (by omega) (by omega) (by omega) (fun _ => rfl) (fun h => by omega)
        rw [show ((0 + r[a].toNat : Nat) : Int) = r[a] by omega] at this
        exact this
    · refine ev_dt (by omega) (ev_some.2 ?_)
      rw [List.drop_eq_nil_of_le (by omega)]
      rfl
theorem valid_ev (r : List Int) : Ev (fun k => spec_OrdValid.f k r) (OV r) := by
  refine ev_succ (fun k => spec_OrdValid.f_eq k r) (ev_bind (l1In_ev _ _ _) ?_)
  by_cases hl : 1 ≤ r.length ∧ r.length ≤ 60
  · refine ev_bt (by simp <;> omega) (ev_bind (end_ev r (by omega) r.length 0 (by omega) (by omega)) (ev_some.2 ?_))
    unfold OV
    rw [decide_eq_true hl, Bool.true_and, List.drop_zero]
    cases h1 : tO1 r with
    | none => simp only [eR]; exact decide_eq_false (by omega)
    | some p =>
      obtain ⟨hs, r'⟩ := p
      simp only [eR]
      cases r' with
      | nil => simp
      | cons x r' => exact decide_eq_false (by simp only [List.length_cons]; omega)
  · refine ev_bf ?_ (ev_some.2 ?_)
    · simp <;> omega
    · unfold OV; rw [decide_eq_false hl, Bool.false_and]
theorem fit_ev (r : List Int) : Ev (fun k => spec_l2Fit.f k r) (if OV r = true then (r, true) else ([], false)) := by
  refine ev_succ (fun k => spec_l2Fit.f_eq k r) (ev_bind (valid_ev r) ?_)
  cases h : OV r with
  | true => exact ev_nf rfl (ev_some.2 rfl)
  | false => exact ev_nt rfl (ev_some.2 rfl)
theorem row_one (x : List Term) : ((row x).length : Int) = 1 ↔ x = [] := by
  rw [row_len]
  cases x with
  | nil => simp [size_nil]
  | cons t x => rw [size_cons]; have := size_pos t.f1; have := size_pos x; simp; omega
theorem map_get {α β : Type} (f : α → β) (x : List α) (i : Nat) (d : β) (h : i < x.length) : (x.map f).getD (i : Int).toNat d = f x[i] := by
  rw [get_at (by rw [List.length_map]; exact h), List.getElem_map]
/-! Natural sums, as the code makes them. -/
theorem co_le {x : List Term} (h : vL x) (e : List Term) : co x e ≤ mL x := by
  induction x with
  | nil => exact mL_pos []
  | cons t x ih =>
    have hx := (vL_cons t x).1 h
    rw [co, mL_cons]
    by_cases hc : cL t.f1 e = 0
    · rw [if_pos hc, co_zero fun u hu he => lt_irrefl t.f1 (by have := hx.2.1 u hu; rwa [he, ← c_eq _ _ hc] at this)]
      omega
    · rw [if_neg hc]
      have := ih hx.2.2
      omega
theorem take_v {x : List Term} (h : vL x) (i : Nat) : vL (x.take i) := by
  rw [← List.take_append_drop i x, vL_app] at h
  exact h.1
theorem take_m (x : List Term) (i : Nat) : mL (x.take i) ≤ mL x := by
  have := mL_app (x.take i) (x.drop i)
  rw [List.take_append_drop] at this
  omega
theorem co_take {x e : List Term} {i : Nat} (h : i < x.length) : co (x.take (i + 1)) e = co (x.take i) e + if cL x[i].f1 e = 0 then x[i].f0 else 0 := by
  rw [← List.take_append_getElem h, co_app]
  simp only [co]
  omega
theorem natural_ev (x y : List Term) : ∀ acc : List Term, size x ≤ 1000000 → size y ≤ 1000000 → vL x → vL y → mL x ≤ 1000000000 → mL y ≤ 1000000000 → acc.length + size x + size y ≤ 100000000 → Ev (fun k => impl_natural.l0 k x y acc) (acc ++ natO x y) := by
  refine nat_ind (P := fun x y => ∀ acc : List Term, size x ≤ 1000000 → size y ≤ 1000000 → vL x → vL y → mL x ≤ 1000000000 → mL y ≤ 1000000000 → acc.length + size x + size y ≤ 100000000 → Ev (fun k => impl_natural.l0 k x y acc) (acc ++ natO x y)) ?_ ?_ ?_ ?_ ?_ x y
  · intro y acc hx hy _ _ _ _ ha
    have ly := size_len y
    rw [nat_nl]
    exact ev_succ (fun k => impl_natural.l0_eq k _ _ _) (ev_df (by simp) (ev_gd (by simp [limE]; omega) (ev_gd (by simp [limE]; omega) (ev_some.2 (by simp)))))
  · intro x acc hx hy _ _ _ _ ha
    have lx := size_len x
    rw [nat_nr]
    refine ev_succ (fun k => impl_natural.l0_eq k _ _ _) ?_
    by_cases h : (x.length : Int) > 0
    · exact ev_dt h (ev_df (by simp) (ev_gd (by simp [limE]; omega) (ev_gd (by simp [limE]; omega) (ev_some.2 (by simp)))))
    · exact ev_df h (ev_gd (by simp [limE]; omega) (ev_gd (by simp [limE]; omega) (ev_some.2 (by simp))))
  all_goals
    intro a x b y h ih acc hx hy vx vy mx my ha
    have lx := size_len (a :: x)
    have ly := size_len (b :: y)
    rw [size_cons] at hx hy
    have vx' := (vL_cons a x).1 vx
    have vy' := (vL_cons b y).1 vy
    rw [mL_cons] at mx my
    have px := size_pos x
    have py := size_pos y
    have sx := size_cons a x
    have sy := size_cons b y
    rw [List.length_cons] at lx ly
    refine ev_succ (fun k => impl_natural.l0_eq k _ _ _) (ev_dt (by simp <;> omega) (ev_dt (by simp <;> omega) (ev_gd (by simp <;> omega) (ev_gd (by simp <;> omega) ?_))))
    have g1 : (a :: x).getD (0 : Int).toNat (⟨0, ([] : List Term)⟩ : Term) = a := rfl
    have g2 : (b :: y).getD (0 : Int).toNat (⟨0, ([] : List Term)⟩ : Term) = b := rfl
    have d1 : ((a :: x).take ((a :: x).length : Int).toNat).drop (1 : Int).toNat = x := by rw [Int.toNat_natCast, List.take_length]; rfl
    have d2 : ((b :: y).take ((b :: y).length : Int).toNat).drop (1 : Int).toNat = y := by rw [Int.toNat_natCast, List.take_length]; rfl
    rw [g1, g2, d1, d2]
    refine ev_bind (compare_ev _ _ (by omega) (by omega)) ?_
  · have hc := c_gt.2 h
    refine ev_dt (by omega) (ev_gd (by simp <;> omega) (ev_gd (by simp [limE]; omega) (ev_gd (by simp <;> omega) ?_)))
    have := ih (acc ++ [a]) (by omega) (by omega) vx'.2.2 vy (by omega) (by rw [mL_cons]; omega) (by simp; omega)
    rw [nat_gt x y h]
    simpa using this
  · have hc := c_lt.2 h
    refine ev_df (by omega) (ev_dt (by omega) (ev_gd (by simp <;> omega) (ev_gd (by simp [limE]; omega) (ev_gd (by simp <;> omega) ?_))))
    have := ih (acc ++ [b]) (by omega) (by omega) vx vy'.2.2 (by rw [mL_cons]; omega) (by omega) (by simp; omega)
    rw [nat_lt x y h]
    simpa using this
  · have hc := c_zero.2 h
    refine ev_df (by omega) (ev_df (by omega) (ev_gd (by simp <;> omega) (ev_gd (by simp <;> omega) (ev_gd (by simp <;> omega) (ev_gd (by simp [limE]; omega) (ev_gd (by simp <;> omega) (ev_gd (by simp <;> omega) ?_)))))))
    rw [w64 (x := a.f0 + b.f0) (by omega) (by omega)]
    have := ih (acc ++ [⟨a.f0 + b.f0, a.f1⟩]) (by omega) (by omega) vx'.2.2 vy'.2.2 (by omega) (by omega) (by simp; omega)
    rw [nat_eq x y h]
    simpa using this
theorem nat_ev (x y : List Term) (hx : size x ≤ 1000000) (hy : size y ≤ 1000000) (vx : vL x) (vy : vL y) (mx : mL x ≤ 1000000000) (my : mL y ≤ 1000000000) : Ev (fun k => impl_natural.f k x y) (natO x y) := by
  have := natural_ev x y [] hx hy vx vy mx my (by simp; omega)
  exact ev_succ (fun k => impl_natural.f_eq k x y) this
/-! Taken off rows. -/
def toR (acc : List Term) : Option (List Term × List Int) → List Term × List Int × Bool
  | some (x, r) => (acc ++ x, r, true)
  | none => ([], [], false)
theorem takeOrd_ev : ∀ (N : Nat) (l : List Int), l.length ≤ N → N ≤ 1000000 → Ev (fun k => impl_takeOrd.f k l) (toR [] (tO1 l)) := by
  intro N
  induction N with
  | zero =>
    intro l hl _
    obtain rfl : l = [] := List.eq_nil_of_length_eq_zero (by omega)
    exact ev_succ (fun k => impl_takeOrd.f_eq k _) (ev_dt (by simp) (ev_some.2 rfl))
  | succ N ih =>
    intro l hl hN
    have ih := fun l hl => ih l hl (by omega)
    have loop : ∀ (d i : Nat) (l : List Int) (acc : List Term), l.length ≤ N → i + d ≤ 60 → acc.length = i → (∀ t ∈ acc, size t.f1 ≤ 1000000) → Ev (fun k => impl_takeOrd.l0 k l acc ((i + d : Nat) : Int) (i : Int)) (toR acc (tO l.length d (acc.getLast?.map (·.f1)) l)) := by
      intro d
      induction d with
      | zero =>
        intro i l acc hl hi ha hs
        refine ev_succ (fun k => impl_takeOrd.l0_eq k _ _ _ _) (ev_df (by first | omega | (simp only [List.length_append, List.length_cons, List.length_nil, List.length_map, List.length_take, List.length_drop, limE]; omega) | (simp [limE] <;> omega)) (ev_some.2 ?_))
        simp [tO, toR]
      | succ d ihd =>
        intro i l acc hl hi ha hs
        refine ev_succ (fun k => impl_takeOrd.l0_eq k _ _ _ _) (ev_dt (by first | omega | (simp only [List.length_append, List.length_cons, List.length_nil, List.length_map, List.length_take, List.length_drop, limE]; omega) | (simp [limE] <;> omega)) ?_)
        cases l with
        | nil => exact ev_dt (by simp) (ev_some.2 (by simp [tO, toR]))
        | cons c l =>
          simp only [List.length_cons] at hl
          have hlim : ((c :: l).length : Int) = (l.length : Int) + 1 := by simp
          have hc : (c :: l).getD (0 : Int).toNat 0 = c := rfl
          have hd : ((c :: l).take ((c :: l).length : Int).toNat).drop (1 : Int).toNat = l := by
            rw [Int.toNat_natCast, List.take_length]; rfl
          have hT := tO_step (f := l.length) (n := d) (p := acc.getLast?.map (·.f1)) (c := c) (l := l) (Nat.le_refl _)
          rw [show tO (c :: l).length (d + 1) (acc.getLast?.map (·.f1)) (c :: l) = _ from hT]
          refine ev_df (by rw [hlim]; omega) (ev_gd (by rw [hlim]; omega) ?_)
          rw [hc, hd]
          by_cases h1 : c < 1
          · rw [if_pos (.inl h1)]; exact ev_dt h1 (ev_some.2 rfl)
          refine ev_df h1 (ev_gd (by rw [hlim]; omega) ?_)
          by_cases h2 : c > 9999
          · rw [if_pos (.inr h2)]; exact ev_dt h2 (ev_some.2 rfl)
          rw [if_neg (by omega)]
          refine ev_df h2 (ev_gd (by rw [hlim]; omega) (ev_bind (ih l (by omega)) ?_))
          cases ht : tO1 l with
          | none => exact ev_nt rfl (ev_some.2 rfl)
          | some q =>
            obtain ⟨e, r⟩ := q
            have hr := tO1_len ht
            simp only [toR, List.nil_append]
            have next : pv (acc.getLast?.map (·.f1)) e = false → Ev (fun k => impl_takeOrd.l0 k r (acc ++ [(⟨c, e⟩ : Term)]) ((i + (d + 1) : Nat) : Int) (wr ((i : Int) + 1))) (toR acc (if pv (acc.getLast?.map (·.f1)) e = true then none else match tO r.length d (some e) r with | none => none | some (x, r') => some (⟨c, e⟩ :: x, r'))) := by
              intro hp
              rw [hp, if_neg (by simp), w_succ (by omega)]
              have := ihd (i + 1) r (acc ++ [⟨c, e⟩]) (by omega) (by omega) (by simp [ha]) (fun t ht => by
                rcases List.mem_append.1 ht with ht | ht
                · exact hs t ht
                · rw [List.mem_singleton.1 ht]; show size e ≤ 1000000; omega)
              rw [show i + 1 + d = i + (d + 1) by omega, List.getLast?_append] at this
              simp only [List.getLast?_singleton, Option.some_or, Option.map_some] at this
              revert this
              cases tO r.length d (some e) r with
              | none => exact id
              | some q => intro this; simpa [toR] using this
            refine ev_nf rfl ?_
            by_cases h3 : (i : Int) > 0
            · have hne : acc ≠ [] := fun h => by rw [h] at ha; simp at ha; omega
              obtain ⟨l', s, rfl⟩ : ∃ l' s, acc = l' ++ [s] := by
                rcases List.eq_nil_or_concat acc with h | ⟨l', t, h⟩
                · exact absurd h hne
                · exact ⟨l', t, by rw [h, List.concat_eq_append]⟩
              rw [List.length_append, List.length_singleton] at ha
              have hw : wr ((i : Int) - 1) = (l'.length : Int) := by rw [w64 (by omega) (by omega)]; omega
              have hg : (l' ++ [s]).getD (l'.length : Int).toNat (⟨0, ([] : List Term)⟩ : Term) = s := by
                rw [get_at (by simp)]; simp
              refine ev_dt h3 (ev_gd (by rw [hw, List.length_append, List.length_singleton]; omega) ?_)
              rw [hw, hg]
              have hss := hs s (by simp)
              refine ev_bind (compare_ev e s.f1 (by omega) (by omega)) ?_
              have hpe : pv ((l' ++ [s]).getLast?.map (·.f1)) e = decide (cL e s.f1 ≥ 0) := by simp [pv]
              by_cases h4 : cL e s.f1 ≥ 0
              · refine ev_dt h4 (ev_some.2 ?_)
                rw [hpe, decide_eq_true h4]
                rfl
              · refine ev_df h4 (ev_gd (by rw [hlim]; omega) (ev_gd (by simp [limE]; omega) ?_))
                exact next (by rw [hpe, decide_eq_false h4])
            · obtain rfl : acc = [] := List.eq_nil_of_length_eq_zero (by omega)
              refine ev_df h3 (ev_gd (by rw [hlim]; omega) (ev_gd (by simp [limE]) ?_))
              exact next rfl
    refine ev_succ (fun k => impl_takeOrd.f_eq k _) ?_
    cases l with
    | nil => exact ev_dt (by simp) (ev_some.2 rfl)
    | cons m l =>
      have hlim : ((m :: l).length : Int) = (l.length : Int) + 1 := by simp
      have hc : (m :: l).getD (0 : Int).toNat 0 = m := rfl
      have hd : ((m :: l).take ((m :: l).length : Int).toNat).drop (1 : Int).toNat = l := by
        rw [Int.toNat_natCast, List.take_length]; rfl
      refine ev_df (by rw [hlim]; omega) (ev_gd (by rw [hlim]; omega) (ev_gd (by rw [hlim]; omega) ?_))
      rw [hc, hd]
      simp only [tO1]
      by_cases h1 : m < 0
      · rw [if_pos (.inl h1)]; exact ev_dt h1 (ev_some.2 rfl)
      refine ev_df h1 ?_
      by_cases h2 : m > 60
      · rw [if_pos (.inr h2)]; exact ev_dt h2 (ev_some.2 rfl)
      rw [if_neg (by omega)]
      refine ev_df h2 ?_
      have := loop m.toNat 0 l [] (by simp at hl; omega) (by omega) rfl (by intro t ht; cases ht)
      rw [show ((0 + m.toNat : Nat) : Int) = m by omega] at this
      exact this
/-- What a row gives: the tree of a valid row, or that it is not valid. -/
theorem ordOf_ev (l : List Int) : EvP (fun k => impl_ordOf.f k l) (fun x => x.2 = OV l ∧ (OV l = true → l = row x.1 ∧ Fit x.1)) := by
  refine evp_succ (fun k => impl_ordOf.f_eq k l) ?_
  by_cases h1 : (l.length : Int) < 1
  · have : OV l = false := by unfold OV; rw [decide_eq_false (by omega), Bool.false_and]
    refine evp_d (fun _ => evp_some ⟨this.symm, fun h => by rw [this] at h; cases h⟩) (fun h => absurd h1 h)
  refine evp_d (fun h => absurd h h1) (fun _ => ?_)
  by_cases h2 : (l.length : Int) > 60
  · have : OV l = false := by unfold OV; rw [decide_eq_false (by omega), Bool.false_and]
    refine evp_d (fun _ => evp_some ⟨this.symm, fun h => by rw [this] at h; cases h⟩) (fun h => absurd h2 h)
  refine evp_d (fun h => absurd h h2) (fun _ => evp_bindv (takeOrd_ev l.length l (Nat.le_refl _) (by omega)) ?_)
  have hd : decide (1 ≤ l.length ∧ l.length ≤ 60) = true := decide_eq_true ⟨by omega, by omega⟩
  cases ht : tO1 l with
  | none =>
    have : OV l = false := by unfold OV; rw [ht, Bool.and_false]
    exact evp_some ⟨this.symm, fun h => by rw [this] at h; cases h⟩
  | some q =>
    obtain ⟨x, r⟩ := q
    have hov : OV l = r.isEmpty := by unfold OV; rw [ht, hd, Bool.true_and]
    refine evp_some ⟨?_, fun h => ?_⟩
    · rw [hov]
      cases r with
      | nil => rfl
      | cons a r => exact decide_eq_false (by show ¬ (((a :: r).length : Nat) : Int) = 0; simp <;> omega)
    · rw [hov] at h
      obtain rfl : r = [] := List.isEmpty_iff.1 h
      obtain ⟨a1, a2, a3⟩ := tO1_sound ht
      rw [List.append_nil] at a1
      exact ⟨a1, a2, a3, by show (row x).length ≤ 60; rw [← a1]; omega⟩
/-! Rows and their trees. -/
def tr (r : List Int) : List Term := match tO1 r with
  | some (x, _) => x
  | none => []
theorem tr_row {x : List Term} (h : Fit x) : tr (row x) = x := by
  have hs := h.s
  have := tO1_complete [] h.v h.m (by omega)
  rw [List.append_nil] at this
  simp only [tr, this]
theorem tr_fit {r : List Int} (h : OV r = true) : r = row (tr r) ∧ Fit (tr r) := by
  obtain ⟨x, h1, h2, h3⟩ := OV_tree h
  have : tr r = x := by rw [h1]; exact tr_row h2
  rw [this]
  exact ⟨h1, h2⟩
theorem ordOf_tr (r : List Int) : EvP (fun k => impl_ordOf.f k r) (fun x => x.2 = OV r ∧ (OV r = true → x.1 = tr r)) :=
  evp_mono (ordOf_ev r) fun x hx => ⟨hx.1, fun h => by
    obtain ⟨h1, h2⟩ := hx.2 h
    rw [h1, tr_row h2]⟩
/-! Heaps that are valid. -/
def vh (m : Int) (l : List Int) : Bool := decide (l.length = 3) && l.all fun n => decide (0 ≤ n) && decide (n ≤ m)
theorem thingsOk_ev (l : List Int) (m : Int) (hl : l.length < 9000000000000000000) : Ev (fun k => impl_thingsOk.f k l m) (vh m l) := by
  have loop : ∀ d i : Nat, i + d = l.length → Ev (fun k => impl_thingsOk.l0 k l m l (l.length : Int) (i : Int)) (decide (l.length = 3) && (l.drop i).all fun n => decide (0 ≤ n) && decide (n ≤ m)) := by
    intro d
    induction d with
    | zero =>
      intro i hi
      refine ev_succ (fun k => impl_thingsOk.l0_eq k _ _ _ _ _) (ev_df (by omega) (ev_some.2 ?_))
      rw [List.drop_eq_nil_of_le (by omega), List.all_nil, Bool.and_true]
      by_cases h : l.length = 3
      · rw [decide_eq_true h]; exact decide_eq_true (by omega)
      · rw [decide_eq_false h]; exact decide_eq_false (by omega)
    | succ d ih =>
      intro i hi
      have hlt : i < l.length := by omega
      refine ev_succ (fun k => impl_thingsOk.l0_eq k _ _ _ _ _) (ev_dt (by omega) (ev_gd (by omega) ?_))
      rw [get_at hlt, w_succ (by omega), List.drop_eq_getElem_cons hlt, List.all_cons]
      by_cases h1 : l[i] < 0
      · rw [decide_eq_false (show ¬ 0 ≤ l[i] by omega)]
        exact ev_dt h1 (ev_some.2 (by simp))
      refine ev_df h1 ?_
      by_cases h2 : l[i] > m
      · rw [decide_eq_false (show ¬ l[i] ≤ m by omega)]
        exact ev_dt h2 (ev_some.2 (by simp))
      refine ev_df h2 ?_
      rw [decide_eq_true (show 0 ≤ l[i] by omega), decide_eq_true (show l[i] ≤ m by omega)]
      exact ih (i + 1) (by omega)
  exact ev_succ (fun k => impl_thingsOk.f_eq k _ _) (loop l.length 0 (by omega))
theorem l8List_ev (l : List Int) (m : Int) (hl : l.length < 9000000000000000000) : Ev (fun k => spec_l8List.f k l m) (vh m l) := by
  have loop : ∀ d i : Nat, i + d = l.length → Ev (fun k => spec_l8List.l0 k l m (i : Int)) (decide (l.length = 3) && (l.drop i).all fun n => decide (0 ≤ n) && decide (n ≤ m)) := by
    intro d
    induction d with
    | zero =>
      intro i hi
      refine ev_succ (fun k => spec_l8List.l0_eq k _ _ _) (ev_df (by omega) (ev_some.2 ?_))
      rw [List.drop_eq_nil_of_le (by omega), List.all_nil, Bool.and_true]
      by_cases h : l.length = 3
      · rw [decide_eq_true h]; exact decide_eq_true (by omega)
      · rw [decide_eq_false h]; exact decide_eq_false (by omega)
    | succ d ih =>
      intro i hi
      have hlt : i < l.length := by omega
      refine ev_succ (fun k => spec_l8List.l0_eq k _ _ _) (ev_dt (by omega) (ev_gd (by omega) ?_))
      rw [get_at hlt, w_succ (by omega), List.drop_eq_getElem_cons hlt, List.all_cons]
      refine ev_bind (l1In_ev _ _ _) ?_
      cases h : (decide (l[i] ≥ 0) && decide (l[i] ≤ m)) with
      | true =>
        have h' : (decide (0 ≤ l[i]) && decide (l[i] ≤ m)) = true := h
        rw [Bool.true_and]
        exact ev_nf rfl (ih (i + 1) (by omega))
      | false =>
        have h' : (decide (0 ≤ l[i]) && decide (l[i] ≤ m)) = false := h
        rw [Bool.false_and, Bool.and_false]
        exact ev_nt rfl (ev_some.2 rfl)
  exact ev_succ (fun k => spec_l8List.f_eq k _ _) (loop l.length 0 (by omega))
theorem vh_len {m : Int} {l : List Int} (h : vh m l = true) : l.length = 3 ∧ ∀ n ∈ l, 0 ≤ n ∧ n ≤ m := by
  unfold vh at h
  simp only [Bool.and_eq_true, decide_eq_true_eq, List.all_eq_true] at h
  exact h
/-! Heaps and what they are worth. -/
def toldV (z : List Term) : List Int × Bool := if mL z ≤ 9999 ∧ size z ≤ 60 then (row z, true) else ([], false)
/-- So many times the same. -/
def repO : Nat → List Term → List Term → List Term
  | 0, _, s => s
  | m + 1, x, s => repO m x (natO s x)
def hO : List Int → List (List Term) → List Term → List Term
  | n :: hs, x :: xs, s => hO hs xs (repO n.toNat x s)
  | _, _, s => s
theorem repO_v : ∀ (m : Nat) (x s : List Term), vL x → vL s → vL (repO m x s)
  | 0, _, _, _, h => h
  | m + 1, x, s, hx, h => repO_v m x _ hx (nat_v _ _ h hx)
theorem repO_ge : ∀ (m : Nat) (x s : List Term), vL x → vL s → size s ≤ size (repO m x s) ∧ mL s ≤ mL (repO m x s) ∧ size (repO m x s) ≤ size s + m * size x ∧ mL (repO m x s) ≤ mL s + m * mL x
  | 0, x, s, _, _ => by
    show size s ≤ size s ∧ mL s ≤ mL s ∧ size s ≤ size s + 0 * size x ∧ mL s ≤ mL s + ((0 : Nat) : Int) * mL x
    have : ((0 : Nat) : Int) * mL x = 0 := by simp
    omega
  | m + 1, x, s, hx, hs => by
    have h1 := nat_size s x
    have h2 := nat_m s x hs hx
    have h3 := repO_ge m x (natO s x) hx (nat_v _ _ hs hx)
    have e1 : (m + 1) * size x = m * size x + size x := by rw [Nat.add_mul, Nat.one_mul]
    have e2 : ((m + 1 : Nat) : Int) * mL x = (m : Int) * mL x + mL x := by rw [Int.natCast_add, Int.add_mul]; simp
    show size s ≤ size (repO m x (natO s x)) ∧ mL s ≤ mL (repO m x (natO s x)) ∧ size (repO m x (natO s x)) ≤ size s + (m + 1) * size x ∧ mL (repO m x (natO s x)) ≤ mL s + ((m + 1 : Nat) : Int) * mL x
    rw [e1, e2]
    omega
theorem hO_v : ∀ (hs : List Int) (xs : List (List Term)) (s : List Term), (∀ x ∈ xs, vL x) → vL s → vL (hO hs xs s)
  | [], xs, s, _, h => by cases xs <;> exact h
  | n :: hs, [], s, _, h => h
  | n :: hs, x :: xs, s, hx, h => hO_v hs xs _ (fun y hy => hx y (List.mem_cons_of_mem _ hy)) (repO_v _ _ _ (hx x List.mem_cons_self) h)
theorem hO_ge : ∀ (hs : List Int) (xs : List (List Term)) (s : List Term), (∀ x ∈ xs, vL x) → vL s → size s ≤ size (hO hs xs s) ∧ mL s ≤ mL (hO hs xs s)
  | [], xs, s, _, h => by cases xs <;> exact ⟨Nat.le_refl _, Int.le_refl _⟩
  | n :: hs, [], s, _, h => ⟨Nat.le_refl _, Int.le_refl _⟩
  | n :: hs, x :: xs, s, hx, h => by
    have h1 := repO_ge n.toNat x s (hx x List.mem_cons_self) h
    have h2 := hO_ge hs xs (repO n.toNat x s) (fun y hy => hx y (List.mem_cons_of_mem _ hy)) (repO_v _ _ _ (hx x List.mem_cons_self) h)
    show size s ≤ size (hO hs xs (repO n.toNat x s)) ∧ mL s ≤ mL (hO hs xs (repO n.toNat x s))
    omega
theorem repO_co (e : List Term) : ∀ (m : Nat) (x s : List Term), co (repO m x s) e = co s e + m * co x e
  | 0, x, s => by simp [repO]
  | m + 1, x, s => by
    rw [repO, repO_co e m, co_nat, Int.natCast_add, Int.add_mul]
    simp
    omega
def W3 (e : List Term) : List Int → List (List Term) → Int
  | n :: hs, x :: xs => n.toNat * co x e + W3 e hs xs
  | _, _ => 0
theorem hO_co (e : List Term) : ∀ (hs : List Int) (xs : List (List Term)) (s : List Term), co (hO hs xs s) e = co s e + W3 e hs xs
  | [], xs, s => by cases xs <;> simp [hO, W3]
  | n :: hs, [], s => by simp [hO, W3]
  | n :: hs, x :: xs, s => by rw [hO, hO_co e hs xs, repO_co, W3]; omega
theorem W3_more (e : List Term) : ∀ (hs : List Int) (xs : List (List Term)) (k : Nat) (h1 : k < hs.length) (h2 : k < xs.length), 0 ≤ hs[k] → W3 e (hs.set k (hs[k] + 1)) xs = W3 e hs xs + co xs[k] e
  | n :: hs, x :: xs, 0, _, _, h0 => by
    simp only [List.getElem_cons_zero] at h0
    simp only [List.set_cons_zero, List.getElem_cons_zero, W3]
    rw [show (n + 1).toNat = n.toNat + 1 by omega, Int.natCast_add, Int.add_mul]
    simp
    omega
  | n :: hs, x :: xs, k + 1, h1, h2, h0 => by
    have := W3_more e hs xs k (by simpa using h1) (by simpa using h2) (by simpa using h0)
    simp only [List.set_cons_succ, List.getElem_cons_succ, W3, this]
    omega
/-- What the code makes of heaps. -/
theorem heapsOrd_ev (hs : List Int) (xs : List (List Term)) (h3 : hs.length = 3) (hx3 : xs.length = 3) (hh : ∀ n ∈ hs, 0 ≤ n ∧ n ≤ 40) (hx : ∀ x ∈ xs, Fit x) : Ev (fun k => impl_heapsOrd.f k hs xs) (toldV (hO hs xs [])) := by
  have l0 : ∀ (d i : Nat) (s : List Term), i + d = 3 → vL s → size s ≤ 2400 * i + 1 → mL s ≤ 400000 * i → Ev (fun k => impl_heapsOrd.l0 k xs s hs (hs.length : Int) (i : Int)) (toldV (hO (hs.drop i) (xs.drop i) s)) := by
    intro d
    induction d with
    | zero =>
      intro i s hi hv hs' hm
      rw [List.drop_eq_nil_of_le (by omega)]
      have e : hO [] (xs.drop i) s = s := by cases xs.drop i <;> rfl
      rw [e]
      refine ev_succ (fun k => impl_heapsOrd.l0_eq k _ _ _ _ _) (ev_df (by omega) (ev_bind (told_ev s (by omega)) (ev_some.2 rfl)))
    | succ d ih =>
      intro i s hi hv hs' hm
      have h1 : i < hs.length := by omega
      have h2 : i < xs.length := by omega
      have hn := hh _ (List.getElem_mem h1)
      have hf := hx _ (List.getElem_mem h2)
      have f1 := hf.s
      have f2 := hf.m
      have f3 := hf.v
      have l1 : ∀ (e j : Nat) (s : List Term), j + e = hs[i].toNat → vL s → size s ≤ 2400 * i + 1 + 60 * j → mL s ≤ 400000 * i + 10000 * j → Ev (fun k => impl_heapsOrd.l1 k xs s (i : Int) hs (hs.length : Int) (i : Int) hs[i] (j : Int)) (toldV (hO (hs.drop (i + 1)) (xs.drop (i + 1)) (repO e xs[i] s))) := by
        intro e
        induction e with
        | zero =>
          intro j s hj hv hs' hm
          refine ev_succ (fun k => impl_heapsOrd.l1_eq k _ _ _ _ _ _ _ _) (ev_df (by omega) ?_)
          rw [w_succ (by omega)]
          exact ih (i + 1) s (by omega) hv (by omega) (by omega)
        | succ e ihe =>
          intro j s hj hv hs' hm
          have n1 := nat_size s xs[i]
          have n2 := nat_m s xs[i] hv f3
          refine ev_succ (fun k => impl_heapsOrd.l1_eq k _ _ _ _ _ _ _ _) (ev_dt (by omega) (ev_gd (by omega) ?_))
          rw [get_at h2, w_succ (by omega)]
          refine ev_bind (nat_ev s xs[i] (by omega) (by omega) hv f3 (by omega) (by omega)) ?_
          exact ihe (j + 1) (natO s xs[i]) (by omega) (nat_v _ _ hv f3) (by omega) (by omega)
      rw [List.drop_eq_getElem_cons h1, List.drop_eq_getElem_cons h2, hO]
      refine ev_succ (fun k => impl_heapsOrd.l0_eq k _ _ _ _ _) (ev_dt (by omega) (ev_gd (by omega) ?_))
      rw [get_at h1]
      exact l1 hs[i].toNat 0 s (by omega) hv (by omega) (by omega)
  have := l0 3 0 [] (by omega) vL_nil (by rw [size_nil]; omega) (by rw [mL_nil]; omega)
  exact ev_succ (fun k => impl_heapsOrd.f_eq k _ _) this
/-- The reference's natural sum. -/
theorem sNat_ev {x y : List Term} (hx : Fit x) (hy : Fit y) : Ev (fun k => spec_OrdNatural.f k (row x) (row y)) (toldV (natO x y)) := by
  have sx := hx.s
  have sy := hy.s
  have lx := size_len x
  have ly := size_len y
  have mx := hx.m
  have my := hy.m
  have sz := nat_size x y
  have X1 : (x.map (·.f0)).length = x.length := List.length_map _
  have X2 : (x.map fun t => row t.f1).length = x.length := List.length_map _
  have Y1 : (y.map (·.f0)).length = y.length := List.length_map _
  have Y2 : (y.map fun t => row t.f1).length = y.length := List.length_map _
  have fin : ∀ (i j : Nat) (acc : List Term), x.length ≤ i → y.length ≤ j → acc ++ natO (x.drop i) (y.drop j) = natO x y →
      Ev (fun k => spec_OrdNatural.l0 k (x.map (·.f0)) (x.map fun t => row t.f1) (y.map (·.f0)) (y.map fun t => row t.f1) (acc.map (·.f0)) (acc.map fun t => row t.f1) (i : Int) (j : Int)) (toldV (natO x y)) := by
    intro i j acc hi hj ha
    rw [List.drop_eq_nil_of_le hi, List.drop_eq_nil_of_le hj, nat_nl, List.append_nil] at ha
    subst ha
    refine ev_succ (fun k => spec_OrdNatural.l0_eq k _ _ _ _ _ _ _ _) (ev_df (by rw [X1]; omega) (ev_df (by rw [Y1]; omega) (ev_bind (make_ev _ (by omega)) (ev_bind (fit_ev _) ?_))))
    rw [OV_row (nat_v _ _ hx.v hy.v)]
    unfold toldV
    by_cases hf : mL (natO x y) ≤ 9999 ∧ size (natO x y) ≤ 60
    · rw [decide_eq_true hf, if_pos hf]; exact ev_some.2 rfl
    · rw [decide_eq_false hf, if_neg hf]; exact ev_some.2 rfl
  have loop : ∀ (d i j : Nat) (acc : List Term), (x.length - i) + (y.length - j) ≤ d → i ≤ x.length → j ≤ y.length → acc ++ natO (x.drop i) (y.drop j) = natO x y → acc.length ≤ i + j →
      Ev (fun k => spec_OrdNatural.l0 k (x.map (·.f0)) (x.map fun t => row t.f1) (y.map (·.f0)) (y.map fun t => row t.f1) (acc.map (·.f0)) (acc.map fun t => row t.f1) (i : Int) (j : Int)) (toldV (natO x y)) := by
    intro d
    induction d with
    | zero =>
      intro i j acc hd hi hj ha hl
      exact fin i j acc (by omega) (by omega) ha
    | succ d ih =>
      intro i j acc hd hi hj ha hl
      have A1 : (acc.map (·.f0)).length = acc.length := List.length_map _
      have A2 : (acc.map fun t => row t.f1).length = acc.length := List.length_map _
      -- one more term
      have takeX : ∀ (h : i < x.length), natO (x.drop i) (y.drop j) = x[i] :: natO (x.drop (i + 1)) (y.drop j) → Ev (fun k => spec_OrdNatural.j0 k (x.map (·.f0)) (x.map fun t => row t.f1) (y.map (·.f0)) (y.map fun t => row t.f1) (acc.map (·.f0)) (acc.map fun t => row t.f1) (i : Int) (j : Int) 1) (toldV (natO x y)) := by
        intro h he
        refine ev_succ (fun k => spec_OrdNatural.j0_eq k _ _ _ _ _ _ _ _ _) (ev_dt rfl (ev_gd (by rw [X1]; omega) ?_))
        rw [map_get (·.f0) x i _ h, map_get (fun t => row t.f1) x i _ h, w_succ (by omega)]
        refine ev_gd (by rw [A1, limE]; simp; omega) (ev_gd (by rw [X2]; omega) (ev_gd (by rw [A2, limE]; simp; omega) ?_))
        have := ih (i + 1) j (acc ++ [x[i]]) (by omega) (by omega) hj (by rw [List.append_assoc, ← ha, he]; rfl) (by simp; omega)
        simpa using this
      have takeY : ∀ (h : j < y.length), natO (x.drop i) (y.drop j) = y[j] :: natO (x.drop i) (y.drop (j + 1)) → Ev (fun k => spec_OrdNatural.j0 k (x.map (·.f0)) (x.map fun t => row t.f1) (y.map (·.f0)) (y.map fun t => row t.f1) (acc.map (·.f0)) (acc.map fun t => row t.f1) (i : Int) (j : Int) (-1)) (toldV (natO x y)) := by
        intro h he
        refine ev_succ (fun k => spec_OrdNatural.j0_eq k _ _ _ _ _ _ _ _ _) (ev_df (by omega) (ev_dt rfl (ev_gd (by rw [Y1]; omega) ?_)))
        rw [map_get (·.f0) y j _ h, map_get (fun t => row t.f1) y j _ h, w_succ (by omega)]
        refine ev_gd (by rw [A1, limE]; simp; omega) (ev_gd (by rw [Y2]; omega) (ev_gd (by rw [A2, limE]; simp; omega) ?_))
        have := ih i (j + 1) (acc ++ [y[j]]) (by omega) hi (by omega) (by rw [List.append_assoc, ← ha, he]; rfl) (by simp; omega)
        simpa using this
      have takeB : ∀ (h1 : i < x.length) (h2 : j < y.length), natO (x.drop i) (y.drop j) = ⟨x[i].f0 + y[j].f0, x[i].f1⟩ :: natO (x.drop (i + 1)) (y.drop (j + 1)) → Ev (fun k => spec_OrdNatural.j0 k (x.map (·.f0)) (x.map fun t => row t.f1) (y.map (·.f0)) (y.map fun t => row t.f1) (acc.map (·.f0)) (acc.map fun t => row t.f1) (i : Int) (j : Int) 0) (toldV (natO x y)) := by
        intro h1 h2 he
        have m1 := mL_mem (List.getElem_mem h1)
        have m2 := mL_mem (List.getElem_mem h2)
        have v1 := vL_mem hx.v (List.getElem_mem h1)
        have v2 := vL_mem hy.v (List.getElem_mem h2)
        refine ev_succ (fun k => spec_OrdNatural.j0_eq k _ _ _ _ _ _ _ _ _) (ev_df (by omega) (ev_df (by omega) (ev_gd (by rw [X1]; omega) (ev_gd (by rw [Y1]; omega) ?_))))
        rw [map_get (·.f0) x i _ h1, map_get (fun t => row t.f1) x i _ h1, map_get (·.f0) y j _ h2, w_succ (by omega), w_succ (by omega), w64 (x := x[i].f0 + y[j].f0) (by omega) (by omega)]
        refine ev_gd (by rw [A1, limE]; simp; omega) (ev_gd (by rw [X2]; omega) (ev_gd (by rw [A2, limE]; simp; omega) ?_))
        have := ih (i + 1) (j + 1) (acc ++ [⟨x[i].f0 + y[j].f0, x[i].f1⟩]) (by omega) (by omega) (by omega) (by rw [List.append_assoc, ← ha, he]; rfl) (by simp; omega)
        simpa using this
      by_cases h1 : i < x.length
      · by_cases h2 : j < y.length
        · have s1 := size_mem (List.getElem_mem h1)
          have s2 := size_mem (List.getElem_mem h2)
          refine ev_succ (fun k => spec_OrdNatural.l0_eq k _ _ _ _ _ _ _ _) (ev_dt (by rw [X1]; omega) (ev_df (by rw [X1]; omega) (ev_df (by rw [Y1]; omega) (ev_gd (by rw [X2]; omega) (ev_gd (by rw [Y2]; omega) ?_)))))
          rw [map_get (fun t => row t.f1) x i _ h1, map_get (fun t => row t.f1) y j _ h2]
          refine ev_bind (scompare_ev _ _ (by omega) (by omega)) ?_
          rcases c_cases x[i].f1 y[j].f1 with ⟨hc, hl⟩ | ⟨hc, hl⟩ | ⟨hc, hl⟩
          · rw [hc]
            exact takeY h2 (by rw [List.drop_eq_getElem_cons h1, List.drop_eq_getElem_cons h2, nat_lt _ _ hl, ← List.drop_eq_getElem_cons h1])
          · rw [hc]
            exact takeB h1 h2 (by rw [List.drop_eq_getElem_cons h1, List.drop_eq_getElem_cons h2, nat_eq _ _ hl])
          · rw [hc]
            exact takeX h1 (by rw [List.drop_eq_getElem_cons h1, List.drop_eq_getElem_cons h2, nat_gt _ _ hl, ← List.drop_eq_getElem_cons h2])
        · refine ev_succ (fun k => spec_OrdNatural.l0_eq k _ _ _ _ _ _ _ _) (ev_dt (by rw [X1]; omega) (ev_df (by rw [X1]; omega) (ev_dt (by rw [Y1]; omega) ?_)))
          have hy0 : y.drop j = [] := List.drop_eq_nil_of_le (by omega)
          exact takeX h1 (by rw [hy0, nat_nr, nat_nr, ← List.drop_eq_getElem_cons h1])
      · by_cases h2 : ¬ j < y.length
        · exact fin i j acc (by omega) (by omega) ha
        have h2 : j < y.length := by omega
        refine ev_succ (fun k => spec_OrdNatural.l0_eq k _ _ _ _ _ _ _ _) (ev_df (by rw [X1]; omega) (ev_dt (by rw [Y1]; omega) (ev_dt (by rw [X1]; omega) ?_)))
        have hx0 : x.drop i = [] := List.drop_eq_nil_of_le (by omega)
        exact takeY h2 (by rw [hx0, nat_nl, nat_nl, ← List.drop_eq_getElem_cons h2])
  refine ev_succ (fun k => spec_OrdNatural.f_eq k _ _) (ev_bind (valid_ev _) ?_)
  rw [hx.ov]
  refine ev_nf rfl (ev_bind (valid_ev _) ?_)
  rw [hy.ov]
  refine ev_nf rfl (ev_bind (terms_ev x (by omega)) (ev_bind (terms_ev y (by omega)) ?_))
  exact loop (x.length + y.length) 0 0 [] (by omega) (by omega) (by omega) (by simp) (by simp)
def sumV (z : List Term) : List Int := if mL z ≤ 9999 ∧ size z ≤ 60 then row z else []
theorem l8Ord_ev (hs : List Int) (xs : List (List Term)) (h3 : hs.length = 3) (hx3 : xs.length = 3) (hh : ∀ n ∈ hs, 0 ≤ n ∧ n ≤ 40) (hx : ∀ x ∈ xs, Fit x) : Ev (fun k => spec_l8Ord.f k hs (xs.map row)) (sumV (hO hs xs [])) := by
  have hxv : ∀ x ∈ xs, vL x := fun x h => (hx x h).v
  have L : (xs.map row).length = xs.length := List.length_map _
  have l0 : ∀ (d i : Nat) (s : List Term), i + d = 3 → Fit s → Ev (fun k => spec_l8Ord.l0 k hs (xs.map row) (row s) (i : Int)) (sumV (hO (hs.drop i) (xs.drop i) s)) := by
    intro d
    induction d with
    | zero =>
      intro i s hi hf
      rw [List.drop_eq_nil_of_le (by omega)]
      have e : hO [] (xs.drop i) s = s := by cases xs.drop i <;> rfl
      rw [e]
      exact ev_succ (fun k => spec_l8Ord.l0_eq k _ _ _ _) (ev_df (by omega) (ev_some.2 (by unfold sumV; rw [if_pos ⟨hf.m, hf.s⟩])))
    | succ d ih =>
      intro i s hi hf
      have h1 : i < hs.length := by omega
      have h2 : i < xs.length := by omega
      have hn := hh _ (List.getElem_mem h1)
      have hfx := hx _ (List.getElem_mem h2)
      have l1 : ∀ (e j : Nat) (s : List Term), j + e = hs[i].toNat → Fit s → Ev (fun k => spec_l8Ord.l1 k hs (xs.map row) (row s) (i : Int) (j : Int)) (sumV (hO (hs.drop (i + 1)) (xs.drop (i + 1)) (repO e xs[i] s))) := by
        intro e
        induction e with
        | zero =>
          intro j s hj hf
          refine ev_succ (fun k => spec_l8Ord.l1_eq k _ _ _ _ _) (ev_gd (by omega) ?_)
          rw [get_at h1, w_succ (i := i) (by omega)]
          exact ev_df (by omega) (ih (i + 1) s (by omega) hf)
        | succ e ihe =>
          intro j s hj hf
          refine ev_succ (fun k => spec_l8Ord.l1_eq k _ _ _ _ _) (ev_gd (by omega) ?_)
          rw [get_at h1, map_get row xs i _ h2, w_succ (by omega)]
          refine ev_dt (by omega) (ev_gd (by rw [L]; omega) (ev_bind (sNat_ev hf hfx) ?_))
          unfold toldV
          by_cases hfit : mL (natO s xs[i]) ≤ 9999 ∧ size (natO s xs[i]) ≤ 60
          · rw [if_pos hfit]
            exact ev_nf rfl (ihe (j + 1) (natO s xs[i]) (by omega) ⟨nat_v _ _ hf.v hfx.v, hfit.1, hfit.2⟩)
          · rw [if_neg hfit]
            have g1 := repO_ge e xs[i] (natO s xs[i]) hfx.v (nat_v _ _ hf.v hfx.v)
            have g2 := hO_ge (hs.drop (i + 1)) (xs.drop (i + 1)) (repO e xs[i] (natO s xs[i])) (fun x h => hxv x (List.mem_of_mem_drop h)) (repO_v _ _ _ hfx.v (nat_v _ _ hf.v hfx.v))
            refine ev_nt rfl (ev_some.2 ?_)
            unfold sumV
            rw [repO, if_neg (by omega)]
      rw [List.drop_eq_getElem_cons h1, List.drop_eq_getElem_cons h2, hO]
      refine ev_succ (fun k => spec_l8Ord.l0_eq k _ _ _ _) (ev_dt (by omega) ?_)
      exact l1 hs[i].toNat 0 s (by omega) hf
  have e0 : ([0] : List Int) = row [] := by simp [row, fL_nil]
  have := l0 3 0 [] (by omega) ⟨vL_nil, by rw [mL_nil]; omega, by rw [size_nil]; omega⟩
  rw [← e0] at this
  exact ev_succ (fun k => spec_l8Ord.f_eq k _ _) this
def allOV (ords : List (List Int)) : Bool := decide (ords.length = 3) && ords.all OV
theorem ordsOf_ev (ords : List (List Int)) (hl : ords.length < 1000000000) : EvP (fun k => impl_ordsOf.f k ords) (fun x => x.2 = allOV ords ∧ (allOV ords = true → x.1 = ords.map tr)) := by
  have loop : ∀ (d i : Nat) (acc : List (List Term)), i + d = ords.length → acc = (ords.take i).map tr → (ords.take i).all OV = true → EvP (fun k => impl_ordsOf.l0 k acc ords (ords.length : Int) (i : Int)) (fun x => x.2 = allOV ords ∧ (allOV ords = true → x.1 = ords.map tr)) := by
    intro d
    induction d with
    | zero =>
      intro i acc hi ha hv
      rw [List.take_of_length_le (by omega)] at ha hv
      refine evp_succ (fun k => impl_ordsOf.l0_eq k _ _ _ _) (evp_d (fun h => by omega) (fun _ => evp_some ⟨?_, fun _ => ha⟩))
      unfold allOV
      rw [hv, Bool.and_true, ha]
      show decide ((((ords.map tr).length : Nat) : Int) = 3) = _
      rw [List.length_map]
      by_cases h : ords.length = 3
      · rw [decide_eq_true h]; exact decide_eq_true (by omega)
      · rw [decide_eq_false h]; exact decide_eq_false (by omega)
    | succ d ih =>
      intro i acc hi ha hv
      have hlt : i < ords.length := by omega
      have hal : acc.length = i := by rw [ha, List.length_map, List.length_take]; omega
      refine evp_succ (fun k => impl_ordsOf.l0_eq k _ _ _ _) (evp_d (fun _ => evp_gd (by omega) ?_) (fun h => by omega))
      rw [get_at hlt, w_succ (by omega)]
      refine evp_bind (ordOf_tr _) (fun x ⟨x1, x2⟩ => ?_)
      rw [x1]
      cases ho : OV ords[i] with
      | false =>
        have : allOV ords = false := by
          unfold allOV
          rw [Bool.and_eq_false_iff]
          right
          rw [List.all_eq_false]
          exact ⟨_, List.getElem_mem hlt, by rw [ho]; exact Bool.false_ne_true⟩
        exact evp_b (fun _ => evp_some ⟨this.symm, fun h => by rw [this] at h; cases h⟩) (fun h => by cases h)
      | true =>
        refine evp_b (fun h => by cases h) (fun _ => evp_gd (by rw [hal, limE]; simp; omega) ?_)
        refine ih (i + 1) _ (by omega) ?_ ?_
        · rw [← List.take_append_getElem hlt, List.map_append, ← ha, x2 ho]; rfl
        · rw [← List.take_append_getElem hlt, List.all_append, hv]
          simp [ho]
  exact evp_succ (fun k => impl_ordsOf.f_eq k _) (loop ords.length 0 [] (by omega) (by simp) (by simp))
theorem allOV_rows {ords : List (List Int)} (h : allOV ords = true) : ords.length = 3 ∧ (ords.map tr).length = 3 ∧ ords = (ords.map tr).map row ∧ ∀ x ∈ ords.map tr, Fit x := by
  unfold allOV at h
  simp only [Bool.and_eq_true, decide_eq_true_eq, List.all_eq_true] at h
  refine ⟨h.1, by rw [List.length_map]; exact h.1, ?_, fun x hx => ?_⟩
  · rw [List.map_map]
    have : ords.map (row ∘ tr) = ords.map id := List.map_congr_left fun r hr => (tr_fit (h.2 r hr)).1.symm
    rw [this, List.map_id]
  · obtain ⟨r, hr, rfl⟩ := List.mem_map.1 hx
    exact (tr_fit (h.2 r hr)).2
def hoV (hs : List Int) (ords : List (List Int)) : List Int × Bool := if vh 40 hs = true ∧ allOV ords = true then toldV (hO hs (ords.map tr) []) else ([], false)
theorem implHO_ev (hs : List Int) (ords : List (List Int)) (h1 : hs.length < 1000000000) (h2 : ords.length < 1000000000) : Ev (fun k => impl_HeapsOrd.f k hs ords) (hoV hs ords) := by
  obtain ⟨x, x1, x2, x3⟩ := ordsOf_ev ords h2
  refine ev_succ (fun k => impl_HeapsOrd.f_eq k _ _) (ev_bind (ev_succ (fun k => impl_HeapsValid.f_eq k _) (ev_bind (thingsOk_ev hs 40 (by omega)) (ev_some.2 rfl))) ?_)
  unfold hoV
  cases hv : vh 40 hs with
  | false => exact ev_nt rfl (ev_some.2 (by simp))
  | true =>
    refine ev_nf rfl (ev_bind x1 ?_)
    rw [x2]
    cases ho : allOV ords with
    | false => exact ev_nt rfl (ev_some.2 (by simp))
    | true =>
      obtain ⟨a1, a2⟩ := vh_len hv
      obtain ⟨b1, b2, b3, b4⟩ := allOV_rows ho
      rw [x3 ho, if_pos ⟨rfl, rfl⟩]
      exact ev_nf rfl (ev_bind (heapsOrd_ev hs _ a1 b2 a2 b4) (ev_some.2 rfl))
theorem specHO_ev (hs : List Int) (ords : List (List Int)) (h1 : hs.length < 1000000000) : Ev (fun k => spec_HeapsOrd.f k hs ords) (hoV hs ords) := by
  refine ev_succ (fun k => spec_HeapsOrd.f_eq k _ _) (ev_bind (ev_succ (fun k => spec_HeapsValid.f_eq k _) (ev_bind (l8List_ev hs 40 (by omega)) (ev_some.2 rfl))) ?_)
  unfold hoV
  cases hv : vh 40 hs with
  | false => exact ev_nt rfl (ev_some.2 (by simp))
  | true =>
    refine ev_nf rfl ?_
    by_cases h3 : ords.length = 3
    · refine ev_nf (decide_eq_true (by omega)) ?_
      have fin : allOV ords = true → Ev (fun k => (spec_l8Ord.f k hs ords).bind fun r3 => some (r3, decide ((r3.length : Int) > 0))) (toldV (hO hs (ords.map tr) [])) := by
        intro ho
        obtain ⟨a1, a2⟩ := vh_len hv
        obtain ⟨b1, b2, b3, b4⟩ := allOV_rows ho
        have := l8Ord_ev hs _ a1 b2 a2 b4
        rw [← b3] at this
        refine ev_bind this (ev_some.2 ?_)
        unfold sumV toldV
        split
        · have := size_pos (hO hs (ords.map tr) [])
          rw [row_len, decide_eq_true (by omega)]
        · rfl
      have loop : ∀ d i : Nat, i + d = 3 → (ords.take i).all OV = true → Ev (fun k => spec_HeapsOrd.l0 k hs ords (i : Int)) (if true = true ∧ allOV ords = true then toldV (hO hs (ords.map tr) []) else ([], false)) := by
        intro d
        induction d with
        | zero =>
          intro i hi hall
          rw [List.take_of_length_le (by omega)] at hall
          have ho : allOV ords = true := by unfold allOV; rw [hall, decide_eq_true h3]; rfl
          rw [if_pos ⟨rfl, ho⟩]
          exact ev_succ (fun k => spec_HeapsOrd.l0_eq k _ _ _) (ev_df (by omega) (fin ho))
        | succ d ih =>
          intro i hi hall
          have hlt : i < ords.length := by omega
          refine ev_succ (fun k => spec_HeapsOrd.l0_eq k _ _ _) (ev_dt (by omega) (ev_gd (by omega) ?_))
          rw [get_at hlt, w_succ (by omega)]
          refine ev_bind (valid_ev _) ?_
          cases ho : OV ords[i] with
          | false =>
            have : allOV ords = false := by
              unfold allOV
              rw [Bool.and_eq_false_iff]
              right
              rw [List.all_eq_false]
              exact ⟨_, List.getElem_mem hlt, by rw [ho]; exact Bool.false_ne_true⟩
            rw [this]
            exact ev_nt rfl (ev_some.2 (by simp))
          | true =>
            refine ev_nf rfl (ih (i + 1) (by omega) ?_)
            rw [← List.take_append_getElem hlt, List.all_append, hall]
            simp [ho]
      exact loop 3 0 (by omega) (by simp)
    · have : allOV ords = false := by unfold allOV; rw [decide_eq_false h3]; rfl
      rw [this]
      exact ev_nt (decide_eq_false (by omega)) (ev_some.2 (by simp))
/-! Rows of anything, filled. -/
theorem at_nat {α : Type} {l : List α} {i : Nat} {d : α} (h : i < l.length) : l.getD (i : Int).toNat d = l[i] := by
  rw [Int.toNat_natCast, List.getD_eq_getElem?_getD, List.getElem?_eq_getElem h]
  rfl
theorem fill_len {α : Type} {l : List α} {z : α} {i d : Nat} (h : i + d = l.length) : (l.take i ++ List.replicate d z).length = l.length := by simp; omega
theorem fill_step {α : Type} {l : List α} {z : α} {i d : Nat} (h : i + (d + 1) = l.length) (hlt : i < l.length) : (l.take i ++ List.replicate (d + 1) z).set (i : Int).toNat l[i] = l.take (i + 1) ++ List.replicate d z := by
  rw [Int.toNat_natCast, List.set_append_right _ _ (by simp; omega), List.length_take, Nat.min_eq_left (by omega), Nat.sub_self, List.replicate_succ, List.set_cons_zero, ← List.take_append_getElem hlt, List.append_assoc]
  rfl
def RowOk (l : List Int) : Prop := l.length ≤ 1048576
def TrOk (t : Trade) : Prop := RowOk t.f0 ∧ RowOk t.f1
/-! Copies of rows of numbers, and rows held against each other. -/
/-! The size of a row of numbers. -/
/-! Trades, copied, sized and held against each other. -/
/-! Rows of rows, copied, sized and held against each other. -/
theorem ordCompare_ev {x y : List Term} (hx : Fit x) (hy : Fit y) : Ev (fun k => impl_OrdCompare.f k (row x) (row y)) (cL x y) := by
  obtain ⟨⟨a, p⟩, a1, a2, a3⟩ := ordOf_tr (row x)
  obtain ⟨⟨b, q⟩, b1, b2, b3⟩ := ordOf_tr (row y)
  simp only at a2 a3 b2 b3
  rw [hx.ov] at a2
  rw [hy.ov] at b2
  have ea := a3 hx.ov
  have eb := b3 hy.ov
  rw [tr_row hx] at ea
  rw [tr_row hy] at eb
  subst a2 b2 ea eb
  have := hx.s
  have := hy.s
  exact ev_succ (fun k => impl_OrdCompare.f_eq k _ _) (ev_bind a1 (ev_bind b1 (ev_nf rfl (ev_nf rfl (ev_bind (compare_ev a b (by omega) (by omega)) (ev_some.2 rfl))))))
/-! Rules that are valid. -/
def tv (t : Trade) : Bool := vh 5 t.f0 && vh 5 t.f1
def tsV (ts : List Trade) : Bool := ts.all tv && decide (ts.length ≤ 4)
theorem tsV_of {ts : List Trade} (h : tsV ts = true) : (∀ t ∈ ts, tv t = true) ∧ ts.length ≤ 4 := by
  unfold tsV at h
  rw [Bool.and_eq_true, List.all_eq_true, decide_eq_true_eq] at h
  exact h
theorem vh_mono {l : List Int} (h : vh 5 l = true) : vh 40 l = true := by
  unfold vh at h ⊢
  rw [Bool.and_eq_true, List.all_eq_true] at h ⊢
  refine ⟨h.1, fun n hn => ?_⟩
  have := h.2 n hn
  simp only [Bool.and_eq_true, decide_eq_true_eq] at this ⊢
  omega
theorem implTV_ev (t : Trade) (h : TrOk t) : Ev (fun k => impl_TradeValid.f k t) (tv t) := by
  have h0 := h.1
  have h1 := h.2
  unfold RowOk at h0 h1
  refine ev_succ (fun k => impl_TradeValid.f_eq k _) (ev_bind (thingsOk_ev _ 5 (by omega)) ?_)
  unfold tv
  cases vh 5 t.f0 with
  | false => exact ev_bf rfl (ev_some.2 rfl)
  | true => exact ev_bt rfl (ev_bind (thingsOk_ev _ 5 (by omega)) (ev_some.2 rfl))
theorem specTV_ev (t : Trade) (h : TrOk t) : Ev (fun k => spec_TradeValid.f k t) (tv t) := by
  have h0 := h.1
  have h1 := h.2
  unfold RowOk at h0 h1
  refine ev_succ (fun k => spec_TradeValid.f_eq k _) (ev_bind (l8List_ev _ 5 (by omega)) ?_)
  unfold tv
  cases vh 5 t.f0 with
  | false => exact ev_bf rfl (ev_some.2 rfl)
  | true => exact ev_bt rfl (ev_bind (l8List_ev _ 5 (by omega)) (ev_some.2 rfl))
theorem all_at {α : Type} {p : α → Bool} {l : List α} {i : Nat} (h : i < l.length) : (l.drop i).all p = (p l[i] && (l.drop (i + 1)).all p) := by
  rw [List.drop_eq_getElem_cons h, List.all_cons]
theorem implTsV_ev (a : List Trade) (hl : a.length ≤ 1048576) (hr : ∀ r ∈ a, TrOk r) : Ev (fun k => impl_TradesValid.f k a) (tsV a) := by
  have loop : ∀ d i : Nat, i + d = a.length → Ev (fun k => impl_TradesValid.l0 k a a (a.length : Int) (i : Int)) ((a.drop i).all tv && decide (a.length ≤ 4)) := by
    intro d
    induction d with
    | zero =>
      intro i hi
      refine ev_succ (fun k => impl_TradesValid.l0_eq k _ _ _ _) (ev_df (by omega) (ev_some.2 ?_))
      rw [List.drop_eq_nil_of_le (by omega)]
      show _ = (true && _)
      rw [Bool.true_and]
      exact decide_eq_decide.2 (by omega)
    | succ d ih =>
      intro i hi
      have hlt : i < a.length := by omega
      refine ev_succ (fun k => impl_TradesValid.l0_eq k _ _ _ _) (ev_dt (by omega) (ev_gd (by omega) ?_))
      rw [at_nat hlt, w_succ (by omega), all_at hlt]
      refine ev_bind (implTV_ev _ (hr _ (List.getElem_mem hlt))) ?_
      cases tv a[i] with
      | false => exact ev_nt rfl (ev_some.2 rfl)
      | true => rw [Bool.true_and]; exact ev_nf rfl (ih (i + 1) (by omega))
  exact ev_succ (fun k => impl_TradesValid.f_eq k _) (loop a.length 0 (by omega))
theorem specTsV_ev (a : List Trade) (hl : a.length ≤ 1048576) (hr : ∀ r ∈ a, TrOk r) : Ev (fun k => spec_TradesValid.f k a) (tsV a) := by
  have loop : ∀ d i : Nat, i + d = a.length → Ev (fun k => spec_TradesValid.l0 k a (i : Int)) ((a.drop i).all tv && decide (a.length ≤ 4)) := by
    intro d
    induction d with
    | zero =>
      intro i hi
      refine ev_succ (fun k => spec_TradesValid.l0_eq k _ _) (ev_df (by omega) (ev_some.2 ?_))
      rw [List.drop_eq_nil_of_le (by omega)]
      show _ = (true && _)
      rw [Bool.true_and]
      exact decide_eq_decide.2 (by omega)
    | succ d ih =>
      intro i hi
      have hlt : i < a.length := by omega
      refine ev_succ (fun k => spec_TradesValid.l0_eq k _ _) (ev_dt (by omega) (ev_gd (by omega) ?_))
      rw [at_nat hlt, w_succ (by omega), all_at hlt]
      refine ev_bind (specTV_ev _ (hr _ (List.getElem_mem hlt))) ?_
      cases tv a[i] with
      | false => exact ev_nt rfl (ev_some.2 rfl)
      | true => rw [Bool.true_and]; exact ev_nf rfl (ih (i + 1) (by omega))
  exact ev_succ (fun k => spec_TradesValid.f_eq k _) (loop a.length 0 (by omega))
/-! Whether trading comes to its end. -/
def hz (hs : List Int) (ords : List (List Int)) : List Term := hO hs (ords.map tr) []
def tgood (ords : List (List Int)) (t : Trade) : Bool := (toldV (hz t.f1 ords)).2 && (toldV (hz t.f0 ords)).2 && decide (cL (hz t.f1 ords) (hz t.f0 ords) < 0)
theorem hz_v {hs : List Int} {ords : List (List Int)} (ho : allOV ords = true) : vL (hz hs ords) := by
  obtain ⟨_, _, _, b4⟩ := allOV_rows ho
  exact hO_v hs _ [] (fun x hx => (b4 x hx).v) vL_nil
theorem toldV_yes {z : List Term} (hv : vL z) (h : (toldV z).2 = true) : Fit z ∧ toldV z = (row z, true) := by
  unfold toldV at h ⊢
  split at h
  · rename_i hc; exact ⟨⟨hv, hc.1, hc.2⟩, by rw [if_pos hc]⟩
  · cases h
def endV (ts : List Trade) (ords : List (List Int)) : Bool := allOV ords && tsV ts && ts.all (tgood ords)
theorem implEnd_ev (a : List Trade) (ords : List (List Int)) (hl : a.length ≤ 1048576) (hr : ∀ r ∈ a, TrOk r) (h2 : ords.length ≤ 1048576) : Ev (fun k => impl_TradesEnd.f k a ords) (endV a ords) := by
  obtain ⟨x, x1, x2, x3⟩ := ordsOf_ev ords (by omega)
  refine ev_succ (fun k => impl_TradesEnd.f_eq k _ _) (ev_bind x1 ?_)
  rw [x2]
  unfold endV
  cases ho : allOV ords with
  | false => exact ev_nt rfl (ev_some.2 rfl)
  | true =>
    rw [x3 ho]
    refine ev_nf rfl (ev_bind (implTsV_ev a hl hr) ?_)
    cases ht : tsV a with
    | false => exact ev_nt rfl (ev_some.2 rfl)
    | true =>
      obtain ⟨b1, b2, b3, b4⟩ := allOV_rows ho
      have hall : ∀ t ∈ a, tv t = true := by
        unfold tsV at ht
        rw [Bool.and_eq_true, List.all_eq_true] at ht
        exact ht.1
      have loop : ∀ d i : Nat, i + d = a.length → Ev (fun k => impl_TradesEnd.l0 k (ords.map tr) a (a.length : Int) (i : Int)) ((a.drop i).all (tgood ords)) := by
        intro d
        induction d with
        | zero =>
          intro i hi
          refine ev_succ (fun k => impl_TradesEnd.l0_eq k _ _ _ _) (ev_df (by omega) (ev_some.2 ?_))
          rw [List.drop_eq_nil_of_le (by omega)]
          rfl
        | succ d ih =>
          intro i hi
          have hlt : i < a.length := by omega
          have htv := hall _ (List.getElem_mem hlt)
          unfold tv at htv
          rw [Bool.and_eq_true] at htv
          obtain ⟨c1, c2⟩ := vh_len (vh_mono htv.1)
          obtain ⟨d1, d2⟩ := vh_len (vh_mono htv.2)
          refine ev_succ (fun k => impl_TradesEnd.l0_eq k _ _ _ _) (ev_dt (by omega) (ev_gd (by omega) ?_))
          rw [at_nat hlt, w_succ (by omega), all_at hlt]
          refine ev_bind (heapsOrd_ev _ _ d1 b2 d2 b4) (ev_bind (heapsOrd_ev _ _ c1 b2 c2 b4) ?_)
          unfold tgood
          show Ev (fun k => br (!(toldV (hz a[i].f1 ords)).2) _ (br (!(toldV (hz a[i].f0 ords)).2) _ ((impl_OrdCompare.f k (toldV (hz a[i].f1 ords)).1 (toldV (hz a[i].f0 ords)).1).bind _))) _
          cases h1 : (toldV (hz a[i].f1 ords)).2 with
          | false => exact ev_nt rfl (ev_some.2 rfl)
          | true =>
            refine ev_nf rfl ?_
            cases h0 : (toldV (hz a[i].f0 ords)).2 with
            | false => exact ev_nt rfl (ev_some.2 rfl)
            | true =>
              obtain ⟨f1, e1⟩ := toldV_yes (hz_v ho) h1
              obtain ⟨f0, e0⟩ := toldV_yes (hz_v ho) h0
              rw [e1, e0]
              refine ev_nf rfl (ev_bind (ordCompare_ev f1 f0) ?_)
              by_cases hc : cL (hz a[i].f1 ords) (hz a[i].f0 ords) < 0
              · refine ev_df (by omega) ?_
                rw [decide_eq_true hc]
                exact ih (i + 1) (by omega)
              · refine ev_dt (by omega) (ev_some.2 ?_)
                rw [decide_eq_false hc]
                rfl
      exact ev_nf rfl (loop a.length 0 (by omega))
theorem hz_zero {ords : List (List Int)} (h : ords.length = 3) : hz [0, 0, 0] ords = [] := by
  match ords, h with
  | [a, b, c], _ => rfl
theorem zeros_ev (ords : List (List Int)) : Ev (fun k => spec_HeapsOrd.f k (List.replicate (3 : Int).toNat 0) ords) (hoV [0, 0, 0] ords) := specHO_ev [0, 0, 0] ords (by simp)
theorem hoV_zero (ords : List (List Int)) : (hoV [0, 0, 0] ords).2 = allOV ords := by
  unfold hoV
  cases ho : allOV ords with
  | false => simp
  | true =>
    have e := hz_zero (allOV_rows ho).1
    unfold hz at e
    rw [if_pos ⟨by decide, rfl⟩, e]
    unfold toldV
    rw [if_pos ⟨by rw [mL_nil]; omega, by rw [size_nil]; omega⟩]
theorem specEnd_ev (a : List Trade) (ords : List (List Int)) (hl : a.length ≤ 1048576) (hr : ∀ r ∈ a, TrOk r) : Ev (fun k => spec_TradesEnd.f k a ords) (endV a ords) := by
  have tail : ∀ b : Bool, (allOV ords = true → tsV a = true → b = true) → Ev (fun k => gate (decide (0 ≤ (3 : Int) ∧ (3 : Int).toNat < lim ∧ (3 : Int) = 3)) <| (spec_HeapsOrd.f k (List.replicate (3 : Int).toNat 0) ords).bind fun r7 => br (r7.2) ((spec_TradesValid.f k a).bind fun r8 => some r8) (some false)) (allOV ords && tsV a && b) := by
    intro b hb
    refine ev_gd (by decide) (ev_bind (zeros_ev ords) ?_)
    rw [hoV_zero]
    cases ho : allOV ords with
    | false => exact ev_bf rfl (ev_some.2 rfl)
    | true =>
      refine ev_bt rfl (ev_bind (specTsV_ev a hl hr) (ev_some.2 ?_))
      cases ht : tsV a with
      | false => rfl
      | true => rw [hb ho ht]; rfl
  have loop : ∀ d i : Nat, i + d = a.length → Ev (fun k => spec_TradesEnd.l0 k a ords (i : Int)) (allOV ords && tsV a && (a.drop i).all (tgood ords)) := by
    intro d
    induction d with
    | zero =>
      intro i hi
      refine ev_succ (fun k => spec_TradesEnd.l0_eq k _ _ _) (ev_df (by omega) ?_)
      rw [List.drop_eq_nil_of_le (by omega)]
      exact tail true (fun _ _ => rfl)
    | succ d ih =>
      intro i hi
      have hlt : i < a.length := by omega
      refine ev_succ (fun k => spec_TradesEnd.l0_eq k _ _ _) (ev_dt (by omega) (ev_bind (specTsV_ev a hl hr) ?_))
      cases ht : tsV a with
      | false =>
        refine ev_bf rfl ?_
        have := tail ((a.drop i).all (tgood ords)) (fun _ h => by rw [ht] at h; cases h)
        rw [ht] at this
        exact this
      | true =>
        have htv : tv a[i] = true := by
          unfold tsV at ht
          rw [Bool.and_eq_true, List.all_eq_true] at ht
          exact ht.1 _ (List.getElem_mem hlt)
        have hok := hr _ (List.getElem_mem hlt)
        have q0 := hok.1
        have q1 := hok.2
        unfold RowOk at q0 q1
        unfold tv at htv
        rw [Bool.and_eq_true] at htv
        refine ev_bt rfl (ev_gd (by omega) ?_)
        rw [at_nat hlt]
        refine ev_bind (specHO_ev _ ords (by omega)) (ev_gd (by omega) (ev_bind (specHO_ev _ ords (by omega)) ?_))
        cases ho : allOV ords with
        | false =>
          have e : hoV a[i].f0 ords = ([], false) := by unfold hoV; rw [ho]; simp
          rw [e]
          exact ev_nt rfl (ev_some.2 rfl)
        | true =>
          have e0 : hoV a[i].f0 ords = toldV (hz a[i].f0 ords) := by unfold hoV hz; rw [if_pos ⟨vh_mono htv.1, ho⟩]
          have e1 : hoV a[i].f1 ords = toldV (hz a[i].f1 ords) := by unfold hoV hz; rw [if_pos ⟨vh_mono htv.2, ho⟩]
          rw [e0, e1, all_at hlt]
          unfold tgood
          cases h0 : (toldV (hz a[i].f0 ords)).2 with
          | false => exact ev_nt rfl (ev_some.2 (by simp))
          | true =>
            refine ev_nf rfl ?_
            cases h1 : (toldV (hz a[i].f1 ords)).2 with
            | false => exact ev_nt rfl (ev_some.2 (by simp))
            | true =>
              obtain ⟨f1, e1⟩ := toldV_yes (hz_v ho) h1
              obtain ⟨f0, e0⟩ := toldV_yes (hz_v ho) h0
              have s1 := f1.s
              have s0 := f0.s
              rw [e1, e0]
              refine ev_nf rfl (ev_bind (scompare_ev _ _ (by omega) (by omega)) ?_)
              by_cases hc : cL (hz a[i].f1 ords) (hz a[i].f0 ords) < 0
              · refine ev_df (by omega) ?_
                rw [decide_eq_true hc, w_succ (by omega)]
                have := ih (i + 1) (by omega)
                rw [ho, ht] at this
                exact this
              · refine ev_dt (by omega) (ev_some.2 ?_)
                rw [decide_eq_false hc]
                rfl
  exact ev_succ (fun k => spec_TradesEnd.f_eq k _ _) (loop a.length 0 (by omega))
theorem sameInts_l0 (l : List Int) (hl : l.length < 9223372036854775807) : ∀ d i : Nat, i + d = l.length → Ev (fun k => laws_sameInts.l0 k l l (i : Int)) true := by
  intro d
  induction d with
  | zero =>
    intro i hi
    exact ev_succ (fun k => laws_sameInts.l0_eq k _ _ _) (ev_df (by omega) (ev_some.2 rfl))
  | succ d ih =>
    intro i hi
    refine ev_succ (fun k => laws_sameInts.l0_eq k _ _ _) (ev_dt (by omega) (ev_gd (by omega) (ev_gd (by omega) (ev_nf (by simp) ?_))))
    rw [w_succ (by omega)]
    exact ih (i + 1) (by omega)
theorem sameInts_self (l : List Int) (hl : l.length < 9223372036854775807) : Ev (fun k => laws_sameInts.f k l l) true :=
  ev_succ (fun k => laws_sameInts.f_eq k _ _) (ev_nf (by simp) (sameInts_l0 l hl l.length 0 (by omega)))
theorem sameInts_any (a b : List Int) (ha : a.length < 9223372036854775807) : Ev (fun k => laws_sameInts.f k a b) (decide (a = b)) := by
  by_cases hl : a.length = b.length
  · have loop : ∀ d i : Nat, i + d = a.length → Ev (fun k => laws_sameInts.l0 k a b (i : Int)) (decide (a.drop i = b.drop i)) := by
      intro d
      induction d with
      | zero =>
        intro i hi
        refine ev_succ (fun k => laws_sameInts.l0_eq k _ _ _) (ev_df (by omega) (ev_some.2 ?_))
        rw [List.drop_eq_nil_of_le (by omega), List.drop_eq_nil_of_le (by omega)]
        simp
      | succ d ih =>
        intro i hi
        have h1 : i < a.length := by omega
        have h2 : i < b.length := by omega
        refine ev_succ (fun k => laws_sameInts.l0_eq k _ _ _) (ev_dt (by omega) (ev_gd (by omega) (ev_gd (by omega) ?_)))
        rw [get_nat h1, get_nat h2, w_succ (by omega), List.drop_eq_getElem_cons h1, List.drop_eq_getElem_cons h2]
        by_cases he : a[i] = b[i]
        · refine ev_nf (decide_eq_true he) ?_
          have := ih (i + 1) (by omega)
          rw [he]
          simp only [List.cons.injEq, true_and]
          exact this
        · refine ev_nt (decide_eq_false he) (ev_some.2 ?_)
          exact (decide_eq_false (fun h => he (by injection h))).symm
    have := loop a.length 0 (by omega)
    exact ev_succ (fun k => laws_sameInts.f_eq k _ _) (ev_nf (decide_eq_true (by omega)) this)
  · refine ev_succ (fun k => laws_sameInts.f_eq k _ _) (ev_nt (decide_eq_false (by omega)) (ev_some.2 ?_))
    have : a ≠ b := fun h => hl (by rw [h])
    simp [this]
/-! Exchanges: one, all that can be done, and rows of them. -/
def mvL : List Int → List Int → List Int → Option (List Int)
  | [], _, _ => some []
  | h :: hs, t :: ts, g :: gs => if h < t then none else if h - t + g > 40 then none else (mvL hs ts gs).map ((h - t + g) :: ·)
  | _, _, _ => none
def mvS : List Int → List Int → List Int → Option (List Int)
  | [], _, _ => some []
  | h :: hs, t :: ts, g :: gs => if h < t then none else (mvS hs ts gs).map ((h - t + g) :: ·)
  | _, _, _ => none
def mvR (o : Option (List Int)) : List Int × Bool := match o with
  | some l => (l, true)
  | none => ([], false)
def mvV (h : List Int) (t : Trade) : List Int × Bool := mvR (mvL h t.f0 t.f1)
theorem mvL_S : ∀ (h t g : List Int), mvL h t g = (mvS h t g).bind fun l => if (l.all fun n => decide (n ≤ 40)) = true then some l else none
  | [], _, _ => by simp [mvL, mvS]
  | h :: hs, t :: ts, g :: gs => by
    rw [mvL, mvS]
    split
    · rfl
    · rw [mvL_S hs ts gs]
      cases hq : mvS hs ts gs with
      | none => simp
      | some l =>
        by_cases h4 : h - t + g > 40
        · rw [if_pos h4]
          have : ¬ h - t + g ≤ 40 := by omega
          simp [this]
        · rw [if_neg h4]
          have : h - t + g ≤ 40 := by omega
          by_cases ha : (l.all fun n => decide (n ≤ 40)) = true
          · simp only [Option.map_some, Option.bind_some, if_pos ha, List.all_cons, decide_eq_true this, Bool.true_and]
          · simp only [Option.map_some, Option.bind_some, if_neg ha, List.all_cons, decide_eq_true this, Bool.true_and, Option.map_none]
  | _ :: _, [], _ => by simp [mvL, mvS]
  | _ :: _, _ :: _, [] => by simp [mvL, mvS]
theorem mvS_ok : ∀ {h t g l : List Int}, mvS h t g = some l → (∀ n ∈ g, 0 ≤ n) → l.length = h.length ∧ ∀ n ∈ l, 0 ≤ n
  | [], _, _, l, e, _ => by simp [mvS] at e; subst e; simp
  | h :: hs, t :: ts, g :: gs, l, e, hg => by
    rw [mvS] at e
    split at e
    · cases e
    · rw [Option.map_eq_some_iff] at e
      obtain ⟨r, h1, rfl⟩ := e
      obtain ⟨i1, i2⟩ := mvS_ok h1 (fun n hn => hg n (List.mem_cons_of_mem _ hn))
      have := hg g (List.mem_cons_self ..)
      refine ⟨by simp [i1], fun n hn => ?_⟩
      rcases List.mem_cons.1 hn with rfl | hn
      · omega
      · exact i2 n hn
  | _ :: _, [], _, _, e, _ => by simp [mvS] at e
  | _ :: _, _ :: _, [], _, e, _ => by simp [mvS] at e
theorem tv_of {t : Trade} (h : tv t = true) : (t.f0.length = 3 ∧ ∀ n ∈ t.f0, 0 ≤ n ∧ n ≤ 40) ∧ (t.f1.length = 3 ∧ ∀ n ∈ t.f1, 0 ≤ n ∧ n ≤ 40) := by
  unfold tv at h
  rw [Bool.and_eq_true] at h
  exact ⟨vh_len (vh_mono h.1), vh_len (vh_mono h.2)⟩
theorem vh_mk {l : List Int} (h : l.length = 3) (h2 : ∀ n ∈ l, 0 ≤ n) : vh 40 l = (l.all fun n => decide (n ≤ 40)) := by
  unfold vh
  rw [decide_eq_true h, Bool.true_and]
  rw [Bool.eq_iff_iff, List.all_eq_true, List.all_eq_true]
  constructor
  · intro h1 n hn; have := h1 n hn; simp at this ⊢; exact this.2
  · intro h1 n hn; have := h1 n hn; have := h2 n hn; simp at *; omega
theorem mvV_ok {h : List Int} {t : Trade} (hh : vh 40 h = true) (ht : tv t = true) (hd : (mvV h t).2 = true) : vh 40 (mvV h t).1 = true := by
  obtain ⟨h3, h0⟩ := vh_len hh
  obtain ⟨⟨t3, t0⟩, g3, g0⟩ := tv_of ht
  unfold mvV at hd ⊢
  rw [mvL_S] at hd ⊢
  cases hs : mvS h t.f0 t.f1 with
  | none => rw [hs] at hd; simp [mvR] at hd
  | some l =>
    rw [hs] at hd
    obtain ⟨e1, e2⟩ := mvS_ok hs (fun n hn => (g0 n hn).1)
    simp only [Option.bind_some] at hd ⊢
    by_cases ha : (l.all fun n => decide (n ≤ 40)) = true
    · rw [if_pos ha] at hd ⊢
      show vh 40 l = true
      rw [vh_mk (by omega) e2]; exact ha
    · rw [if_neg ha] at hd; simp [mvR] at hd
theorem traded_ev {h : List Int} {t : Trade} (hh : vh 40 h = true) (ht : tv t = true) : Ev (fun k => impl_traded.f k h t) (mvV h t) := by
  obtain ⟨h3, h0⟩ := vh_len hh
  obtain ⟨⟨t3, t0⟩, g3, g0⟩ := tv_of ht
  have loop : ∀ (d i : Nat) (acc : List Int), i + d = 3 → acc.length = i → Ev (fun k => impl_traded.l0 k t acc h (h.length : Int) (i : Int)) (mvR ((mvL (h.drop i) (t.f0.drop i) (t.f1.drop i)).map (acc ++ ·))) := by
    intro d
    induction d with
    | zero =>
      intro i acc hi ha
      refine ev_succ (fun k => impl_traded.l0_eq k _ _ _ _ _) (ev_df (by omega) (ev_some.2 ?_))
      rw [List.drop_eq_nil_of_le (show h.length ≤ i by omega)]
      simp [mvL, mvR]
    | succ d ih =>
      intro i acc hi ha
      have l1 : i < h.length := by omega
      have l2 : i < t.f0.length := by omega
      have l3 : i < t.f1.length := by omega
      have b1 := h0 h[i] (List.getElem_mem l1)
      have b2 := t0 t.f0[i] (List.getElem_mem l2)
      have b3 := g0 t.f1[i] (List.getElem_mem l3)
      refine ev_succ (fun k => impl_traded.l0_eq k _ _ _ _ _) (ev_dt (by omega) (ev_gd (by omega) (ev_gd (by omega) ?_)))
      rw [get_nat l1, get_nat l2, get_nat l3, List.drop_eq_getElem_cons l1, List.drop_eq_getElem_cons l2, List.drop_eq_getElem_cons l3, mvL]
      rw [w64 (x := h[i] - t.f0[i]) (by omega) (by omega), w64 (x := h[i] - t.f0[i] + t.f1[i]) (by omega) (by omega)]
      by_cases c1 : h[i] < t.f0[i]
      · rw [if_pos c1]; exact ev_dt c1 (ev_some.2 rfl)
      · rw [if_neg c1]
        refine ev_df c1 (ev_gd (by omega) (ev_gd (by omega) ?_))
        by_cases c2 : h[i] - t.f0[i] + t.f1[i] > 40
        · rw [if_pos c2]; exact ev_dt c2 (ev_some.2 rfl)
        · rw [if_neg c2]
          refine ev_df c2 (ev_gd (by omega) (ev_gd (by omega) (ev_gd (by rw [ha, limE]; simp; omega) ?_)))
          rw [w_succ (by omega)]
          have := ih (i + 1) (acc ++ [h[i] - t.f0[i] + t.f1[i]]) (by omega) (by simp [ha])
          refine ev_eq this ?_
          rw [Option.map_map]
          congr 2
          funext l
          simp
  have := loop 3 0 [] (by omega) rfl
  refine ev_succ (fun k => impl_traded.f_eq k _ _) (ev_eq this ?_)
  unfold mvV
  congr 1
  simp
theorem sDoT_ev (h : List Int) (t : Trade) (hl : h.length ≤ 1000000000) (hr : TrOk t) : Ev (fun k => spec_TradeDo.f k h t) (if vh 40 h = true ∧ tv t = true then mvV h t else ([], false)) := by
  have r0 := hr.1
  have r1 := hr.2
  unfold RowOk at r0 r1
  refine ev_succ (fun k => spec_TradeDo.f_eq k _ _) (ev_bind (ev_succ (fun k => spec_HeapsValid.f_eq k _) (ev_bind (l8List_ev h 40 (by omega)) (ev_some.2 rfl))) ?_)
  cases hh : vh 40 h with
  | false => exact ev_nt rfl (ev_some.2 (by simp))
  | true =>
    refine ev_nf rfl (ev_bind (specTV_ev t hr) ?_)
    cases ht : tv t with
    | false => exact ev_nt rfl (ev_some.2 (by simp))
    | true =>
      refine ev_nf rfl ?_
      rw [if_pos ⟨rfl, rfl⟩]
      obtain ⟨h3, h0⟩ := vh_len hh
      obtain ⟨⟨t3, t0⟩, g3, g0⟩ := tv_of ht
      have loop : ∀ (d i : Nat) (acc : List Int), i + d = 3 → acc.length = i → (∀ n ∈ acc, 0 ≤ n) → Ev (fun k => spec_TradeDo.l0 k h t acc (i : Int)) (match mvS (h.drop i) (t.f0.drop i) (t.f1.drop i) with
          | some l => if vh 40 (acc ++ l) = true then (acc ++ l, true) else ([], false)
          | none => ([], false)) := by
        intro d
        induction d with
        | zero =>
          intro i acc hi ha hn
          refine ev_succ (fun k => spec_TradeDo.l0_eq k _ _ _ _) (ev_df (by omega) (ev_bind (ev_succ (fun k => spec_HeapsValid.f_eq k _) (ev_bind (l8List_ev acc 40 (by omega)) (ev_some.2 rfl))) ?_))
          rw [List.drop_eq_nil_of_le (show h.length ≤ i by omega)]
          simp only [mvS, List.append_nil]
          cases vh 40 acc with
          | false => exact ev_nt rfl (ev_some.2 (by simp))
          | true => exact ev_nf rfl (ev_some.2 (by simp))
        | succ d ih =>
          intro i acc hi ha hn
          have l1 : i < h.length := by omega
          have l2 : i < t.f0.length := by omega
          have l3 : i < t.f1.length := by omega
          have b1 := h0 h[i] (List.getElem_mem l1)
          have b2 := t0 t.f0[i] (List.getElem_mem l2)
          have b3 := g0 t.f1[i] (List.getElem_mem l3)
          refine ev_succ (fun k => spec_TradeDo.l0_eq k _ _ _ _) (ev_dt (by omega) (ev_gd (by omega) (ev_gd (by omega) ?_)))
          rw [get_nat l1, get_nat l2, get_nat l3, List.drop_eq_getElem_cons l1, List.drop_eq_getElem_cons l2, List.drop_eq_getElem_cons l3, mvS]
          rw [w64 (x := h[i] - t.f0[i]) (by omega) (by omega), w64 (x := h[i] - t.f0[i] + t.f1[i]) (by omega) (by omega)]
          by_cases c1 : h[i] < t.f0[i]
          · rw [if_pos c1]; exact ev_dt c1 (ev_some.2 rfl)
          · rw [if_neg c1]
            refine ev_df c1 (ev_gd (by omega) (ev_gd (by omega) (ev_gd (by omega) (ev_gd (by rw [ha, limE]; simp; omega) ?_))))
            rw [w_succ (by omega)]
            have := ih (i + 1) (acc ++ [h[i] - t.f0[i] + t.f1[i]]) (by omega) (by simp [ha]) (fun n hnn => by
              rcases List.mem_append.1 hnn with q | q
              · exact hn n q
              · simp at q; subst q; omega)
            refine ev_eq this ?_
            cases mvS (h.drop (i + 1)) (t.f0.drop (i + 1)) (t.f1.drop (i + 1)) with
            | none => rfl
            | some l => simp
      have := loop 3 0 [] (by omega) rfl (by simp)
      refine ev_eq this ?_
      unfold mvV
      rw [mvL_S]
      simp only [List.drop_zero, List.nil_append]
      cases hs : mvS h t.f0 t.f1 with
      | none => rfl
      | some l =>
        obtain ⟨e1, e2⟩ := mvS_ok hs (fun n hn => (g0 n hn).1)
        simp only [Option.bind_some]
        rw [vh_mk (by omega) e2]
        split <;> rfl
/-! Heaps that are reached: plain. -/
def succs (ts : List Trade) (h : List Int) : List (List Int) := ts.filterMap fun t => if (mvV h t).2 = true then some (mvV h t).1 else none
def addL : List (List Int) → List (List Int) → List (List Int)
  | [], out => out
  | x :: r, out => addL r (if x ∈ out then out else out ++ [x])
def reachL (ts : List Trade) : Nat → Nat → List (List Int) → Option (List (List Int))
  | 0, _, _ => none
  | f + 1, i, out => match out[i]? with
    | some h => if (addL (succs ts h) out).length > 400 then none else reachL ts f (i + 1) (addL (succs ts h) out)
    | none => some out
def reachV (ts : List Trade) (h : List Int) : List (List Int) := if vh 40 h = true ∧ tsV ts = true then (reachL ts 402 0 [h]).getD [] else []
theorem addL_pre : ∀ (xs out : List (List Int)), ∃ r, addL xs out = out ++ r
  | [], out => ⟨[], by simp [addL]⟩
  | x :: r, out => by
    obtain ⟨s, hs⟩ := addL_pre r (if x ∈ out then out else out ++ [x])
    unfold addL
    rw [hs]
    split
    · exact ⟨s, rfl⟩
    · exact ⟨x :: s, by simp⟩
theorem addL_len (xs out : List (List Int)) : out.length ≤ (addL xs out).length := by
  obtain ⟨r, hr⟩ := addL_pre xs out
  rw [hr, List.length_append]; omega
theorem addL_mem : ∀ (xs out : List (List Int)) (y : List Int), y ∈ addL xs out ↔ y ∈ out ∨ y ∈ xs
  | [], out, y => by simp [addL]
  | x :: r, out, y => by
    unfold addL
    rw [addL_mem r _ y]
    by_cases h : x ∈ out
    · rw [if_pos h]
      simp only [List.mem_cons]
      constructor
      · rintro (q | q)
        · exact .inl q
        · exact .inr (.inr q)
      · rintro (q | rfl | q)
        · exact .inl q
        · exact .inl h
        · exact .inr q
    · rw [if_neg h]
      simp only [List.mem_append, List.mem_cons, List.not_mem_nil, or_false]
      constructor
      · rintro ((q | q) | q)
        · exact .inl q
        · exact .inr (.inl q)
        · exact .inr (.inr q)
      · rintro (q | q | q)
        · exact .inl (.inl q)
        · exact .inl (.inr q)
        · exact .inr q
theorem addL_nodup : ∀ (xs out : List (List Int)), out.Nodup → (addL xs out).Nodup
  | [], out, h => by simpa [addL] using h
  | x :: r, out, h => by
    unfold addL
    apply addL_nodup
    split
    · exact h
    · rename_i hx
      rw [List.nodup_append]
      exact ⟨h, by simp, fun a ha b hb e => by simp at hb; subst hb; subst e; exact hx ha⟩
theorem nodup_sub : ∀ (l m : List (List Int)), l.Nodup → (∀ x ∈ l, x ∈ m) → l.length ≤ m.length
  | [], m, _, _ => by simp
  | x :: l, m, hn, hs => by
    rw [List.nodup_cons] at hn
    have hx := hs x (by simp)
    have := nodup_sub l (m.erase x) hn.2 (fun y hy => (List.mem_erase_of_ne (fun e => hn.1 (by rw [← e]; exact hy))).2 (hs y (by simp [hy])))
    have h2 := List.length_erase_of_mem hx
    have h3 : 0 < m.length := List.length_pos_of_mem hx
    simp only [List.length_cons]
    omega
/-- What has been found: 'i' heaps have been gone on from. -/
structure RInv (ts : List Trade) (h : List Int) (i : Nat) (out : List (List Int)) : Prop where
  first : out[0]? = some h
  nodup : out.Nodup
  valid : ∀ x ∈ out, vh 40 x = true
  closed : ∀ j x, j < i → out[j]? = some x → ∀ y ∈ succs ts x, y ∈ out
  from' : ∀ j x, 0 < j → out[j]? = some x → ∃ j' x', j' < j ∧ out[j']? = some x' ∧ x ∈ succs ts x'
  le : i ≤ out.length
theorem succs_valid {ts : List Trade} (ht : ∀ t ∈ ts, tv t = true) {x : List Int} (hx : vh 40 x = true) {y : List Int} (hy : y ∈ succs ts x) : vh 40 y = true := by
  unfold succs at hy
  obtain ⟨t, h1, h2⟩ := List.mem_filterMap.1 hy
  split at h2
  · rename_i hd
    cases h2
    exact mvV_ok hx (ht t h1) hd
  · cases h2
theorem addL_from {ts : List Trade} (xs : List (List Int)) : ∀ (out : List (List Int)) (j : Nat) (y : List Int), (addL xs out)[j]? = some y → out.length ≤ j → y ∈ xs := by
  induction xs with
  | nil =>
    intro out j y h hj
    simp only [addL] at h
    rw [List.getElem?_eq_none hj] at h; cases h
  | cons x r ih =>
    intro out j y h hj
    unfold addL at h
    by_cases hx : x ∈ out
    · rw [if_pos hx] at h; exact List.mem_cons_of_mem _ (ih _ j y h hj)
    · rw [if_neg hx] at h
      by_cases hj2 : out.length = j
      · obtain ⟨s, hs⟩ := addL_pre r (out ++ [x])
        rw [hs, List.append_assoc, ← hj2, List.getElem?_append_right (Nat.le_refl _)] at h
        simp at h
        simp [h]
      · exact List.mem_cons_of_mem _ (ih _ j y h (by simp; omega))
theorem RInv.step {ts : List Trade} (ht : ∀ t ∈ ts, tv t = true) {h : List Int} {i : Nat} {out : List (List Int)} (hI : RInv ts h i out) {x : List Int} (hx : out[i]? = some x) : RInv ts h (i + 1) (addL (succs ts x) out) := by
  obtain ⟨r, hr⟩ := addL_pre (succs ts x) out
  have old : ∀ j y, out[j]? = some y → (addL (succs ts x) out)[j]? = some y := fun j y hy => by
    rw [hr, List.getElem?_append_left (List.getElem?_eq_some_iff.1 hy).1]; exact hy
  have hil : i < out.length := (List.getElem?_eq_some_iff.1 hx).1
  refine ⟨old 0 h hI.first, addL_nodup _ _ hI.nodup, fun y hy => ?_, fun j y hj hy z hz => ?_, fun j y hj hy => ?_, ?_⟩
  · rcases (addL_mem _ _ _).1 hy with q | q
    · exact hI.valid y q
    · exact succs_valid ht (hI.valid x (List.mem_of_getElem? hx)) q
  · rw [addL_mem]
    by_cases e : j = i
    · subst e
      have : y = x := by rw [old j x hx] at hy; exact (Option.some.inj hy).symm
      subst this
      exact .inr hz
    · have hjl : j < out.length := by omega
      have : out[j]? = some y := by rw [hr, List.getElem?_append_left hjl] at hy; exact hy
      exact .inl (hI.closed j y (by omega) this z hz)
  · by_cases hjl : j < out.length
    · have : out[j]? = some y := by rw [hr, List.getElem?_append_left hjl] at hy; exact hy
      obtain ⟨j', x', h1, h2, h3⟩ := hI.from' j y hj this
      exact ⟨j', x', h1, old _ _ h2, h3⟩
    · exact ⟨i, x, by omega, old _ _ hx, addL_from (ts := ts) _ _ _ _ hy (by omega)⟩
  · have := addL_len (succs ts x) out; omega
theorem reachL_spec {ts : List Trade} (ht : ∀ t ∈ ts, tv t = true) {h : List Int} : ∀ (f i : Nat) (out L : List (List Int)), RInv ts h i out → out.length ≤ 400 → reachL ts f i out = some L → RInv ts h L.length L ∧ L.length ≤ 400
  | 0, _, _, _, _, _, e => by simp [reachL] at e
  | f + 1, i, out, L, hI, hl, e => by
    unfold reachL at e
    split at e
    · rename_i x hx
      split at e
      · cases e
      · rename_i h4
        exact reachL_spec ht f (i + 1) _ L (hI.step ht hx) (by omega) e
    · rename_i hx
      cases e
      have : out.length ≤ i := List.getElem?_eq_none_iff.1 hx
      have hi : i = out.length := by have := hI.le; omega
      subst hi
      exact ⟨hI, hl⟩
/-- What is said of what is reached. -/
structure Reach (ts : List Trade) (h : List Int) (L : List (List Int)) : Prop where
  first : L[0]? = some h
  nodup : L.Nodup
  valid : ∀ x ∈ L, vh 40 x = true
  closed : ∀ x ∈ L, ∀ y ∈ succs ts x, y ∈ L
  from' : ∀ j x, 0 < j → L[j]? = some x → ∃ j' x', j' < j ∧ L[j']? = some x' ∧ x ∈ succs ts x'
  len : L.length ≤ 400
  trades : ∀ t ∈ ts, tv t = true
theorem rinv_one {ts : List Trade} {h : List Int} (hh : vh 40 h = true) : RInv ts h 0 [h] :=
  ⟨rfl, by simp, fun x hx => by simp at hx; subst hx; exact hh, fun j x hj => by omega, fun j x hj hx => by
    have := (List.getElem?_eq_some_iff.1 hx).1; simp at this; omega, by simp⟩
theorem reach_of {ts : List Trade} {h : List Int} (hne : reachV ts h ≠ []) : Reach ts h (reachV ts h) ∧ vh 40 h = true ∧ tsV ts = true := by
  unfold reachV at hne ⊢
  split at hne
  · rename_i hv
    rw [if_pos hv]
    have ht := (tsV_of hv.2).1
    cases hr : reachL ts 402 0 [h] with
    | none => rw [hr] at hne; simp at hne
    | some L =>
      obtain ⟨h1, h2⟩ := reachL_spec ht 402 0 [h] L (rinv_one hv.1) (by simp) hr
      refine ⟨⟨h1.first, h1.nodup, h1.valid, fun x hx => ?_, h1.from', h2, ht⟩, hv.1, hv.2⟩
      obtain ⟨j, hj⟩ := List.getElem?_of_mem hx
      exact h1.closed j x (List.getElem?_eq_some_iff.1 hj).1 hj
  · exact absurd rfl hne
/-- Where all that is reached lies in few heaps, it is told. -/
theorem reachL_some {ts : List Trade} {M : List (List Int)} (hc : ∀ x ∈ M, ∀ y ∈ succs ts x, y ∈ M) (hM : M.length ≤ 400) : ∀ (f i : Nat) (out : List (List Int)), out.Nodup → (∀ x ∈ out, x ∈ M) → i ≤ out.length → 401 < f + i → ∃ L, reachL ts f i out = some L ∧ (∀ x ∈ L, x ∈ M) ∧ ∃ r, L = out ++ r
  | 0, i, out, hn, hs, hi, hf => by have := nodup_sub out M hn hs; omega
  | f + 1, i, out, hn, hs, hi, hf => by
    have hl := nodup_sub out M hn hs
    unfold reachL
    split
    · rename_i x hx
      have hs2 : ∀ y ∈ addL (succs ts x) out, y ∈ M := fun y hy => by
        rcases (addL_mem _ _ _).1 hy with q | q
        · exact hs y q
        · exact hc x (hs x (List.mem_of_getElem? hx)) y q
      have hn2 := addL_nodup (succs ts x) out hn
      have hl2 := nodup_sub _ M hn2 hs2
      rw [if_neg (by omega)]
      have hal := addL_len (succs ts x) out
      have hil : i < out.length := (List.getElem?_eq_some_iff.1 hx).1
      obtain ⟨L, e1, e2, r, e3⟩ := reachL_some hc hM f (i + 1) _ hn2 hs2 (by omega) (by omega)
      obtain ⟨r2, e4⟩ := addL_pre (succs ts x) out
      exact ⟨L, e1, e2, r2 ++ r, by rw [e3, e4, List.append_assoc]⟩
    · exact ⟨out, rfl, hs, [], by simp⟩
/-! Heaps that are reached: both sides. -/
def keyT (x : List Int) : Int × Int × Int := (x.getD 0 0, x.getD 1 0, x.getD 2 0)
theorem mp_get_set (t : Ty) (k j : Int × Int × Int) (y : Den t) : ∀ M : List ((Int × Int × Int) × Den t), mpGet t k (mpSet t j y M) = if k = j then y else mpGet t k M
  | [] => by
    simp only [mpSet, mpGet]
  | e :: M => by
    simp only [mpSet]
    by_cases h : j = e.1
    · rw [if_pos h]
      simp only [mpGet]
      by_cases hk : k = j
      · rw [if_pos hk, if_pos hk]
      · rw [if_neg hk, if_neg hk, if_neg (fun e' => hk (e'.trans h.symm))]
    · rw [if_neg h]
      simp only [mpGet]
      by_cases hk : k = e.1
      · rw [if_pos hk, if_pos hk, if_neg (fun e' => h (e'.symm.trans hk))]
      · rw [if_neg hk, if_neg hk]; exact mp_get_set t k j y M
theorem three {x : List Int} (h : vh 40 x = true) : ∃ a b c, x = [a, b, c] ∧ 0 ≤ a ∧ a ≤ 40 ∧ 0 ≤ b ∧ b ≤ 40 ∧ 0 ≤ c ∧ c ≤ 40 := by
  obtain ⟨h3, h0⟩ := vh_len h
  match x, h3, h0 with
  | [a, b, c], _, h0 =>
    have ha := h0 a (by simp)
    have hb := h0 b (by simp)
    have hc := h0 c (by simp)
    exact ⟨a, b, c, rfl, ha.1, ha.2, hb.1, hb.2, hc.1, hc.2⟩
theorem keyT_inj {x y : List Int} (hx : vh 40 x = true) (hy : vh 40 y = true) (h : keyT x = keyT y) : x = y := by
  obtain ⟨a, b, c, rfl, _⟩ := three hx
  obtain ⟨d, e, f, rfl, _⟩ := three hy
  simp [keyT] at h
  obtain ⟨rfl, rfl, rfl⟩ := h
  rfl
def codeZ (x : List Int) : Int := (x.getD 0 0 * 41 + x.getD 1 0) * 41 + x.getD 2 0
theorem codeZ_in {x : List Int} (hx : vh 40 x = true) : 0 ≤ codeZ x ∧ codeZ x < 68921 := by
  obtain ⟨a, b, c, rfl, h⟩ := three hx
  simp [codeZ]
  omega
theorem codeZ_inj {x y : List Int} (hx : vh 40 x = true) (hy : vh 40 y = true) (h : codeZ x = codeZ y) : x = y := by
  obtain ⟨a, b, c, rfl, _⟩ := three hx
  obtain ⟨d, e, f, rfl, _⟩ := three hy
  simp [codeZ] at h
  have h1 : c = f := by omega
  have h2 : b = e := by omega
  have h3 : a = d := by omega
  rw [h1, h2, h3]
theorem l8Code_ev {x : List Int} (hx : vh 40 x = true) : Ev (fun k => spec_l8Code.f k x) (codeZ x) := by
  obtain ⟨a, b, c, rfl, h⟩ := three hx
  refine ev_succ (fun k => spec_l8Code.f_eq k _) (ev_gd (by simp) (ev_gd (by simp) (ev_gd (by simp) (ev_some.2 ?_))))
  show wr (wr (wr (wr (a * 41) + b) * 41) + c) = (a * 41 + b) * 41 + c
  rw [w64 (x := a * 41) (by omega) (by omega), w64 (x := a * 41 + b) (by omega) (by omega), w64 (x := (a * 41 + b) * 41) (by omega) (by omega), w64 (by omega) (by omega)]
theorem cloneI_ev (x : List Int) (h : x.length < lim) : Ev (fun k => slices_Clone_int_int.f k x) x := by
  have : (fun k => slices_Clone_int_int.f k x) = fun k => gate (decide (0 + x.length < lim)) (some x) := funext fun k => slices_Clone_int_int.f_eq k x
  rw [this]
  exact ev_gd (by omega) (ev_some.2 rfl)
theorem at_out {out : List (List Int)} {i : Nat} {x : List Int} (h : out[i]? = some x) : out.getD (i : Int).toNat ([] : List Int) = x := by
  rw [Int.toNat_natCast, List.getD_eq_getElem?_getD, h]; rfl
theorem at_tr {ts : List Trade} {i : Nat} (h : i < ts.length) : ts.getD (i : Int).toNat (⟨([] : List Int), ([] : List Int)⟩ : Trade) = ts[i] := by
  rw [Int.toNat_natCast, List.getD_eq_getElem?_getD, List.getElem?_eq_getElem h]; rfl
theorem succs_cons (t : Trade) (ts : List Trade) (x : List Int) : succs (t :: ts) x = if (mvV x t).2 = true then (mvV x t).1 :: succs ts x else succs ts x := by
  unfold succs
  rw [List.filterMap_cons]
  by_cases h : (mvV x t).2 = true
  · rw [if_pos h, if_pos h]
  · rw [if_neg h, if_neg h]
theorem app_at {out : List (List Int)} {i : Nat} {x : List Int} (y : List Int) (h : out[i]? = some x) : (out ++ [y])[i]? = some x := by
  rw [List.getElem?_append_left (List.getElem?_eq_some_iff.1 h).1]; exact h
def MOk (M : List ((Int × Int × Int) × Bool)) (out : List (List Int)) : Prop := ∀ x, vh 40 x = true → (mpGet .bool (keyT x) M = true ↔ x ∈ out)
theorem MOk.add {M : List ((Int × Int × Int) × Bool)} {out : List (List Int)} (h : MOk M out) {y : List Int} (hy : vh 40 y = true) : MOk (mpSet .bool (keyT y) true M) (out ++ [y]) := by
  intro x hx
  rw [mp_get_set]
  by_cases e : keyT x = keyT y
  · rw [if_pos e, keyT_inj hx hy e]; simp
  · rw [if_neg e, h x hx]
    have : x ≠ y := fun e' => e (by rw [e'])
    simp [this]
theorem mv_len {x : List Int} {t : Trade} (hx : vh 40 x = true) (ht : tv t = true) (hd : (mvV x t).2 = true) : (mvV x t).1.length = 3 := (vh_len (mvV_ok hx ht hd)).1
theorem implReach_ev (h : List Int) (ts : List Trade) (hl : h.length ≤ 1048576) (h2 : ts.length ≤ 1048576) (hr : ∀ t ∈ ts, TrOk t) : Ev (fun k => impl_HeapsReached.f k h ts) (reachV ts h) := by
  refine ev_succ (fun k => impl_HeapsReached.f_eq k _ _) (ev_bind (ev_succ (fun k => impl_HeapsValid.f_eq k _) (ev_bind (thingsOk_ev h 40 (by omega)) (ev_some.2 rfl))) ?_)
  unfold reachV
  cases hh : vh 40 h with
  | false => exact ev_nt rfl (ev_some.2 (by simp))
  | true =>
    refine ev_nf rfl (ev_bind (implTsV_ev ts h2 hr) ?_)
    cases ht : tsV ts with
    | false => exact ev_nt rfl (ev_some.2 (by simp))
    | true =>
      rw [if_pos ⟨rfl, rfl⟩]
      have hts := (tsV_of ht).1
      have h4 := (tsV_of ht).2
      have inner : ∀ (d j i : Nat) (out : List (List Int)) (M : List ((Int × Int × Int) × Bool)) (x : List Int), j + d = ts.length → out[i]? = some x → vh 40 x = true → MOk M out → out.length ≤ 400 → ∀ r,
          ((addL (succs (ts.drop j) x) out).length ≤ 400 → ∀ M', MOk M' (addL (succs (ts.drop j) x) out) → Ev (fun k => impl_HeapsReached.l0 k ts (addL (succs (ts.drop j) x) out) M' (wr ((i : Int) + 1))) r) →
          ((addL (succs (ts.drop j) x) out).length > 400 → r = []) → Ev (fun k => impl_HeapsReached.l1 k ts out M (i : Int) ts (ts.length : Int) (j : Int)) r := by
        intro d
        induction d with
        | zero =>
          intro j i out M x hj hx hv hM ho r k1 k2
          refine ev_succ (fun k => impl_HeapsReached.l1_eq k _ _ _ _ _ _ _) (ev_df (by omega) ?_)
          rw [List.drop_eq_nil_of_le (show ts.length ≤ j by omega)] at k1
          exact k1 ho M hM
        | succ d ih =>
          intro j i out M x hj hx hv hM ho r k1 k2
          have hlt : j < ts.length := by omega
          have hil := (List.getElem?_eq_some_iff.1 hx).1
          have htj := hts ts[j] (List.getElem_mem hlt)
          rw [List.drop_eq_getElem_cons hlt, succs_cons] at k1 k2
          refine ev_succ (fun k => impl_HeapsReached.l1_eq k _ _ _ _ _ _ _) (ev_dt (by omega) (ev_gd (by omega) (ev_gd (by omega) ?_)))
          rw [at_out hx, at_tr hlt, w_succ (i := j) (by omega)]
          refine ev_bind (traded_ev hv htj) ?_
          cases hd : (mvV x ts[j]).2 with
          | false =>
            rw [hd] at k1 k2
            exact ev_nt rfl (ih (j + 1) i out M x (by omega) hx hv hM ho r k1 k2)
          | true =>
            rw [hd] at k1 k2
            simp only [if_true] at k1 k2
            have hy := mvV_ok hv htj hd
            have hy3 := mv_len hv htj hd
            unfold addL at k1 k2
            refine ev_nf rfl (ev_gd (by omega) ?_)
            by_cases hm : (mvV x ts[j]).1 ∈ out
            · rw [if_pos hm] at k1 k2
              exact ev_bt ((hM _ hy).2 hm) (ih (j + 1) i out M x (by omega) hx hv hM ho r k1 k2)
            · rw [if_neg hm] at k1 k2
              refine ev_bf (by cases hb : mpGet .bool (keyT (mvV x ts[j]).1) M with | false => exact hb | true => exact absurd ((hM _ hy).1 hb) hm) (ev_gd (by omega) (ev_gd (by rw [limE]; simp; omega) ?_))
              by_cases h400 : ((out ++ [(mvV x ts[j]).1]).length : Int) > 400
              · have := addL_len (succs (ts.drop (j + 1)) x) (out ++ [(mvV x ts[j]).1])
                exact ev_dt h400 (ev_some.2 (k2 (by omega)).symm)
              · refine ev_df h400 ?_
                exact ih (j + 1) i _ _ x (by omega) (app_at _ hx) hv (hM.add hy) (by omega) r k1 k2
      have outer : ∀ (f i : Nat) (out : List (List Int)) (M : List ((Int × Int × Int) × Bool)), out.length ≤ 400 → out ≠ [] → (∀ x ∈ out, vh 40 x = true) → MOk M out → i ≤ out.length → 401 < f + i → Ev (fun k => impl_HeapsReached.l0 k ts out M (i : Int)) ((reachL ts f i out).getD []) := by
        intro f
        induction f with
        | zero => intro i out M ho _ _ _ hi hf; omega
        | succ f ih =>
          intro i out M ho hne hv hM hi hf
          unfold reachL
          refine ev_succ (fun k => impl_HeapsReached.l0_eq k _ _ _ _) ?_
          cases hx : out[i]? with
          | none =>
            have := List.getElem?_eq_none_iff.1 hx
            refine ev_df (by omega) (ev_gate ?_ (ev_some.2 rfl))
            cases out with
            | nil => exact absurd rfl hne
            | cons a l => rfl
          | some x =>
            have hil := (List.getElem?_eq_some_iff.1 hx).1
            have hvx := hv x (List.mem_of_getElem? hx)
            refine ev_dt (by omega) (inner ts.length 0 i out M x (by omega) hx hvx hM ho _ ?_ ?_)
            · intro h400 M' hM'
              simp only [List.drop_zero] at h400 hM' ⊢
              rw [if_neg (by omega), w_succ (by omega)]
              have hal := addL_len (succs ts x) out
              refine ih (i + 1) _ M' h400 (fun e => by rw [e] at hal; simp at hal; exact hne hal) (fun y hy => ?_) hM' (by omega) (by omega)
              rcases (addL_mem _ _ _).1 hy with q | q
              · exact hv y q
              · exact succs_valid hts hvx q
            · intro h400
              simp only [List.drop_zero] at h400
              show (if (addL (succs ts x) out).length > 400 then none else reachL ts f (i + 1) (addL (succs ts x) out)).getD [] = []
              rw [if_pos h400]
              rfl
      refine ev_nf rfl (ev_bind (cloneI_ev h (by rw [limE]; omega)) (ev_gd (by rw [(vh_len hh).1]; omega) ?_))
      refine outer 402 0 [h] _ (by simp) (by simp) (fun x hx => by simp at hx; subst hx; exact hh) ?_ (by simp) (by omega)
      intro x hx
      show mpGet .bool (keyT x) (mpSet .bool (keyT h) true []) = true ↔ x ∈ [h]
      rw [mp_get_set]
      by_cases e : keyT x = keyT h
      · rw [if_pos e, keyT_inj hx hh e]; simp
      · rw [if_neg e]
        have : x ≠ h := fun e' => e (by rw [e'])
        simp [this, mpGet, zeroD]
def SOk (S : List Bool) (out : List (List Int)) : Prop := S.length = 68921 ∧ ∀ x, vh 40 x = true → (S.getD (codeZ x).toNat false = true ↔ x ∈ out)
theorem SOk.add {S : List Bool} {out : List (List Int)} (h : SOk S out) {y : List Int} (hy : vh 40 y = true) : SOk (S.set (codeZ y).toNat true) (out ++ [y]) := by
  refine ⟨by simp [h.1], fun x hx => ?_⟩
  have cx := codeZ_in hx
  have cy := codeZ_in hy
  have hlen := h.1
  rw [List.getD_eq_getElem?_getD, List.getElem?_set]
  by_cases e : (codeZ y).toNat = (codeZ x).toNat
  · rw [if_pos e, if_pos (by omega), codeZ_inj hx hy (by omega)]; simp
  · have := h.2 x hx
    rw [List.getD_eq_getElem?_getD] at this
    rw [if_neg e, this]
    have : x ≠ y := fun e' => e (by rw [e'])
    simp [this]
theorem tr_ok {t : Trade} (h : tv t = true) : TrOk t := by
  obtain ⟨⟨h1, _⟩, h2, _⟩ := tv_of h
  exact ⟨by unfold RowOk; omega, by unfold RowOk; omega⟩
theorem specReach_ev (h : List Int) (ts : List Trade) (hl : h.length ≤ 1048576) (h2 : ts.length ≤ 1048576) (hr : ∀ t ∈ ts, TrOk t) : Ev (fun k => spec_HeapsReached.f k h ts) (reachV ts h) := by
  refine ev_succ (fun k => spec_HeapsReached.f_eq k _ _) (ev_bind (ev_succ (fun k => spec_HeapsValid.f_eq k _) (ev_bind (l8List_ev h 40 (by omega)) (ev_some.2 rfl))) ?_)
  unfold reachV
  cases hh : vh 40 h with
  | false => exact ev_nt rfl (ev_some.2 (by simp))
  | true =>
    refine ev_nf rfl (ev_bind (specTsV_ev ts h2 hr) ?_)
    cases ht : tsV ts with
    | false => exact ev_nt rfl (ev_some.2 (by simp))
    | true =>
      rw [if_pos ⟨rfl, rfl⟩]
      have hts := (tsV_of ht).1
      have h4 := (tsV_of ht).2
      have inner : ∀ (d j i : Nat) (out : List (List Int)) (S : List Bool) (x : List Int), j + d = ts.length → out[i]? = some x → vh 40 x = true → SOk S out → out.length ≤ 400 + j → ∀ r,
          (∀ S', SOk S' (addL (succs (ts.drop j) x) out) → Ev (fun k => br (decide (((addL (succs (ts.drop j) x) out).length : Int) > 400)) (some ([] : List (List Int))) (spec_HeapsReached.l0 k ts (addL (succs (ts.drop j) x) out) S' (wr ((i : Int) + 1)))) r) →
          Ev (fun k => spec_HeapsReached.l1 k ts out S (i : Int) (j : Int)) r := by
        intro d
        induction d with
        | zero =>
          intro j i out S x hj hx hv hS ho r k1
          refine ev_succ (fun k => spec_HeapsReached.l1_eq k _ _ _ _ _) (ev_df (by omega) ?_)
          rw [List.drop_eq_nil_of_le (show ts.length ≤ j by omega)] at k1
          exact k1 S hS
        | succ d ih =>
          intro j i out S x hj hx hv hS ho r k1
          have hlt : j < ts.length := by omega
          have hil := (List.getElem?_eq_some_iff.1 hx).1
          have htj := hts ts[j] (List.getElem_mem hlt)
          rw [List.drop_eq_getElem_cons hlt, succs_cons] at k1
          refine ev_succ (fun k => spec_HeapsReached.l1_eq k _ _ _ _ _) (ev_dt (by omega) (ev_gd (by omega) (ev_gd (by omega) ?_)))
          rw [at_out hx, at_tr hlt, w_succ (i := j) (by omega)]
          have hdo := sDoT_ev x ts[j] (by rw [(vh_len hv).1]; omega) (tr_ok htj)
          rw [if_pos ⟨hv, htj⟩] at hdo
          refine ev_bind hdo ?_
          cases hd : (mvV x ts[j]).2 with
          | false =>
            rw [hd] at k1
            exact ev_bf rfl (ih (j + 1) i out S x (by omega) hx hv hS (by omega) r k1)
          | true =>
            rw [hd] at k1
            simp only [if_true] at k1
            have hy := mvV_ok hv htj hd
            have hc := codeZ_in hy
            have hS1 := hS.1
            unfold addL at k1
            refine ev_bt rfl (ev_bind (l8Code_ev hy) (ev_gd (by omega) ?_))
            by_cases hm : (mvV x ts[j]).1 ∈ out
            · rw [if_pos hm] at k1
              exact ev_nf ((hS.2 _ hy).2 hm) (ih (j + 1) i out S x (by omega) hx hv hS (by omega) r k1)
            · rw [if_neg hm] at k1
              refine ev_nt (by cases hb : S.getD (codeZ (mvV x ts[j]).1).toNat false with | false => rfl | true => exact absurd ((hS.2 _ hy).1 hb) hm) ?_
              refine ev_succ (fun k => spec_HeapsReached.j0_eq k _ _ _ _ _ _) (ev_bind (l8Code_ev hy) (ev_gd (by omega) (ev_gd (by omega) (ev_gd (by rw [limE]; simp; omega) ?_))))
              rw [w_succ (i := j) (by omega)]
              exact ih (j + 1) i _ _ x (by omega) (app_at _ hx) hv (hS.add hy) (by simp; omega) r k1
      have outer : ∀ (f i : Nat) (out : List (List Int)) (S : List Bool), out.length ≤ 400 → (∀ x ∈ out, vh 40 x = true) → SOk S out → i ≤ out.length → 401 < f + i → Ev (fun k => spec_HeapsReached.l0 k ts out S (i : Int)) ((reachL ts f i out).getD []) := by
        intro f
        induction f with
        | zero => intro i out S ho _ _ hi hf; omega
        | succ f ih =>
          intro i out S ho hv hS hi hf
          unfold reachL
          refine ev_succ (fun k => spec_HeapsReached.l0_eq k _ _ _ _) ?_
          cases hx : out[i]? with
          | none =>
            have := List.getElem?_eq_none_iff.1 hx
            exact ev_df (by omega) (ev_some.2 rfl)
          | some x =>
            have hil := (List.getElem?_eq_some_iff.1 hx).1
            have hvx := hv x (List.mem_of_getElem? hx)
            refine ev_dt (by omega) (inner ts.length 0 i out S x (by omega) hx hvx hS (by omega) _ ?_)
            intro S' hS'
            simp only [List.drop_zero] at hS' ⊢
            by_cases h400 : (addL (succs ts x) out).length > 400
            · rw [if_pos h400]
              exact ev_dt (by omega) (ev_some.2 rfl)
            · rw [if_neg h400, w_succ (by omega)]
              have hal := addL_len (succs ts x) out
              refine ev_df (by omega) (ih (i + 1) _ S' (by omega) (fun y hy => ?_) hS' (by omega) (by omega))
              rcases (addL_mem _ _ _).1 hy with q | q
              · exact hv y q
              · exact succs_valid hts hvx q
      have hc := codeZ_in hh
      refine ev_nf rfl (ev_gd (by rw [limE]; decide) (ev_gd (by rw [limE]; simp; omega) (ev_gd (by rw [limE]; simp) (ev_bind (l8Code_ev hh) (ev_gd (by rw [List.length_replicate]; omega) (ev_gd (by rw [List.length_replicate]; omega) ?_))))))
      refine outer 402 0 [h] _ (by simp) (fun x hx => by simp at hx; subst hx; exact hh) ?_ (by simp) (by omega)
      have hz : SOk (List.replicate (68921 : Int).toNat false) [] := ⟨by rw [List.length_replicate]; rfl, fun x hx => by
        have := codeZ_in hx
        rw [List.getD_eq_getElem?_getD, List.getElem?_replicate]
        split <;> simp⟩
      exact hz.add hh
/-! Rows of heaps, held against each other and looked through. -/
theorem sameLists_self (L : List (List Int)) (hl : L.length ≤ 1000000) (hv : ∀ x ∈ L, x.length ≤ 1000000) : Ev (fun k => laws_sameLists.f k L L) true := by
  refine ev_succ (fun k => laws_sameLists.f_eq k _ _) (ev_nf (decide_eq_true rfl) ?_)
  have loop : ∀ d i : Nat, i + d = L.length → Ev (fun k => laws_sameLists.l0 k L L (i : Int)) true := by
    intro d
    induction d with
    | zero => intro i hi; exact ev_succ (fun k => laws_sameLists.l0_eq k _ _ _) (ev_df (by omega) (ev_some.2 rfl))
    | succ d ih =>
      intro i hi
      have hil : i < L.length := by omega
      refine ev_succ (fun k => laws_sameLists.l0_eq k _ _ _) (ev_dt (by omega) (ev_gd (by omega) (ev_gd (by omega) ?_)))
      rw [at_out (List.getElem?_eq_getElem hil), w_succ (by omega)]
      exact ev_bind (sameInts_any _ _ (by have := hv _ (List.getElem_mem hil); omega)) (ev_nf (decide_eq_true rfl) (ih (i + 1) (by omega)))
  exact loop L.length 0 (by omega)
theorem hasList_ev (L : List (List Int)) (y : List Int) (hl : L.length ≤ 1000000) (hv : ∀ x ∈ L, x.length ≤ 1000000) : Ev (fun k => laws_hasList.f k L y) (decide (y ∈ L)) := by
  refine ev_succ (fun k => laws_hasList.f_eq k _ _) ?_
  have loop : ∀ d i : Nat, i + d = L.length → Ev (fun k => laws_hasList.l0 k L y (i : Int)) (decide (y ∈ L.drop i)) := by
    intro d
    induction d with
    | zero =>
      intro i hi
      refine ev_succ (fun k => laws_hasList.l0_eq k _ _ _) (ev_df (by omega) (ev_some.2 ?_))
      rw [List.drop_eq_nil_of_le (by omega)]; simp
    | succ d ih =>
      intro i hi
      have hil : i < L.length := by omega
      refine ev_succ (fun k => laws_hasList.l0_eq k _ _ _) (ev_dt (by omega) (ev_gd (by omega) ?_))
      rw [at_out (List.getElem?_eq_getElem hil), w_succ (by omega), List.drop_eq_getElem_cons hil]
      refine ev_bind (sameInts_any _ _ (by have := hv _ (List.getElem_mem hil); omega)) ?_
      by_cases e : L[i] = y
      · exact ev_bt (decide_eq_true e) (ev_some.2 (by simp [e]))
      · refine ev_bf (decide_eq_false e) ?_
        have := ih (i + 1) (by omega)
        have h2 : decide (y ∈ L[i] :: L.drop (i + 1)) = decide (y ∈ L.drop (i + 1)) := by
          rw [decide_eq_decide, List.mem_cons]
          exact ⟨fun q => q.resolve_left (fun q => e q.symm), .inr⟩
        rw [h2]
        exact this
  exact loop L.length 0 (by omega)
theorem iDoR_ev {x : List Int} {t : Trade} (hx : vh 40 x = true) (ht : tv t = true) : Ev (fun k => impl_TradeDo.f k x t) (mvV x t) := by
  refine ev_succ (fun k => impl_TradeDo.f_eq k _ _) (ev_bind (ev_succ (fun k => impl_HeapsValid.f_eq k _) (ev_bind (thingsOk_ev x 40 (by rw [(vh_len hx).1]; omega)) (ev_some.2 hx))) ?_)
  refine ev_nf rfl (ev_bind (implTV_ev t (tr_ok ht)) ?_)
  rw [ht]
  exact ev_nf rfl (ev_bind (traded_ev hx ht) (ev_some.2 rfl))
theorem Reach.in_ {ts : List Trade} {h : List Int} {L : List (List Int)} (hR : Reach ts h L) {i j : Nat} (hi : i < L.length) (hj : j < ts.length) (hd : (mvV L[i] ts[j]).2 = true) : (mvV L[i] ts[j]).1 ∈ L :=
  hR.closed L[i] (List.getElem_mem hi) _ (List.mem_filterMap.2 ⟨ts[j], List.getElem_mem hj, by rw [hd]; rfl⟩)
theorem Reach.small {ts : List Trade} {h : List Int} {L : List (List Int)} (hR : Reach ts h L) : ∀ x ∈ L, x.length ≤ 1000000 := fun x hx => by rw [(vh_len (hR.valid x hx)).1]; omega
/-! The longest rows of exchanges: plain. -/
def best (R : List Int → Int) : List (List Int) → Int → Int
  | [], n => n
  | y :: r, n => best R r (max n (R y + 1))
def Sol (ts : List Trade) (L : List (List Int)) (R : List Int → Int) : Prop := ∀ x ∈ L, R x = best R (succs ts x) 0
def upd1 (R : List Int → Int) (x : List Int) (v : Int) : List Int → Int := fun y => if y = x then v else R y
def rnd (ts : List Trade) : List (List Int) → (List Int → Int) → Bool → (List Int → Int) × Bool
  | [], R, b => (R, b)
  | x :: r, R, b => if best R (succs ts x) 0 = R x then rnd ts r R b else rnd ts r (upd1 R x (best R (succs ts x) 0)) true
def iterI (ts : List Trade) (L : List (List Int)) (h : List Int) : Nat → (List Int → Int) → Int
  | 0, _ => -1
  | n + 1, R => if (rnd ts L R false).2 = true then iterI ts L h n (rnd ts L R false).1 else (rnd ts L R false).1 h
def bs (S : List Int → Int) : List (List Int) → Int → Int
  | [], b => b
  | y :: r, b => if S y < 0 then -1 else bs S r (max b (S y + 1))
def rs (ts : List Trade) : List (List Int) → (List Int → Int) → Bool → (List Int → Int) × Bool
  | [], S, m => (S, m)
  | x :: r, S, m => if 0 ≤ S x then rs ts r S m else rs ts r (upd1 S x (bs S (succs ts x) 0)) (m || decide (bs S (succs ts x) 0 ≥ 0))
def iterS (ts : List Trade) (L : List (List Int)) (h : List Int) : Nat → (List Int → Int) → Int
  | 0, S => S h
  | n + 1, S => if (rs ts L.reverse S false).2 = true then iterS ts L h n (rs ts L.reverse S false).1 else (rs ts L.reverse S false).1 h
theorem best_ge (R : List Int → Int) : ∀ (ys : List (List Int)) (n : Int), n ≤ best R ys n ∧ ∀ y ∈ ys, R y + 1 ≤ best R ys n
  | [], n => ⟨Int.le_refl _, fun y hy => by simp at hy⟩
  | z :: r, n => by
    have ih := best_ge R r (max n (R z + 1))
    unfold best
    refine ⟨by omega, fun y hy => ?_⟩
    rcases List.mem_cons.1 hy with rfl | hy
    · omega
    · exact ih.2 y hy
theorem best_at (R : List Int → Int) : ∀ (ys : List (List Int)) (n : Int), best R ys n = n ∨ ∃ y ∈ ys, best R ys n = R y + 1
  | [], n => .inl rfl
  | z :: r, n => by
    unfold best
    rcases best_at R r (max n (R z + 1)) with h | ⟨y, hy, h⟩
    · rw [h]
      by_cases hm : n ≤ R z + 1
      · exact .inr ⟨z, by simp, by omega⟩
      · exact .inl (by omega)
    · exact .inr ⟨y, by simp [hy], h⟩
theorem best_congr {R R' : List Int → Int} : ∀ (ys : List (List Int)) (n : Int), (∀ y ∈ ys, R y = R' y) → best R ys n = best R' ys n
  | [], _, _ => rfl
  | z :: r, n, h => by
    unfold best
    rw [h z (by simp)]
    exact best_congr r _ (fun y hy => h y (by simp [hy]))
theorem Sol.nonneg {ts : List Trade} {L : List (List Int)} {R : List Int → Int} (h : Sol ts L R) {x : List Int} (hx : x ∈ L) : 0 ≤ R x := by rw [h x hx]; exact (best_ge R _ 0).1
theorem Sol.lt {ts : List Trade} {L : List (List Int)} {R : List Int → Int} (h : Sol ts L R) {x : List Int} (hx : x ∈ L) {y : List Int} (hy : y ∈ succs ts x) : R y + 1 ≤ R x := by rw [h x hx]; exact (best_ge R _ 0).2 y hy
theorem sol_unique {ts : List Trade} {L : List (List Int)} (hc : ∀ x ∈ L, ∀ y ∈ succs ts x, y ∈ L) {R R' : List Int → Int} (h : Sol ts L R) (h' : Sol ts L R') : ∀ (v : Nat) (x : List Int), x ∈ L → R x ≤ v → R' x = R x := by
  intro v
  induction v with
  | zero =>
    intro x hx hv
    rw [h' x hx]
    refine Eq.trans ?_ (h x hx).symm
    refine best_congr _ _ (fun y hy => ?_)
    have h1 := h.lt hx hy
    have h2 := h.nonneg (hc x hx y hy)
    omega
  | succ v ih =>
    intro x hx hv
    rw [h' x hx]
    refine Eq.trans ?_ (h x hx).symm
    refine best_congr _ _ (fun y hy => ?_)
    have h1 := h.lt hx hy
    exact ih y (hc x hx y hy) (by omega)
theorem sol_same {ts : List Trade} {L : List (List Int)} (hc : ∀ x ∈ L, ∀ y ∈ succs ts x, y ∈ L) {R R' : List Int → Int} (h : Sol ts L R) (h' : Sol ts L R') {x : List Int} (hx : x ∈ L) : R' x = R x :=
  sol_unique hc h h' (R x).toNat x hx (by have := h.nonneg hx; omega)
theorem pigeon : ∀ (m : Nat) (l : List Int), (∀ u : Nat, u ≤ m → (u : Int) ∈ l) → m + 1 ≤ l.length
  | 0, l, h => List.length_pos_of_mem (h 0 (Nat.le_refl _))
  | m + 1, l, h => by
    have hm := h (m + 1) (Nat.le_refl _)
    have h1 := pigeon m (l.erase ((m + 1 : Nat) : Int)) (fun u hu => (List.mem_erase_of_ne (by omega)).2 (h u (by omega)))
    have h2 := List.length_erase_of_mem hm
    have h3 := List.length_pos_of_mem hm
    omega
theorem sol_all {ts : List Trade} {L : List (List Int)} (hc : ∀ x ∈ L, ∀ y ∈ succs ts x, y ∈ L) {R : List Int → Int} (h : Sol ts L R) : ∀ (v : Nat) (x : List Int), x ∈ L → R x = v → ∀ u : Nat, u ≤ v → ∃ y ∈ L, R y = u := by
  intro v
  induction v with
  | zero => intro x hx hv u hu; exact ⟨x, hx, by omega⟩
  | succ v ih =>
    intro x hx hv u hu
    by_cases e : u = v + 1
    · exact ⟨x, hx, by omega⟩
    · rcases best_at R (succs ts x) 0 with h1 | ⟨y, hy, h1⟩
      · have := h x hx; omega
      · have := h x hx
        exact ih y (hc x hx y hy) (by omega) u (by omega)
theorem sol_lt {ts : List Trade} {L : List (List Int)} (hc : ∀ x ∈ L, ∀ y ∈ succs ts x, y ∈ L) {R : List Int → Int} (h : Sol ts L R) {x : List Int} (hx : x ∈ L) : R x < (L.length : Int) := by
  have h0 := h.nonneg hx
  have hp := pigeon (R x).toNat (L.map R) (fun u hu => by
    obtain ⟨y, hy, e⟩ := sol_all hc h (R x).toNat x hx (by omega) u hu
    exact List.mem_map.2 ⟨y, hy, e⟩)
  rw [List.length_map] at hp
  omega
/-! The program's rounds. -/
theorem rnd_true (ts : List Trade) : ∀ (l : List (List Int)) (R : List Int → Int), (rnd ts l R true).2 = true
  | [], _ => rfl
  | x :: r, R => by
    unfold rnd
    split
    · exact rnd_true ts r R
    · exact rnd_true ts r _
theorem rnd_same {ts : List Trade} : ∀ (l : List (List Int)) (R : List Int → Int), (rnd ts l R false).2 = false → (rnd ts l R false).1 = R ∧ ∀ x ∈ l, R x = best R (succs ts x) 0
  | [], R, _ => ⟨rfl, fun x hx => by simp at hx⟩
  | x :: r, R, h => by
    unfold rnd at h ⊢
    split at h
    · rename_i e
      rw [if_pos e]
      obtain ⟨h1, h2⟩ := rnd_same r R h
      refine ⟨h1, fun y hy => ?_⟩
      rcases List.mem_cons.1 hy with rfl | hy
      · exact e.symm
      · exact h2 y hy
    · rw [rnd_true] at h; cases h
theorem rnd_fix {ts : List Trade} {R : List Int → Int} {b : Bool} : ∀ l : List (List Int), (∀ x ∈ l, R x = best R (succs ts x) 0) → rnd ts l R b = (R, b)
  | [], _ => rfl
  | x :: r, h => by
    unfold rnd
    rw [if_pos (h x (by simp)).symm]
    exact rnd_fix r (fun y hy => h y (by simp [hy]))
theorem rnd_exact {ts : List Trade} {L : List (List Int)} (hc : ∀ x ∈ L, ∀ y ∈ succs ts x, y ∈ L) {Q : List Int → Int} (hQ : Sol ts L Q) (v : Int) : ∀ (l : List (List Int)) (R : List Int → Int) (b : Bool), (∀ x ∈ l, x ∈ L) → (∀ x ∈ L, Q x ≤ v → R x = Q x) →
    (∀ z ∈ L, Q z ≤ v + 1 → R z = Q z → (rnd ts l R b).1 z = Q z) ∧ (∀ z ∈ l, Q z ≤ v + 1 → (rnd ts l R b).1 z = Q z)
  | [], R, b, _, _ => ⟨fun z _ _ h => h, fun z hz => by simp at hz⟩
  | x :: r, R, b, hl, hE => by
    have hx := hl x (by simp)
    have hbest : Q x ≤ v + 1 → best R (succs ts x) 0 = Q x := fun hv => by
      rw [hQ x hx]
      refine best_congr _ _ (fun y hy => hE y (hc x hx y hy) ?_)
      have := hQ.lt hx hy
      omega
    have hE' : ∀ z ∈ L, Q z ≤ v + 1 → R z = Q z → upd1 R x (best R (succs ts x) 0) z = Q z := fun z hz hv e => by
      unfold upd1
      by_cases h : z = x
      · subst h; rw [if_pos rfl]; exact hbest hv
      · rw [if_neg h]; exact e
    unfold rnd
    split
    · rename_i e
      obtain ⟨i1, i2⟩ := rnd_exact hc hQ v r R b (fun y hy => hl y (by simp [hy])) hE
      refine ⟨i1, fun z hz hv => ?_⟩
      rcases List.mem_cons.1 hz with rfl | hz
      · exact i1 z hx hv (by rw [← e]; exact hbest hv)
      · exact i2 z hz hv
    · obtain ⟨i1, i2⟩ := rnd_exact hc hQ v r (upd1 R x (best R (succs ts x) 0)) true (fun y hy => hl y (by simp [hy])) (fun z hz hv => hE' z hz (by omega) (hE z hz hv))
      refine ⟨fun z hz hv e => i1 z hz hv (hE' z hz hv e), fun z hz hv => ?_⟩
      rcases List.mem_cons.1 hz with rfl | hz
      · refine i1 z hx hv ?_
        unfold upd1
        rw [if_pos rfl]; exact hbest hv
      · exact i2 z hz hv
theorem iterI_sol {ts : List Trade} {L : List (List Int)} {h : List Int} (hh : h ∈ L) (hc : ∀ x ∈ L, ∀ y ∈ succs ts x, y ∈ L) {Q : List Int → Int} (hQ : Sol ts L Q) : ∀ (n : Nat) (v : Nat) (R : List Int → Int), (∀ x ∈ L, Q x ≤ (v : Int) → R x = Q x) → L.length ≤ n + 1 + v → iterI ts L h (n + 1) R = Q h := by
  intro n
  induction n with
  | zero =>
    intro v R hE hn
    have hall : ∀ x ∈ L, R x = Q x := fun x hx => hE x hx (by have := sol_lt hc hQ hx; omega)
    unfold iterI
    rw [rnd_fix L (fun x hx => by rw [hall x hx, hQ x hx]; exact (best_congr _ _ (fun y hy => hall y (hc x hx y hy))).symm)]
    exact hall h hh
  | succ n ih =>
    intro v R hE hn
    unfold iterI
    cases hb : (rnd ts L R false).2 with
    | false =>
      obtain ⟨h1, h2⟩ := rnd_same L R hb
      rw [if_neg (by simp), h1]
      exact sol_same hc hQ (R' := R) h2 hh
    | true =>
      rw [if_pos rfl]
      exact ih (v + 1) _ (fun x hx hv => (rnd_exact hc hQ (v : Int) L R false (fun _ h => h) hE).2 x hx (by omega)) (by omega)
theorem iterI_none {ts : List Trade} {L : List (List Int)} {h : List Int} (hn : ¬ ∃ Q, Sol ts L Q) : ∀ (n : Nat) (R : List Int → Int), iterI ts L h n R = -1
  | 0, _ => rfl
  | n + 1, R => by
    unfold iterI
    cases hb : (rnd ts L R false).2 with
    | false => exact absurd ⟨R, (rnd_same L R hb).2⟩ hn
    | true => rw [if_pos rfl]; exact iterI_none hn n _
/-! The reference's rounds. -/
theorem bs_all {S : List Int → Int} : ∀ (ys : List (List Int)) (b : Int), (∀ y ∈ ys, 0 ≤ S y) → bs S ys b = best S ys b
  | [], _, _ => rfl
  | z :: r, b, h => by
    have := h z (by simp)
    unfold bs best
    rw [if_neg (by omega)]
    exact bs_all r _ (fun y hy => h y (by simp [hy]))
theorem bs_neg {S : List Int → Int} : ∀ (ys : List (List Int)) (b : Int), (∃ y ∈ ys, S y < 0) → bs S ys b = -1
  | [], _, h => by obtain ⟨y, hy, _⟩ := h; simp at hy
  | z :: r, b, h => by
    unfold bs
    by_cases hz : S z < 0
    · rw [if_pos hz]
    · rw [if_neg hz]
      obtain ⟨y, hy, h1⟩ := h
      rcases List.mem_cons.1 hy with rfl | hy
      · exact absurd h1 hz
      · exact bs_neg r _ ⟨y, hy, h1⟩
def SI (ts : List Trade) (L : List (List Int)) (S : List Int → Int) : Prop := ∀ x ∈ L, S x = -1 ∨ (0 ≤ S x ∧ (∀ y ∈ succs ts x, 0 ≤ S y) ∧ S x = best S (succs ts x) 0)
theorem all_or (S : List Int → Int) (ys : List (List Int)) : (∀ y ∈ ys, 0 ≤ S y) ∨ ∃ y ∈ ys, S y < 0 := by
  by_cases h : ∃ y ∈ ys, S y < 0
  · exact .inr h
  · exact .inl fun y hy => by
      by_cases h2 : S y < 0
      · exact absurd ⟨y, hy, h2⟩ h
      · omega
theorem upd_self {S : List Int → Int} {x : List Int} {v : Int} (h : S x = v) : upd1 S x v = S := by
  funext y
  unfold upd1
  split
  · rename_i e; rw [e, h]
  · rfl
/-- One step of a round. -/
theorem step_si {ts : List Trade} {L : List (List Int)} {S : List Int → Int} (hS : SI ts L S) {x : List Int} (hx : x ∈ L) (hu : ¬ 0 ≤ S x) :
    SI ts L (upd1 S x (bs S (succs ts x) 0)) ∧ (∀ z, 0 ≤ S z → upd1 S x (bs S (succs ts x) 0) z = S z) ∧ ((∀ y ∈ succs ts x, 0 ≤ S y) → 0 ≤ upd1 S x (bs S (succs ts x) 0) x ∧ 0 ≤ bs S (succs ts x) 0) ∧ ((∃ y ∈ succs ts x, S y < 0) → upd1 S x (bs S (succs ts x) 0) = S ∧ bs S (succs ts x) 0 = -1) := by
  have hkeep : ∀ z, 0 ≤ S z → upd1 S x (bs S (succs ts x) 0) z = S z := fun z hz => by
    unfold upd1
    rw [if_neg (fun e => hu (by rw [← e]; exact hz))]
  have hneg : (∃ y ∈ succs ts x, S y < 0) → upd1 S x (bs S (succs ts x) 0) = S ∧ bs S (succs ts x) 0 = -1 := fun h => by
    have h1 := bs_neg (succs ts x) 0 h
    rw [h1]
    exact ⟨upd_self ((hS x hx).resolve_right (fun q => hu q.1)), rfl⟩
  have hpos : (∀ y ∈ succs ts x, 0 ≤ S y) → 0 ≤ upd1 S x (bs S (succs ts x) 0) x ∧ 0 ≤ bs S (succs ts x) 0 := fun h => by
    have h1 := bs_all (succs ts x) 0 h
    have h2 := (best_ge S (succs ts x) 0).1
    rw [h1]
    unfold upd1
    rw [if_pos rfl]
    exact ⟨h2, h2⟩
  refine ⟨?_, hkeep, hpos, hneg⟩
  rcases all_or S (succs ts x) with h | h
  · intro z hz
    by_cases e : z = x
    · subst e
      refine .inr ⟨(hpos h).1, fun y hy => by rw [hkeep y (h y hy)]; exact h y hy, ?_⟩
      have h1 : upd1 S z (bs S (succs ts z) 0) z = bs S (succs ts z) 0 := by unfold upd1; rw [if_pos rfl]
      rw [h1, bs_all _ _ h]
      exact best_congr _ _ (fun y hy => by rw [← bs_all (succs ts z) 0 h, hkeep y (h y hy)])
    · have h1 : upd1 S x (bs S (succs ts x) 0) z = S z := by unfold upd1; rw [if_neg e]
      rcases hS z hz with q | ⟨q1, q2, q3⟩
      · exact .inl (h1.trans q)
      · refine .inr ⟨by rw [h1]; exact q1, fun y hy => by rw [hkeep y (q2 y hy)]; exact q2 y hy, ?_⟩
        rw [h1, q3]
        exact best_congr _ _ (fun y hy => (hkeep y (q2 y hy)).symm)
  · rw [(hneg h).1]; exact hS
theorem rs_spec {ts : List Trade} {L : List (List Int)} : ∀ (l : List (List Int)) (S : List Int → Int) (m : Bool), (∀ x ∈ l, x ∈ L) → SI ts L S →
    SI ts L (rs ts l S m).1 ∧ (∀ z, 0 ≤ S z → (rs ts l S m).1 z = S z) ∧ (∀ x ∈ l, (∀ y ∈ succs ts x, 0 ≤ S y) → 0 ≤ (rs ts l S m).1 x) ∧
    ((rs ts l S m).2 = false → m = false ∧ (rs ts l S m).1 = S ∧ ∀ x ∈ l, 0 ≤ S x ∨ ∃ y ∈ succs ts x, S y < 0)
  | [], S, m, _, hS => ⟨hS, fun _ _ => rfl, fun x hx => by simp at hx, fun h => ⟨h, rfl, fun x hx => by simp at hx⟩⟩
  | x :: r, S, m, hl, hS => by
    have hx := hl x (by simp)
    unfold rs
    by_cases hd : 0 ≤ S x
    · rw [if_pos hd]
      obtain ⟨i1, i2, i3, i4⟩ := rs_spec r S m (fun y hy => hl y (by simp [hy])) hS
      refine ⟨i1, i2, fun z hz hy => ?_, fun h => ?_⟩
      · rcases List.mem_cons.1 hz with rfl | hz
        · rw [i2 z hd]; exact hd
        · exact i3 z hz hy
      · obtain ⟨j1, j2, j3⟩ := i4 h
        refine ⟨j1, j2, fun z hz => ?_⟩
        rcases List.mem_cons.1 hz with rfl | hz
        · exact .inl hd
        · exact j3 z hz
    · rw [if_neg hd]
      obtain ⟨s1, s2, s3, s4⟩ := step_si hS hx hd
      obtain ⟨i1, i2, i3, i4⟩ := rs_spec r _ (m || decide (bs S (succs ts x) 0 ≥ 0)) (fun y hy => hl y (by simp [hy])) s1
      refine ⟨i1, fun z hz => ?_, fun z hz hy => ?_, fun h => ?_⟩
      · rw [i2 z (by rw [s2 z hz]; exact hz), s2 z hz]
      · rcases List.mem_cons.1 hz with rfl | hz
        · have := (s3 hy).1
          rw [i2 z this]; exact this
        · exact i3 z hz (fun y hyy => by rw [s2 y (hy y hyy)]; exact hy y hyy)
      · obtain ⟨j1, j2, j3⟩ := i4 h
        rw [Bool.or_eq_false_iff, decide_eq_false_iff_not] at j1
        rcases all_or S (succs ts x) with q | q
        · have := (s3 q).2; omega
        · obtain ⟨q1, q2⟩ := s4 q
          rw [q1] at j2 j3 ⊢
          refine ⟨j1.1, j2, fun z hz => ?_⟩
          rcases List.mem_cons.1 hz with rfl | hz
          · exact .inr q
          · exact j3 z hz
theorem done_val {ts : List Trade} {L : List (List Int)} (hc : ∀ x ∈ L, ∀ y ∈ succs ts x, y ∈ L) {Q S : List Int → Int} (hQ : Sol ts L Q) (hS : SI ts L S) : ∀ (v : Nat) (x : List Int), x ∈ L → 0 ≤ S x → S x ≤ v → S x = Q x := by
  intro v
  induction v with
  | zero =>
    intro x hx h0 hv
    rcases hS x hx with q | ⟨q1, q2, q3⟩
    · omega
    · rw [q3, hQ x hx]
      refine best_congr _ _ (fun y hy => ?_)
      have := (best_ge S (succs ts x) 0).2 y hy
      have := q2 y hy
      omega
  | succ v ih =>
    intro x hx h0 hv
    rcases hS x hx with q | ⟨q1, q2, q3⟩
    · omega
    · rw [q3, hQ x hx]
      refine best_congr _ _ (fun y hy => ih y (hc x hx y hy) (q2 y hy) ?_)
      have := (best_ge S (succs ts x) 0).2 y hy
      omega
theorem iterS_sol {ts : List Trade} {L : List (List Int)} {h : List Int} (hh : h ∈ L) (hc : ∀ x ∈ L, ∀ y ∈ succs ts x, y ∈ L) {Q : List Int → Int} (hQ : Sol ts L Q) : ∀ (n v : Nat) (S : List Int → Int), SI ts L S → (∀ x ∈ L, Q x < (v : Int) → 0 ≤ S x) → L.length ≤ n + v → iterS ts L h n S = Q h := by
  intro n
  induction n with
  | zero =>
    intro v S hS hE hn
    have h0 := hE h hh (by have := sol_lt hc hQ hh; omega)
    exact done_val hc hQ hS (S h).toNat h hh h0 (by omega)
  | succ n ih =>
    intro v S hS hE hn
    obtain ⟨i1, i2, i3, i4⟩ := rs_spec L.reverse S false (fun x hx => List.mem_reverse.1 hx) hS
    unfold iterS
    cases hb : (rs ts L.reverse S false).2 with
    | true =>
      rw [if_pos rfl]
      refine ih (v + 1) _ i1 (fun x hx hv => i3 x (List.mem_reverse.2 hx) (fun y hy => hE y (hc x hx y hy) ?_)) (by omega)
      have := hQ.lt hx hy
      omega
    | false =>
      rw [if_neg (by simp)]
      obtain ⟨_, j2, j3⟩ := i4 hb
      rw [j2]
      have all : ∀ (u : Nat) (x : List Int), x ∈ L → Q x < (u : Int) → 0 ≤ S x := by
        intro u
        induction u with
        | zero => intro x hx hu; have := hQ.nonneg hx; omega
        | succ u ihu =>
          intro x hx hu
          rcases j3 x (List.mem_reverse.2 hx) with q | ⟨y, hy, q⟩
          · exact q
          · have := hQ.lt hx hy
            have := ihu y (hc x hx y hy) (by omega)
            omega
      have h0 := all ((Q h).toNat + 1) h hh (by have := hQ.nonneg hh; omega)
      exact done_val hc hQ hS (S h).toNat h hh h0 (by omega)
theorem iterS_none {ts : List Trade} {L : List (List Int)} {h : List Int} (hR : Reach ts h L) (hn : ¬ ∃ Q, Sol ts L Q) : ∀ (n : Nat) (S : List Int → Int), SI ts L S → iterS ts L h n S = -1 := by
  have hh : h ∈ L := List.mem_of_getElem? hR.first
  have fin : ∀ S : List Int → Int, SI ts L S → S h = -1 := fun S hS => by
    rcases hS h hh with q | ⟨q1, q2, q3⟩
    · exact q
    · exfalso
      have all : ∀ (j : Nat) (x : List Int), L[j]? = some x → 0 ≤ S x := by
        intro j
        induction j using Nat.strongRecOn with
        | _ j ih =>
          intro x hx
          by_cases h0 : j = 0
          · subst h0
            have : x = h := by rw [hR.first] at hx; exact (Option.some.inj hx).symm
            rw [this]; exact q1
          · obtain ⟨j', x', h1, h2, h3⟩ := hR.from' j x (by omega) hx
            have h4 := ih j' h1 x' h2
            rcases hS x' (List.mem_of_getElem? h2) with p | ⟨p1, p2, p3⟩
            · omega
            · exact p2 x h3
      refine hn ⟨S, fun x hx => ?_⟩
      obtain ⟨j, hj⟩ := List.getElem?_of_mem hx
      have := all j x hj
      rcases hS x hx with p | ⟨p1, p2, p3⟩
      · omega
      · exact p3
  intro n
  induction n with
  | zero => intro S hS; exact fin S hS
  | succ n ih =>
    intro S hS
    obtain ⟨i1, _⟩ := rs_spec L.reverse S false (fun x hx => List.mem_reverse.1 hx) hS
    unfold iterS
    split
    · exact ih _ i1
    · exact fin _ i1
def longV (ts : List Trade) (h : List Int) : Int := if reachV ts h = [] then -1 else iterI ts (reachV ts h) h (reachV ts h).length (fun _ => 0)
theorem long_cases {ts : List Trade} {h : List Int} (hne : reachV ts h ≠ []) : (∃ Q, Sol ts (reachV ts h) Q ∧ longV ts h = Q h ∧ 0 ≤ Q h ∧ iterS ts (reachV ts h) h ((reachV ts h).length + 1) (fun _ => -1) = Q h) ∨ ((¬ ∃ Q, Sol ts (reachV ts h) Q) ∧ longV ts h = -1 ∧ iterS ts (reachV ts h) h ((reachV ts h).length + 1) (fun _ => -1) = -1) := by
  obtain ⟨hR, _, _⟩ := reach_of hne
  have hh : h ∈ reachV ts h := List.mem_of_getElem? hR.first
  unfold longV
  rw [if_neg hne]
  have hsi : SI ts (reachV ts h) (fun _ => -1) := fun x _ => .inl rfl
  by_cases hx : ∃ Q, Sol ts (reachV ts h) Q
  · obtain ⟨Q, hQ⟩ := hx
    refine .inl ⟨Q, hQ, ?_, hQ.nonneg hh, iterS_sol hh hR.closed hQ _ 0 _ hsi (fun x hx hv => by have := hQ.nonneg hx; omega) (by omega)⟩
    have hl : 0 < (reachV ts h).length := List.length_pos_of_mem hh
    obtain ⟨n, hn⟩ : ∃ n, (reachV ts h).length = n + 1 := ⟨(reachV ts h).length - 1, by omega⟩
    rw [hn]
    exact iterI_sol hh hR.closed hQ n 0 _ (fun x hx hv => by have := hQ.nonneg hx; show (0 : Int) = Q x; omega) (by omega)
  · exact .inr ⟨hx, iterI_none hx _ _, iterS_none hR hx _ _ hsi⟩
/-- What comes of a heap that is reached. -/
theorem long_next {ts : List Trade} {h : List Int} (hne : reachV ts h ≠ []) {Q : List Int → Int} (hQ : Sol ts (reachV ts h) Q) {y : List Int} (hy : y ∈ reachV ts h) : longV ts y = Q y := by
  obtain ⟨hR, hh, htV⟩ := reach_of hne
  have hv := hR.valid y hy
  obtain ⟨L', e1, e2, r, e3⟩ := reachL_some hR.closed hR.len 402 0 [y] (by simp) (fun x hx => by simp at hx; subst hx; exact hy) (by simp) (by omega)
  have hV : reachV ts y = L' := by unfold reachV; rw [if_pos ⟨hv, htV⟩, e1]; rfl
  have hne' : reachV ts y ≠ [] := by rw [hV, e3]; simp
  have hy' : y ∈ reachV ts y := by rw [hV, e3]; simp
  have hQ' : Sol ts (reachV ts y) Q := fun x hx => hQ x (e2 x (by rw [← hV]; exact hx))
  rcases long_cases hne' with ⟨Q', h1, h2, _⟩ | ⟨h1, _⟩
  · rw [h2]
    exact sol_same (reach_of hne').1.closed hQ' h1 hy'
  · exact absurd ⟨Q, hQ'⟩ h1
/-- Where it is told, it comes of a way to count. -/
theorem long_sol {ts : List Trade} {h : List Int} (hn : 0 ≤ longV ts h) : reachV ts h ≠ [] ∧ ∃ Q, Sol ts (reachV ts h) Q ∧ longV ts h = Q h := by
  have hne : reachV ts h ≠ [] := fun e => by
    have : longV ts h = -1 := by unfold longV; rw [if_pos e]
    omega
  refine ⟨hne, ?_⟩
  rcases long_cases hne with ⟨Q, h1, h2, _⟩ | ⟨_, h2, _⟩
  · exact ⟨Q, h1, h2⟩
  · omega
theorem long_neg {ts : List Trade} {h : List Int} (hn : ¬ 0 ≤ longV ts h) : longV ts h = -1 := by
  by_cases hne : reachV ts h = []
  · unfold longV; rw [if_pos hne]
  · rcases long_cases hne with ⟨Q, h1, h2, h3, _⟩ | ⟨_, h2, _⟩
    · omega
    · exact h2
/-! Two rows of numbers held against each other by the reference. -/
theorem eq_step1 {a b : List Int} {i : Nat} (h1 : i < a.length) (h2 : i < b.length) : decide (a.drop i = b.drop i) = (decide (a[i] = b[i]) && decide (a.drop (i + 1) = b.drop (i + 1))) := by
  have e : (a.drop i = b.drop i) ↔ (a[i] = b[i] ∧ a.drop (i + 1) = b.drop (i + 1)) := by
    have e1 := List.drop_eq_getElem_cons h1
    have e2 := List.drop_eq_getElem_cons h2
    constructor
    · intro h
      rw [e1, e2] at h
      exact ⟨(List.cons.inj h).1, (List.cons.inj h).2⟩
    · rintro ⟨h, h'⟩
      rw [e1, e2, h, h']
  rw [← Bool.decide_and]
  exact decide_eq_decide.2 e
theorem same_ev (a b : List Int) (ha : a.length ≤ 1000000000) : Ev (fun k => spec_l1Same.f k a b) (decide (a = b)) := by
  refine ev_succ (fun k => spec_l1Same.f_eq k _ _) ?_
  have loop : ∀ d i : Nat, i + d = a.length → i ≤ b.length → Ev (fun k => spec_l1Same.l0 k a b (i : Int)) (decide (a.drop i = b.drop i)) := by
    intro d
    induction d with
    | zero =>
      intro i hi hb
      refine ev_succ (fun k => spec_l1Same.l0_eq k _ _ _) (ev_df (by omega) (ev_some.2 ?_))
      rw [List.drop_eq_nil_of_le (by omega : a.length ≤ i)]
      by_cases h : a.length = b.length
      · rw [List.drop_eq_nil_of_le (by omega)]; simp [h]
      · rw [decide_eq_false (by omega)]
        refine (decide_eq_false (fun h2 => h ?_)).symm
        have := congrArg List.length h2
        rw [List.length_drop] at this
        simp at this
        omega
    | succ d ih =>
      intro i hi hb
      refine ev_succ (fun k => spec_l1Same.l0_eq k _ _ _) (ev_dt (by omega) ?_)
      by_cases h : i < b.length
      · refine ev_dt (by omega) (ev_gd (by omega) (ev_gd (by omega) ?_))
        rw [get_nat (by omega : i < a.length), get_nat h, eq_step1 (by omega) h, w_succ (by omega)]
        cases h : decide (a[i] = b[i]) with
        | false => exact ev_nt rfl (ev_some.2 rfl)
        | true => exact ev_nf rfl (by rw [Bool.true_and]; exact ih (i + 1) (by omega) (by omega))
      · refine ev_df (by omega) (ev_some.2 ?_)
        rw [decide_eq_false (by omega), List.drop_eq_nil_of_le (by omega : b.length ≤ i)]
        refine (decide_eq_false (fun h2 => ?_)).symm
        have := congrArg List.length h2
        rw [List.length_drop] at this
        simp at this
        omega
  exact loop a.length 0 (by omega) (by omega)
/-! The longest rows of exchanges: both sides. -/
def NOk (M : List ((Int × Int × Int) × Int)) (R : List Int → Int) : Prop := ∀ x, vh 40 x = true → mpGet (.int .i64) (keyT x) M = R x
theorem NOk.upd {M : List ((Int × Int × Int) × Int)} {R : List Int → Int} (h : NOk M R) {x : List Int} (hx : vh 40 x = true) (v : Int) : NOk (mpSet (.int .i64) (keyT x) v M) (upd1 R x v) := by
  intro y hy
  rw [mp_get_set]
  unfold upd1
  by_cases e : keyT y = keyT x
  · rw [if_pos e, if_pos (keyT_inj hy hx e)]
  · rw [if_neg e, if_neg (fun e' => e (by rw [e'])), h y hy]
def Bd (lo B : Int) (R : List Int → Int) : Prop := ∀ y, lo ≤ R y ∧ R y ≤ B
theorem best_bd {R : List Int → Int} {B : Int} (h : Bd 0 B R) : ∀ (ys : List (List Int)) (n : Int), 0 ≤ n → n ≤ B + 1 → 0 ≤ best R ys n ∧ best R ys n ≤ B + 1
  | [], n, h0, h1 => ⟨h0, h1⟩
  | y :: r, n, h0, h1 => by
    have := h y
    unfold best
    exact best_bd h r _ (by omega) (by omega)
theorem Bd.upd {R : List Int → Int} {lo B : Int} (h : Bd lo B R) {x : List Int} {v : Int} (h0 : lo ≤ v) (h1 : v ≤ B + 1) : Bd lo (B + 1) (upd1 R x v) := by
  intro y
  have := h y
  unfold upd1
  split <;> constructor <;> omega
theorem Bd.le {R : List Int → Int} {lo B C : Int} (h : Bd lo B R) (hc : B ≤ C) : Bd lo C R := fun y => ⟨(h y).1, by have := (h y).2; omega⟩
theorem implLong_ev (h : List Int) (ts : List Trade) (hl : h.length ≤ 1048576) (h2 : ts.length ≤ 1048576) (hr : ∀ t ∈ ts, TrOk t) : Ev (fun k => impl_LongestTrades.f k h ts) (longV ts h) := by
  refine ev_succ (fun k => impl_LongestTrades.f_eq k _ _) (ev_bind (implReach_ev h ts hl h2 hr) ?_)
  unfold longV
  by_cases hne : reachV ts h = []
  · rw [if_pos hne]
    exact ev_bt (by rw [hne]; rfl) (ev_some.2 rfl)
  · rw [if_neg hne]
    obtain ⟨hR, hh, htV⟩ := reach_of hne
    refine ev_bf (by cases hL : reachV ts h with | nil => exact absurd hL hne | cons a l => rfl) ?_
    generalize hL : reachV ts h = L at hR hne ⊢
    have hts := hR.trades
    have h4 := (tsV_of htV).2
    have hlen := hR.len
    have inner : ∀ (d j m i : Nat) (R : List Int → Int) (M : List ((Int × Int × Int) × Int)) (B n : Int) (b : Bool) (x : List Int), j + d = ts.length → vh 40 x = true → NOk M R → Bd 0 B R → B ≤ 1000000 → 0 ≤ n → n ≤ B + 1 → ∀ r,
        Ev (fun k => gate (decide (3 ≤ x.length)) <| br (!decide (best R (succs (ts.drop j) x) n = (mpGet (.int .i64) ((x.getD 0 0, x.getD 1 0, x.getD 2 0) : Int × Int × Int) M))) (gate (decide (3 ≤ x.length)) <| impl_LongestTrades.l1 k h ts L (mpSet (.int .i64) ((x.getD 0 0, x.getD 1 0, x.getD 2 0) : Int × Int × Int) (best R (succs (ts.drop j) x) n) M) true (L.length : Int) (i : Int) L (L.length : Int) (wr ((m : Int) + 1))) (impl_LongestTrades.l1 k h ts L M b (L.length : Int) (i : Int) L (L.length : Int) (wr ((m : Int) + 1)))) r →
        Ev (fun k => impl_LongestTrades.l2 k h ts L M b x n (L.length : Int) (i : Int) L (L.length : Int) (m : Int) ts (ts.length : Int) (j : Int)) r := by
      intro d
      induction d with
      | zero =>
        intro j m i R M B n b x hj hv hM hB hB1 h0 h1 r k1
        refine ev_succ (fun k => impl_LongestTrades.l2_eq k _ _ _ _ _ _ _ _ _ _ _ _ _ _ _) (ev_df (by omega) ?_)
        rw [List.drop_eq_nil_of_le (show ts.length ≤ j by omega)] at k1
        exact k1
      | succ d ih =>
        intro j m i R M B n b x hj hv hM hB hB1 h0 h1 r k1
        have hlt : j < ts.length := by omega
        have htj := hts ts[j] (List.getElem_mem hlt)
        rw [List.drop_eq_getElem_cons hlt, succs_cons] at k1
        refine ev_succ (fun k => impl_LongestTrades.l2_eq k _ _ _ _ _ _ _ _ _ _ _ _ _ _ _) (ev_dt (by omega) (ev_gd (by omega) ?_))
        rw [at_tr hlt, w_succ (i := j) (by omega)]
        refine ev_bind (traded_ev hv htj) ?_
        cases hd : (mvV x ts[j]).2 with
        | false =>
          rw [hd] at k1
          exact ev_bf rfl (ih (j + 1) m i R M B n b x (by omega) hv hM hB hB1 h0 h1 r k1)
        | true =>
          rw [hd] at k1
          simp only [if_true] at k1
          have hy := mvV_ok hv htj hd
          have hy3 := mv_len hv htj hd
          have hg : mpGet (.int .i64) ((mvV x ts[j]).1.getD 0 0, (mvV x ts[j]).1.getD 1 0, (mvV x ts[j]).1.getD 2 0) M = R (mvV x ts[j]).1 := hM _ hy
          have hb := hB (mvV x ts[j]).1
          refine ev_bt rfl (ev_gd (by omega) ?_)
          rw [hg, w64 (by omega) (by omega)]
          exact ih (j + 1) m i R M B _ b x (by omega) hv hM hB hB1 (by omega) (by omega) r k1
    have mid : ∀ (d m i : Nat) (R : List Int → Int) (M : List ((Int × Int × Int) × Int)) (B : Int) (b : Bool), m + d = L.length → NOk M R → Bd 0 B R → 0 ≤ B → B + d ≤ 1000000 → ∀ r,
        (∀ M', NOk M' (rnd ts (L.drop m) R b).1 → Bd 0 (B + d) (rnd ts (L.drop m) R b).1 → Ev (fun k => br (!(rnd ts (L.drop m) R b).2) (gate (decide (3 ≤ h.length)) <| some (mpGet (.int .i64) ((h.getD 0 0, h.getD 1 0, h.getD 2 0) : Int × Int × Int) M')) (impl_LongestTrades.l0 k h ts L M' (L.length : Int) (wr ((i : Int) + 1)))) r) →
        Ev (fun k => impl_LongestTrades.l1 k h ts L M b (L.length : Int) (i : Int) L (L.length : Int) (m : Int)) r := by
      intro d
      induction d with
      | zero =>
        intro m i R M B b hm hM hB hB0 hB1 r k1
        refine ev_succ (fun k => impl_LongestTrades.l1_eq k _ _ _ _ _ _ _ _ _ _) (ev_df (by omega) ?_)
        rw [List.drop_eq_nil_of_le (show L.length ≤ m by omega)] at k1
        exact k1 M hM (hB.le (by omega))
      | succ d ih =>
        intro m i R M B b hm hM hB hB0 hB1 r k1
        have hlt : m < L.length := by omega
        have hv := hR.valid L[m] (List.getElem_mem hlt)
        have hv3 := (vh_len hv).1
        rw [List.drop_eq_getElem_cons hlt] at k1
        refine ev_succ (fun k => impl_LongestTrades.l1_eq k _ _ _ _ _ _ _ _ _ _) (ev_dt (by omega) (ev_gd (by omega) ?_))
        rw [at_out (List.getElem?_eq_getElem hlt)]
        refine inner ts.length 0 m i R M B 0 b L[m] (by omega) hv hM hB (by omega) (by omega) (by omega) r (ev_gd (by omega) ?_)
        rw [List.drop_zero, w_succ (i := m) (by omega)]
        have hb := best_bd hB (succs ts L[m]) 0 (by omega) (by omega)
        have hg : mpGet (.int .i64) (L[m].getD 0 0, L[m].getD 1 0, L[m].getD 2 0) M = R L[m] := hM _ hv
        unfold rnd at k1
        rw [hg]
        by_cases e : best R (succs ts L[m]) 0 = R L[m]
        · rw [if_pos e] at k1
          refine ev_nf (decide_eq_true e) ?_
          exact ih (m + 1) i R M B b (by omega) hM hB hB0 (by omega) r (fun M' q1 q2 => k1 M' q1 (q2.le (by omega)))
        · rw [if_neg e] at k1
          refine ev_nt (decide_eq_false e) (ev_gd (by omega) ?_)
          refine ih (m + 1) i (upd1 R L[m] (best R (succs ts L[m]) 0)) _ (B + 1) true (by omega) (hM.upd hv _) (hB.upd hb.1 hb.2) (by omega) (by omega) r (fun M' q1 q2 => k1 M' q1 (q2.le (by omega)))
    have outer : ∀ (n i : Nat) (R : List Int → Int) (M : List ((Int × Int × Int) × Int)), i + n = L.length → NOk M R → Bd 0 (400 * i) R → Ev (fun k => impl_LongestTrades.l0 k h ts L M (L.length : Int) (i : Int)) (iterI ts L h n R) := by
      intro n
      induction n with
      | zero =>
        intro i R M hi hM hB
        exact ev_succ (fun k => impl_LongestTrades.l0_eq k _ _ _ _ _ _) (ev_df (by omega) (ev_some.2 rfl))
      | succ n ih =>
        intro i R M hi hM hB
        refine ev_succ (fun k => impl_LongestTrades.l0_eq k _ _ _ _ _ _) (ev_dt (by omega) ?_)
        refine mid L.length 0 i R M (400 * i) false (by omega) hM hB (by omega) (by omega) _ (fun M' q1 q2 => ?_)
        rw [List.drop_zero] at q1 q2 ⊢
        unfold iterI
        cases hb : (rnd ts L R false).2 with
        | true =>
          rw [if_pos rfl, w_succ (by omega)]
          exact ev_nf rfl (ih (i + 1) _ M' (by omega) q1 (q2.le (by omega)))
        | false =>
          rw [if_neg (by simp)]
          refine ev_nt rfl (ev_gd (by rw [(vh_len hh).1]; omega) (ev_some.2 ?_))
          exact q1 h hh
    exact outer L.length 0 _ [] (by omega) (fun x _ => rfl) (fun x => ⟨by simp, by simp⟩)
/-! The reference's side. -/
def LOk (lg : List Int) (L : List (List Int)) (S : List Int → Int) : Prop := lg.length = L.length ∧ ∀ (i : Nat) (h : i < L.length), lg.getD i 0 = S L[i]
theorem nodup_at {L : List (List Int)} (hn : L.Nodup) {i j : Nat} (hi : i < L.length) (hj : j < L.length) (h : L[i] = L[j]) : i = j := by
  have hp := List.pairwise_iff_getElem.1 hn
  rcases Nat.lt_trichotomy i j with q | q | q
  · exact absurd h (hp i j hi hj q)
  · exact q
  · exact absurd h.symm (hp j i hj hi q)
theorem LOk.upd {lg : List Int} {L : List (List Int)} {S : List Int → Int} (h : LOk lg L S) (hn : L.Nodup) {k : Nat} (hk : k < L.length) (v : Int) : LOk (lg.set k v) L (upd1 S L[k] v) := by
  refine ⟨by simp [h.1], fun i hi => ?_⟩
  have h1 := h.1
  rw [List.getD_eq_getElem?_getD, List.getElem?_set]
  unfold upd1
  by_cases e : k = i
  · subst e
    rw [if_pos rfl, if_pos (by omega), if_pos rfl]; rfl
  · rw [if_neg e, if_neg (fun e' => e (nodup_at hn hi hk e').symm), ← h.2 i hi, List.getD_eq_getElem?_getD]
theorem index_ev {L : List (List Int)} (hn : L.Nodup) (hlen : L.length ≤ 400) (hv : ∀ x ∈ L, x.length ≤ 100) {y : List Int} {q : Nat} (hq : q < L.length) (hy : L[q] = y) : Ev (fun k => spec_l8Index.f k L y) (q : Int) := by
  refine ev_succ (fun k => spec_l8Index.f_eq k _ _) ?_
  have loop : ∀ d i : Nat, i + d = q → Ev (fun k => spec_l8Index.l0 k L y (i : Int)) (q : Int) := by
    intro d
    induction d with
    | zero =>
      intro i hi
      have : i = q := by omega
      subst this
      refine ev_succ (fun k => spec_l8Index.l0_eq k _ _ _) (ev_gd (by omega) ?_)
      rw [at_out (List.getElem?_eq_getElem hq)]
      refine ev_bind (same_ev _ _ (by have := hv _ (List.getElem_mem hq); omega)) (ev_nf (decide_eq_true hy) (ev_some.2 rfl))
    | succ d ih =>
      intro i hi
      have hil : i < L.length := by omega
      refine ev_succ (fun k => spec_l8Index.l0_eq k _ _ _) (ev_gd (by omega) ?_)
      rw [at_out (List.getElem?_eq_getElem hil), w_succ (by omega)]
      refine ev_bind (same_ev _ _ (by have := hv _ (List.getElem_mem hil); omega)) (ev_nt (decide_eq_false (fun e => ?_)) (ih (i + 1) (by omega)))
      have := nodup_at hn hil hq (e.trans hy.symm)
      omega
  exact loop q 0 (by omega)
theorem bs_bd {S : List Int → Int} {B : Int} (h : Bd (-1) B S) : ∀ (ys : List (List Int)) (n : Int), 0 ≤ n → n ≤ B + 1 → -1 ≤ bs S ys n ∧ bs S ys n ≤ B + 1
  | [], n, h0, h1 => ⟨by unfold bs; omega, h1⟩
  | y :: r, n, h0, h1 => by
    have := h y
    unfold bs
    split
    · omega
    · exact bs_bd h r _ (by omega) (by omega)
theorem specLong_ev (h : List Int) (ts : List Trade) (hl : h.length ≤ 1048576) (h2 : ts.length ≤ 1048576) (hr : ∀ t ∈ ts, TrOk t) : Ev (fun k => spec_LongestTrades.f k h ts) (longV ts h) := by
  refine ev_succ (fun k => spec_LongestTrades.f_eq k _ _) (ev_bind (specReach_ev h ts hl h2 hr) ?_)
  by_cases hne : reachV ts h = []
  · have : longV ts h = -1 := by unfold longV; rw [if_pos hne]
    rw [this]
    exact ev_dt (by rw [hne]; rfl) (ev_some.2 rfl)
  · have hsame : iterS ts (reachV ts h) h ((reachV ts h).length + 1) (fun _ => -1) = longV ts h := by
      rcases long_cases hne with ⟨Q, _, e1, _, e2⟩ | ⟨_, e1, e2⟩
      · rw [e1, e2]
      · rw [e1, e2]
    rw [← hsame]
    obtain ⟨hR, hh, htV⟩ := reach_of hne
    have hpos : 0 < (reachV ts h).length := by cases hL : reachV ts h with | nil => exact absurd hL hne | cons a l => simp
    refine ev_df (by omega) ?_
    clear hsame
    generalize hL : reachV ts h = L at hR hne hpos ⊢
    have hts := hR.trades
    have h4 := (tsV_of htV).2
    have hlen := hR.len
    have hv3 : ∀ x ∈ L, x.length = 3 := fun x hx => (vh_len (hR.valid x hx)).1
    have hfst : L[0] = h := by have := hR.first; rw [List.getElem?_eq_getElem hpos] at this; exact Option.some.inj this
    have inner : ∀ (d j : Nat) (p c : Nat) (S : List Int → Int) (lg : List Int) (B n : Int) (b : Bool) (hc : c < L.length), j + d = ts.length → LOk lg L S → Bd (-1) B S → B ≤ 1000000 → 0 ≤ n → n ≤ B + 1 → ∀ r,
        Ev (fun k => spec_LongestTrades.l2 k ts L (lg.set c (bs S (succs (ts.drop j) L[c]) n)) (p : Int) (b || decide (bs S (succs (ts.drop j) L[c]) n ≥ 0)) (wr ((c : Int) - 1))) r →
        Ev (fun k => spec_LongestTrades.l3 k ts L lg (p : Int) b (c : Int) n (j : Int)) r := by
      intro d
      have tail : ∀ (p c : Nat) (lg : List Int) (n : Int) (b : Bool), c < L.length → lg.length = L.length → ∀ r, Ev (fun k => spec_LongestTrades.l2 k ts L (lg.set c n) (p : Int) (b || decide (n ≥ 0)) (wr ((c : Int) - 1))) r →
          Ev (fun k => gate (decide (0 ≤ (c : Int) ∧ (c : Int) < (lg.length : Int))) <| gate (decide ((c : Int).toNat < lg.length)) <| br (b) (spec_LongestTrades.l2 k ts L (lg.set (c : Int).toNat n) (p : Int) true (wr ((c : Int) - 1))) (spec_LongestTrades.l2 k ts L (lg.set (c : Int).toNat n) (p : Int) (decide (n ≥ 0)) (wr ((c : Int) - 1)))) r := by
        intro p c lg n b hc hlg r k1
        refine ev_gd (by omega) (ev_gd (by omega) ?_)
        rw [Int.toNat_natCast]
        cases b with
        | true => exact ev_bt rfl k1
        | false => exact ev_bf rfl (by rw [Bool.false_or] at k1; exact k1)
      induction d with
      | zero =>
        intro j p c S lg B n b hc hj hS hB hB1 h0 h1 r k1
        refine ev_succ (fun k => spec_LongestTrades.l3_eq k _ _ _ _ _ _ _ _) (ev_df (by omega) ?_)
        rw [List.drop_eq_nil_of_le (show ts.length ≤ j by omega)] at k1
        exact tail p c lg n b hc hS.1 r k1
      | succ d ih =>
        intro j p c S lg B n b hc hj hS hB hB1 h0 h1 r k1
        have hlt : j < ts.length := by omega
        have htj := hts ts[j] (List.getElem_mem hlt)
        have hmem := List.getElem_mem hc
        have hv := hR.valid L[c] hmem
        have hS1 := hS.1
        rw [List.drop_eq_getElem_cons hlt, succs_cons] at k1
        refine ev_succ (fun k => spec_LongestTrades.l3_eq k _ _ _ _ _ _ _ _) (ev_dt (by omega) (ev_dt (by omega) (ev_gd (by omega) (ev_gd (by omega) ?_))))
        rw [at_out (List.getElem?_eq_getElem hc), at_tr hlt, w_succ (i := j) (by omega)]
        have hdo := sDoT_ev L[c] ts[j] (by rw [(vh_len hv).1]; omega) (tr_ok htj)
        rw [if_pos ⟨hv, htj⟩] at hdo
        refine ev_bind hdo ?_
        cases hd : (mvV L[c] ts[j]).2 with
        | false =>
          rw [hd] at k1
          exact ev_nt rfl (ih (j + 1) p c S lg B n b hc (by omega) hS hB hB1 h0 h1 r k1)
        | true =>
          rw [hd] at k1
          simp only [if_true] at k1
          have hys : (mvV L[c] ts[j]).1 ∈ succs ts L[c] := List.mem_filterMap.2 ⟨ts[j], List.getElem_mem hlt, by rw [hd]; rfl⟩
          obtain ⟨q, hq, hqe⟩ := List.getElem_of_mem (hR.closed L[c] hmem _ hys)
          have hb := hB (mvV L[c] ts[j]).1
          have hlg : lg.getD (q : Int).toNat 0 = S (mvV L[c] ts[j]).1 := by rw [Int.toNat_natCast, hS.2 q hq, hqe]
          refine ev_nf rfl (ev_bind (index_ev hR.nodup hlen (fun x hx => by have := hv3 x hx; omega) hq hqe) (ev_gd (by omega) ?_))
          rw [hlg]
          unfold bs at k1
          by_cases hneg : S (mvV L[c] ts[j]).1 < 0
          · rw [if_pos hneg] at k1
            refine ev_dt hneg (ev_succ (fun k => spec_LongestTrades.l3_eq k _ _ _ _ _ _ _ _) ?_)
            by_cases hlast : ((j + 1 : Nat) : Int) < (ts.length : Int)
            · exact ev_dt hlast (ev_df (by omega) (tail p c lg (-1) b hc hS.1 r k1))
            · exact ev_df hlast (tail p c lg (-1) b hc hS.1 r k1)
          · rw [if_neg hneg] at k1
            refine ev_df hneg (ev_gd (by omega) ?_)
            rw [w64 (by omega) (by omega)]
            exact ih (j + 1) p c S lg B _ b hc (by omega) hS hB hB1 (by omega) (by omega) r k1
    have mid : ∀ (c p : Nat) (S : List Int → Int) (lg : List Int) (B : Int) (b : Bool), c ≤ L.length → LOk lg L S → Bd (-1) B S → 0 ≤ B → B + c ≤ 1000000 → ∀ r,
        (∀ lg', LOk lg' L (rs ts (L.take c).reverse S b).1 → Bd (-1) (B + c) (rs ts (L.take c).reverse S b).1 → Ev (fun k => br (!(rs ts (L.take c).reverse S b).2) (gate (decide (0 ≤ (0 : Int) ∧ (0 : Int) < (lg'.length : Int))) <| some (lg'.getD ((0 : Int).toNat) 0)) (spec_LongestTrades.l1 k ts L lg' (wr ((p : Int) + 1)))) r) →
        Ev (fun k => spec_LongestTrades.l2 k ts L lg (p : Int) b ((c : Int) - 1)) r := by
      intro c
      induction c with
      | zero =>
        intro p S lg B b hc hS hB hB0 hB1 r k1
        refine ev_succ (fun k => spec_LongestTrades.l2_eq k _ _ _ _ _ _) (ev_df (by omega) ?_)
        exact k1 lg hS (hB.le (by omega))
      | succ c ih =>
        intro p S lg B b hc hS hB hB0 hB1 r k1
        have hlt : c < L.length := by omega
        have hS1 := hS.1
        rw [List.take_succ_eq_append_getElem hlt, List.reverse_append] at k1
        simp only [List.reverse_cons, List.reverse_nil, List.nil_append, List.singleton_append, List.cons_append] at k1
        refine ev_succ (fun k => spec_LongestTrades.l2_eq k _ _ _ _ _ _) ?_
        have e1 : ((c + 1 : Nat) : Int) - 1 = (c : Int) := by omega
        rw [e1]
        have e2 : wr ((c : Int) - 1) = (c : Int) - 1 := w64 (by omega) (by omega)
        have e3 : lg.getD (c : Int).toNat 0 = S L[c] := by rw [Int.toNat_natCast, hS.2 c hlt]
        refine ev_dt (by omega) (ev_gd (by omega) ?_)
        rw [e3, e2]
        unfold rs at k1
        by_cases hd : 0 ≤ S L[c]
        · rw [if_pos hd] at k1
          exact ev_dt hd (ih p S lg B b (by omega) hS hB hB0 (by omega) r (fun lg' q1 q2 => k1 lg' q1 (q2.le (by omega))))
        · rw [if_neg hd] at k1
          have hb := bs_bd hB (succs ts L[c]) 0 (by omega) (by omega)
          refine ev_df (by omega) (inner ts.length 0 p c S lg B 0 b hlt (by omega) hS hB (by omega) (by omega) (by omega) r ?_)
          rw [List.drop_zero, e2]
          exact ih p _ _ (B + 1) _ (by omega) (hS.upd hR.nodup hlt _) (hB.upd hb.1 hb.2) (by omega) (by omega) r (fun lg' q1 q2 => k1 lg' q1 (q2.le (by omega)))
    have outer : ∀ (n p : Nat) (S : List Int → Int) (lg : List Int), p + n = L.length + 1 → LOk lg L S → Bd (-1) (400 * p) S → Ev (fun k => spec_LongestTrades.l1 k ts L lg (p : Int)) (iterS ts L h n S) := by
      intro n
      induction n with
      | zero =>
        intro p S lg hp hS hB
        have hS1 := hS.1
        refine ev_succ (fun k => spec_LongestTrades.l1_eq k _ _ _ _) (ev_df (by omega) (ev_gd (by omega) (ev_some.2 ?_)))
        have := hS.2 0 hpos
        rw [hfst] at this
        exact this
      | succ n ih =>
        intro p S lg hp hS hB
        refine ev_succ (fun k => spec_LongestTrades.l1_eq k _ _ _ _) (ev_dt (by omega) ?_)
        rw [w64 (x := (L.length : Int) - 1) (by omega) (by omega)]
        refine mid L.length p S lg (400 * p) false (Nat.le_refl _) hS hB (by omega) (by omega) _ (fun lg' q1 q2 => ?_)
        rw [List.take_length] at q1 q2 ⊢
        have hS1 := q1.1
        unfold iterS
        cases hb : (rs ts L.reverse S false).2 with
        | true =>
          rw [if_pos rfl, w_succ (by omega)]
          exact ev_nf rfl (ih (p + 1) _ lg' (by omega) q1 (q2.le (by omega)))
        | false =>
          rw [if_neg (by simp)]
          refine ev_nt rfl (ev_gd (by omega) (ev_some.2 ?_))
          have := q1.2 0 hpos
          rw [hfst] at this
          exact this
    have fill : ∀ d i : Nat, i + d = L.length → Ev (fun k => spec_LongestTrades.l0 k ts L (List.replicate i (-1)) (i : Int)) (iterS ts L h (L.length + 1) (fun _ => -1)) := by
      intro d
      induction d with
      | zero =>
        intro i hi
        refine ev_succ (fun k => spec_LongestTrades.l0_eq k _ _ _ _) (ev_df (by omega) ?_)
        refine outer (L.length + 1) 0 _ _ (by omega) ⟨by simp; omega, fun j hj => ?_⟩ (fun x => ⟨by simp, by simp⟩)
        rw [List.getD_eq_getElem?_getD, List.getElem?_replicate, if_pos (by omega)]; rfl
      | succ d ih =>
        intro i hi
        refine ev_succ (fun k => spec_LongestTrades.l0_eq k _ _ _ _) (ev_dt (by omega) (ev_gd (by rw [limE]; simp; omega) ?_))
        rw [w_succ (by omega)]
        have : List.replicate i (-1 : Int) ++ [-1] = List.replicate (i + 1) (-1) := by rw [List.replicate_succ']
        rw [this]
        exact ih (i + 1) (by omega)
    exact fill L.length 0 (by omega)
/-! Draws. -/
def BOK (b : List Int) : Prop := b.length ≤ 2000 ∧ ∀ x ∈ b, 0 ≤ x ∧ x ≤ 255
theorem BOK.rd_ {b : List Int} (h : BOK b) (i : Nat) : 0 ≤ b.getD i 0 ∧ b.getD i 0 ≤ 255 := by
  rw [List.getD_eq_getElem?_getD]
  cases e : b[i]? with
  | none => simp
  | some x => exact h.2 x (List.mem_of_getElem? e)
theorem xor_pos {X Y : Int} (h0 : 0 ≤ X) (h1 : X < 9223372036854775808) (h2 : 0 ≤ Y) (h3 : Y < 9223372036854775808) : 0 ≤ wr ((BitVec.ofInt (IntKind.bits .i64) X) ^^^ (BitVec.ofInt (IntKind.bits .i64) Y)).toNat := by
  obtain ⟨a, rfl⟩ := Int.eq_ofNat_of_zero_le h0
  obtain ⟨b, rfl⟩ := Int.eq_ofNat_of_zero_le h2
  have hx : a ^^^ b < 2 ^ 63 := Nat.xor_lt_two_pow (by omega) (by omega)
  have h1 : a % 2 ^ IntKind.i64.bits = a := Nat.mod_eq_of_lt (by simp [IntKind.bits]; omega)
  have h2 : b % 2 ^ IntKind.i64.bits = b := Nat.mod_eq_of_lt (by simp [IntKind.bits]; omega)
  rw [wr_eq]
  simp only [BitVec.ofInt_natCast, BitVec.toNat_xor, BitVec.toNat_ofNat, h1, h2]
  unfold wrap64
  omega
def mixX (c1 c2 k q : Int) : Int := wr (wr (wr (wr (wr c1 * 131) + wr (wr c2 * 1117)) + wr (k * 29)) + wr (wr q * 53))
theorem mixX_pos {c1 c2 k q : Int} (h1 : 0 ≤ c1) (h2 : c1 ≤ 255) (h3 : 0 ≤ c2) (h4 : c2 ≤ 255) (h5 : 0 ≤ k) (h6 : k ≤ 1000000000000) (h7 : 0 ≤ q) (h8 : q ≤ 1000000000000) : 0 ≤ mixX c1 c2 k q ∧ mixX c1 c2 k q < 9223372036854775808 := by
  unfold mixX
  rw [w64 (x := c1) (by omega) (by omega), w64 (x := c2) (by omega) (by omega), w64 (x := q) (by omega) (by omega)]
  rw [w64 (x := c1 * 131) (by omega) (by omega), w64 (x := c2 * 1117) (by omega) (by omega), w64 (x := k * 29) (by omega) (by omega), w64 (x := q * 53) (by omega) (by omega)]
  rw [w64 (x := c1 * 131 + c2 * 1117) (by omega) (by omega), w64 (x := c1 * 131 + c2 * 1117 + k * 29) (by omega) (by omega), w64 (by omega) (by omega)]
  omega
theorem tmod_in {x n : Int} (hx : 0 ≤ x) (hn : 0 < n) : 0 ≤ Int.tmod x n ∧ Int.tmod x n < n := ⟨Int.tmod_nonneg _ hx, Int.tmod_lt_of_pos _ hn⟩
abbrev Rd := List Int × Int × Unit
/-- Behind some draws: the same row, and the place not far on. -/
def At (b : List Int) (p q : Int) (r : Rd) : Prop := r.1 = b ∧ p ≤ r.2.1 ∧ r.2.1 ≤ q
def Picked (b : List Int) (p n : Int) (x : Int × Rd) : Prop := x.2 = (b, p + 1, ()) ∧ 0 ≤ x.1 ∧ (x.1 < n ∨ x.1 = 0)
theorem pick_ev {b : List Int} (hb : BOK b) {p n : Int} (h0 : 0 ≤ p) (h1 : p ≤ 1000000000000) (hn : n < 9223372036854775807) : EvP (fun k => spec_l20Rd__pick.f k b p n) (Picked b p n) := by
  refine evp_succ (fun k => spec_l20Rd__pick.f_eq k b p n) ?_
  rw [w64 (x := p + 1) (by omega) (by omega), show p + 1 - 1 = p by omega, w64 (x := p) (by omega) (by omega)]
  refine evp_d (fun _ => evp_some ⟨rfl, by simp, .inr rfl⟩) (fun n1 => evp_d (fun _ => evp_some ⟨rfl, by simp, .inr rfl⟩) (fun hl => ?_))
  have hl2 := hb.1
  refine evp_d (fun hlt => ?_) (fun hge => ?_)
  · refine evp_gd ⟨h0, hlt⟩ (evp_gn (by omega) (evp_some ?_))
    have := hb.rd_ p.toNat
    rw [w64 (by omega) (by omega)]
    have t := tmod_in this.1 (show 0 < n by omega)
    exact ⟨rfl, t.1, .inl t.2⟩
  · have t1 := tmod_in h0 (show (0 : Int) < b.length by omega)
    have d1 : 0 ≤ Int.tdiv p b.length ∧ Int.tdiv p b.length ≤ p := by
      rw [Int.tdiv_eq_ediv_of_nonneg h0]
      exact ⟨Int.ediv_nonneg h0 (by omega), Int.ediv_le_self _ h0⟩
    have e3 : wr (wr (p * 7) + 3) = p * 7 + 3 := by rw [w64 (x := p * 7) (by omega) (by omega), w64 (by omega) (by omega)]
    rw [e3]
    have t2 := tmod_in (show 0 ≤ p * 7 + 3 by omega) (show (0 : Int) < b.length by omega)
    refine evp_gn hl (evp_gd t1 (evp_gn hl (evp_gd t2 (evp_gn hl (evp_gn (by omega) (evp_some ?_))))))
    have r1 := hb.rd_ (Int.tmod p b.length).toNat
    have r2 := hb.rd_ (Int.tmod (p * 7 + 3) b.length).toNat
    have hX := mixX_pos r1.1 r1.2 r2.1 r2.2 h0 h1 d1.1 (by omega)
    have hY : 0 ≤ wr (Int.tdiv (mixX (b.getD (Int.tmod p b.length).toNat 0) (b.getD (Int.tmod (p * 7 + 3) b.length).toNat 0) p (Int.tdiv p b.length)) 64) ∧ wr (Int.tdiv (mixX (b.getD (Int.tmod p b.length).toNat 0) (b.getD (Int.tmod (p * 7 + 3) b.length).toNat 0) p (Int.tdiv p b.length)) 64) < 9223372036854775808 := by
      rw [Int.tdiv_eq_ediv_of_nonneg hX.1, w64 (by omega) (by omega)]
      omega
    have t := tmod_in (xor_pos hX.1 hX.2 hY.1 hY.2) (show 0 < n by omega)
    exact ⟨rfl, t.1, .inl t.2⟩
theorem open_ev {b : List Int} (hb : ∀ x ∈ b, (Lit.int .u8 x).wf = true) (hl : b.length < 9223372036854775807) : EvP (fun k => spec_l20Open.f k b) (fun x => BOK x.1 ∧ x.2 = (0, ())) := by
  have hx : ∀ x ∈ b, 0 ≤ x ∧ x ≤ 255 := fun x hx => by
    have := hb x hx
    simp [Lit.wf, IntKind.min, IntKind.max, IntKind.signed, IntKind.bits] at this
    omega
  refine evp_succ (fun k => spec_l20Open.f_eq k b) ?_
  refine evp_d (fun h => evp_gd (by omega) (evp_some ⟨⟨?_, fun x hm => hx x (List.mem_of_mem_take hm)⟩, rfl⟩)) (fun h => evp_some ⟨⟨by show b.length ≤ 2000; omega, hx⟩, rfl⟩)
  show (b.take 2000).length ≤ 2000
  rw [List.length_take]
  omega
theorem odd_ev {b : List Int} (hb : BOK b) {p n : Int} (h0 : 0 ≤ p) (h1 : p ≤ 1000000000000) (hn : n < 9223372036854775807) : EvP (fun k => spec_l20Rd__odd.f k b p n) (fun x => At b p (p + 1) x.2) := by
  refine evp_succ (fun k => spec_l20Rd__odd.f_eq k b p n) ?_
  refine evp_d (fun _ => ?_) (fun _ => evp_some ⟨rfl, by simp, by simp; omega⟩)
  refine evp_bind (pick_ev hb h0 h1 hn) (fun a ⟨ha, _⟩ => evp_some ⟨?_, ?_, ?_⟩) <;> simp [ha] <;> omega
def Drawn (b : List Int) (p : Int) (S C : Nat) (x : List Int × Rd) : Prop := x.1.length ≤ S ∧ At b p (p + C) x.2
/-! Drawn heaps. -/
theorem heaps_ev {b : List Int} (hb : BOK b) (m : Int) (hm : m < 9223372036854775807) (p : Int) (h0 : 0 ≤ p) (h1 : p ≤ 500000000000) : EvP (fun k => spec_l20Heaps.f k b p m) (Drawn b p 3 10) := by
  refine evp_succ (fun k => spec_l20Heaps.f_eq k _ _ _) (evp_bind (pick_ev hb h0 (by omega) (by omega)) (fun a1 ⟨e1, _⟩ => ?_))
  rw [e1]
  refine evp_bind (pick_ev hb (by simp <;> omega) (by simp <;> omega) (by omega)) (fun a2 ⟨e2, _⟩ => ?_)
  rw [e2]
  refine evp_bind (pick_ev hb (by simp <;> omega) (by simp <;> omega) (by omega)) (fun a3 ⟨e3, _⟩ => ?_)
  rw [e3]
  refine evp_bind (odd_ev hb (by simp <;> omega) (by simp <;> omega) hm) (fun a ⟨a1, a2, a3⟩ => ?_)
  obtain ⟨c, b', q, u⟩ := a
  simp only at a1 a2 a3
  subst a1
  dsimp only
  refine evp_b (fun _ => evp_bind (pick_ev hb (by omega) (by omega) (by omega)) (fun e ⟨e1, e2, e3⟩ => ?_)) (fun _ => evp_some ⟨by simp, rfl, by simp <;> omega, by simp <;> omega⟩)
  rw [e1]
  refine evp_d (fun _ => evp_gd (by simp) (evp_some ⟨by simp, rfl, by simp <;> omega, by simp <;> omega⟩)) (fun _ => evp_d (fun _ => evp_gd (by simp) (evp_gd (by simp) (evp_some ⟨by simp, rfl, by simp <;> omega, by simp <;> omega⟩))) (fun _ => evp_gd (by simp) (evp_gd (by simp) (evp_some ⟨by simp, rfl, by simp <;> omega, by simp <;> omega⟩))))
/-! Drawn exchanges. -/
def Sm (t : Trade) : Prop := t.f0.length = 3 ∧ t.f1.length = 3
def Sm1 (t : Trade) : Prop := t.f0.length ≤ 3 ∧ t.f1.length ≤ 3
theorem Sm.one {t : Trade} (h : Sm t) : Sm1 t := by obtain ⟨a, b⟩ := h; exact ⟨by omega, by omega⟩
theorem Sm1.ok {t : Trade} (h : Sm1 t) : TrOk t := by obtain ⟨a, b⟩ := h; exact ⟨by unfold RowOk; omega, by unfold RowOk; omega⟩
def DTr (b : List Int) (p C : Int) (x : List Trade × Rd) : Prop := x.1.length ≤ 5 ∧ (∀ t ∈ x.1, Sm1 t) ∧ At b p (p + C) x.2
theorem things_ev {b : List Int} (hb : BOK b) (p : Int) (h0 : 0 ≤ p) (h1 : p ≤ 500000000000) : EvP (fun k => spec_l20Things.f k b p 2) (fun x => x.1.length = 3 ∧ At b p (p + 6) x.2) := by
  refine evp_succ (fun k => spec_l20Things.f_eq k _ _ _) ?_
  have loop : ∀ (d i : Nat) (acc : List Int) (q : Int), i + d = 3 → acc.length = i → q = p + 2 * i → EvP (fun k => spec_l20Things.l0 k b q 2 acc (i : Int)) (fun x => x.1.length = 3 ∧ At b p (p + 6) x.2) := by
    intro d
    induction d with
    | zero =>
      intro i acc q hi ha hq
      exact evp_succ (fun k => spec_l20Things.l0_eq k _ _ _ _ _) (evp_d (fun h => by omega) (fun _ => evp_some ⟨by show acc.length = 3; omega, rfl, by show p ≤ q; omega, by show q ≤ p + 6; omega⟩))
    | succ d ih =>
      intro i acc q hi ha hq
      refine evp_succ (fun k => spec_l20Things.l0_eq k _ _ _ _ _) (evp_d (fun _ => ?_) (fun h => by omega))
      refine evp_bind (pick_ev hb (by omega) (by omega) (by omega)) (fun a1 ⟨e1, _⟩ => ?_)
      rw [e1]
      refine evp_bind (pick_ev hb (by simp <;> omega) (by simp <;> omega) (by rw [w64 (by omega) (by omega)]; omega)) (fun a2 ⟨e2, _⟩ => ?_)
      rw [e2, w_succ (by omega)]
      refine evp_gd (by rw [limE]; simp; omega) (ih (i + 1) _ _ (by omega) (by simp [ha]) ?_)
      show q + 1 + 1 = p + 2 * ((i + 1 : Nat) : Int)
      omega
  exact loop 3 0 [] p (by omega) rfl (by omega)
theorem tr_j1 {b : List Int} (hb : BOK b) (m : Int) (hm : m < 9223372036854775807) (p0 p : Int) (h0 : 0 ≤ p) (h1 : p ≤ 600000000000) (hp : p0 ≤ p) (hq : p ≤ p0 + 90) (ts : List Trade) (hl : 0 < ts.length) (hl4 : ts.length ≤ 4) (ht : ∀ t ∈ ts, Sm1 t) : EvP (fun k => spec_l20Trades.j1 k b p m ts) (DTr b p0 100) := by
  refine evp_succ (fun k => spec_l20Trades.j1_eq k _ _ _ _) (evp_bind (odd_ev hb (by omega) (by omega) hm) (fun a ⟨a1, a2, a3⟩ => ?_))
  obtain ⟨c, b', q, u⟩ := a
  simp only at a1 a2 a3
  subst a1
  dsimp only
  have hg : ∀ i : Nat, Sm1 (ts.getD i (⟨([] : List Int), ([] : List Int)⟩ : Trade)) := fun i => by
    rw [List.getD_eq_getElem?_getD]
    cases e : ts[i]? with
    | none => exact ⟨by simp, by simp⟩
    | some t => exact ht t (List.mem_of_getElem? e)
  have hset : ∀ t, Sm1 t → ∀ x ∈ ts.set (0 : Int).toNat t, Sm1 x := fun t h x hx => by
    rcases List.mem_or_eq_of_mem_set hx with q | q
    · exact ht x q
    · rw [q]; exact h
  refine evp_b (fun _ => evp_bind (pick_ev hb (by omega) (by omega) (by omega)) (fun e ⟨e1, e2, e3⟩ => ?_)) (fun _ => evp_some ⟨by show ts.length ≤ 5; omega, ht, rfl, by show p0 ≤ q; omega, by show q ≤ p0 + 100; omega⟩)
  rw [e1]
  refine evp_d (fun _ => evp_gd (by omega) (evp_gd (by omega) (evp_some ⟨by simp; omega, hset _ ⟨by simp, (hg 0).2⟩, rfl, by simp <;> omega, by simp <;> omega⟩))) (fun _ => evp_d (fun _ => evp_gd (by omega) (evp_gd (by omega) (evp_some ⟨by simp; omega, hset _ ⟨(hg 0).1, by simp⟩, rfl, by simp <;> omega, by simp <;> omega⟩))) (fun _ => ?_))
  have loop : ∀ (d : Nat) (ts : List Trade), ts.length + d = 5 → 0 < ts.length → (∀ t ∈ ts, Sm1 t) → EvP (fun k => spec_l20Trades.l2 k b' (q + 1) ts) (DTr b' p0 100) := by
    intro d
    induction d with
    | zero =>
      intro ts h5 _ ht
      exact evp_succ (fun k => spec_l20Trades.l2_eq k _ _ _) (evp_d (fun h => by omega) (fun _ => evp_some ⟨by show ts.length ≤ 5; omega, ht, rfl, by show p0 ≤ q + 1; omega, by show q + 1 ≤ p0 + 100; omega⟩))
    | succ d ih =>
      intro ts h5 hp ht
      refine evp_succ (fun k => spec_l20Trades.l2_eq k _ _ _) (evp_d (fun _ => evp_gd (by omega) (evp_gd (by rw [limE]; simp; omega) ?_)) (fun h => by omega))
      refine ih _ (by simp; omega) (by simp) (fun t h => ?_)
      rcases List.mem_append.1 h with q | q
      · exact ht t q
      · rw [List.mem_singleton.1 q, List.getD_eq_getElem?_getD]
        cases e : ts[(0 : Int).toNat]? with
        | none => exact ⟨by simp, by simp⟩
        | some t => exact ht t (List.mem_of_getElem? e)
  exact loop (5 - ts.length) ts (by omega) hl ht
theorem trades_ev {b : List Int} (hb : BOK b) (m : Int) (hm : m < 9223372036854775807) (p : Int) (h0 : 0 ≤ p) (h1 : p ≤ 400000000000) : EvP (fun k => spec_l20Trades.f k b p m) (DTr b p 100) := by
  refine evp_succ (fun k => spec_l20Trades.f_eq k _ _ _) (evp_bind (pick_ev hb h0 (by omega) (by omega)) (fun a ⟨a1, a2, a3⟩ => ?_))
  rw [a1]
  obtain ⟨n, hn, hn4⟩ : ∃ n : Nat, a.1 = (n : Int) - 1 + 1 ∧ n ≤ 3 := ⟨a.1.toNat, by omega, by omega⟩
  dsimp only
  have loop : ∀ (n : Nat) (acc : List Trade) (q : Int), acc.length + n ≤ 4 → 0 < acc.length + n → (∀ t ∈ acc, Sm1 t) → p + 1 ≤ q → q ≤ p + 1 + 20 * acc.length → EvP (fun k => spec_l20Trades.l0 k b q m acc ((n : Int) - 1)) (DTr b p 100) := by
    intro n
    induction n with
    | zero =>
      intro acc q h4 hp ht q0 q1
      refine evp_succ (fun k => spec_l20Trades.l0_eq k _ _ _ _ _) (evp_d (fun h => by omega) (fun _ => evp_d (fun h => by omega) (fun _ => ?_)))
      exact tr_j1 hb m hm p q (by omega) (by omega) (by omega) (by omega) acc (by omega) (by omega) ht
    | succ n ih =>
      intro acc q h4 hp ht q0 q1
      have e1 : ((n + 1 : Nat) : Int) - 1 = (n : Int) := by omega
      rw [e1]
      refine evp_succ (fun k => spec_l20Trades.l0_eq k _ _ _ _ _) (evp_d (fun _ => ?_) (fun h => by omega))
      refine evp_bind (things_ev hb q (by omega) (by omega)) (fun x ⟨x1, x2⟩ => ?_)
      obtain ⟨r1, b1, p1, u1⟩ := x
      obtain ⟨rfl, x3, x4⟩ := x2
      simp only at x1 x3 x4
      dsimp only
      refine evp_bind (things_ev hb p1 (by omega) (by omega)) (fun x ⟨y1, y2⟩ => ?_)
      obtain ⟨r2, b2, p2, u2⟩ := x
      obtain ⟨rfl, y3, y4⟩ := y2
      simp only at y1 y3 y4
      dsimp only
      refine evp_bind (pick_ev hb (by omega) (by omega) (by omega)) (fun c ⟨c1, c2, c3⟩ => ?_)
      rw [c1]
      dsimp only
      have fin : ∀ (w0 w1 : List Int) (q' : Int), w0.length = 3 → w1.length = 3 → q ≤ q' → q' ≤ q + 20 → EvP (fun k => spec_l20Trades.j0 k b2 q' m acc (n : Int) w0 w1) (DTr b2 p 100) := by
        intro w0 w1 q' l0 l1 g0 g1
        refine evp_succ (fun k => spec_l20Trades.j0_eq k _ _ _ _ _ _ _) (evp_gd (by rw [limE]; simp; omega) ?_)
        rw [w64 (x := (n : Int) - 1) (by omega) (by omega)]
        refine ih _ q' (by simp; omega) (by simp; omega) (fun t h => ?_) (by omega) (by simp; omega)
        rcases List.mem_append.1 h with z | z
        · exact ht t z
        · rw [List.mem_singleton.1 z]; exact ⟨by show w0.length ≤ 3; omega, by show w1.length ≤ 3; omega⟩
      refine evp_d (fun _ => ?_) (fun _ => fin r1 r2 _ x1 y1 (by omega) (by omega))
      refine evp_bind (pick_ev hb (by omega) (by omega) (by omega)) (fun e ⟨e1, e2, e3⟩ => ?_)
      rw [e1]
      refine evp_bind (pick_ev hb (by simp <;> omega) (by simp <;> omega) (by omega)) (fun f ⟨f1, f2, f3⟩ => ?_)
      rw [f1]
      dsimp only
      refine evp_gd (by omega) (evp_gd (by omega) ?_)
      have inner : ∀ (d i : Nat) (w1 : List Int), (i : Int) + d = e.1 + 1 → w1.length = 3 → EvP (fun k => spec_l20Trades.l1 k b2 (p2 + 1 + 1 + 1) m acc (n : Int) (r1.set e.1.toNat (wr (1 + f.1))) w1 e.1 (i : Int)) (DTr b2 p 100) := by
        intro d
        induction d with
        | zero =>
          intro i w1 hi hw
          refine evp_succ (fun k => spec_l20Trades.l1_eq k _ _ _ _ _ _ _ _ _) (evp_d (fun h => by omega) (fun _ => fin _ w1 _ (by simp [x1]) hw (by omega) (by omega)))
        | succ d ihd =>
          intro i w1 hi hw
          refine evp_succ (fun k => spec_l20Trades.l1_eq k _ _ _ _ _ _ _ _ _) (evp_d (fun _ => evp_gd (by omega) (evp_gd (by omega) ?_)) (fun h => by omega))
          rw [w_succ (by omega)]
          exact ihd (i + 1) _ (by omega) (by simp [hw])
      exact inner (e.1.toNat + 1) 0 r2 (by omega) y1
  have := loop (n + 1) [] (p + 1) (by simp; omega) (by simp) (fun t h => by simp at h) (by omega) (by simp)
  rw [show (((n + 1 : Nat) : Int) - 1) = a.1 by omega] at this
  exact this
theorem drawMay_ev {l : List Int} (h3 : ∀ x ∈ l, (Lit.int .u8 x).wf = true) (hl : l.length < 9223372036854775807) : EvP (fun k => spec_DrawTradesMay.f k l) (fun x => x.1.length ≤ 3 ∧ x.2.length ≤ 5 ∧ ∀ t ∈ x.2, Sm1 t) := by
  refine evp_succ (fun k => spec_DrawTradesMay.f_eq k l) (evp_bind (open_ev h3 (by omega)) (fun a ⟨hb, ha⟩ => ?_))
  rw [ha]
  refine evp_bind (heaps_ev hb 12 (by omega) 0 (by omega) (by omega)) (fun x ⟨x1, x2, x3, x4⟩ => ?_)
  obtain ⟨r, b', q, u⟩ := x
  simp only at x1 x2 x3 x4
  subst x2
  dsimp only
  exact evp_bind (trades_ev hb 14 (by omega) q (by omega) (by omega)) (fun y ⟨y1, y2, _⟩ => evp_some ⟨x1, y1, y2⟩)
/-! Numbers and powers as ordinals. -/
def nm (n : Int) : List Term := if n = 0 then [] else [⟨n, []⟩]
theorem nm_fit {n : Int} (h0 : 0 ≤ n) (h1 : n ≤ 9999) : Fit (nm n) := by
  unfold nm
  split
  · exact ⟨vL_nil, by rw [mL_nil]; omega, by rw [size_nil]; omega⟩
  · exact ⟨(vL_one _).2 ⟨by show 1 ≤ n; omega, vL_nil⟩, by rw [mL_cons, mL_nil]; show max (max n 0) 0 ≤ 9999; omega, by rw [size_cons, size_nil]; show 1 + size [] + 1 ≤ 60; rw [size_nil]; omega⟩
theorem number_ev (n : Int) : Ev (fun k => impl_number.f k n) (nm n) := by
  refine ev_succ (fun k => impl_number.f_eq k n) ?_
  unfold nm
  by_cases h : n = 0
  · rw [if_pos h]; exact ev_dt h (ev_some.2 rfl)
  · rw [if_neg h]; exact ev_df h (ev_some.2 rfl)
theorem implOrdOf_ev {n : Int} (h0 : 0 ≤ n) (h1 : n ≤ 9999) : Ev (fun k => impl_OrdOf.f k n) (row (nm n)) := by
  have hs := (nm_fit h0 h1).s
  exact ev_succ (fun k => impl_OrdOf.f_eq k n) (ev_df (by omega) (ev_df (by omega) (ev_bind (number_ev n) (ev_bind (rowOf_ev _ (by omega)) (ev_some.2 rfl)))))
/-! Ordinals drawn. -/
theorem sOrdOf_ev {n : Int} (h0 : 0 ≤ n) (h1 : n ≤ 9999) : Ev (fun k => spec_OrdOf.f k n) (row (nm n)) := by
  refine ev_succ (fun k => spec_OrdOf.f_eq k n) (ev_bind (l1In_ev _ _ _) (ev_nf (by simp <;> omega) ?_))
  unfold nm
  by_cases h : n = 0
  · rw [if_pos h]; exact ev_dt h (ev_some.2 (by simp [row, fL_nil]))
  · rw [if_neg h]; exact ev_df h (ev_some.2 (by simp [row, fL_nil, fL_cons]))
def SB : Nat → Nat
  | 0 => 3
  | n + 1 => 4 + 3 * SB n
def CB : Nat → Nat
  | 0 => 1
  | n + 1 => 13 + 3 * CB n
theorem SB_mono {m n : Nat} (h : m ≤ n) : SB m ≤ SB n := by
  induction h with
  | refl => exact Nat.le_refl _
  | step _ ih => simp only [SB]; omega
theorem CB_mono {m n : Nat} (h : m ≤ n) : CB m ≤ CB n := by
  induction h with
  | refl => exact Nat.le_refl _
  | step _ ih => simp only [CB]; omega
theorem size_bound {x : List Term} {B : Nat} (h : ∀ t ∈ x, size t.f1 ≤ B) : size x ≤ 1 + x.length * (1 + B) := by
  induction x with
  | nil => simp [size_nil]
  | cons t x ih =>
    have h1 := h t List.mem_cons_self
    have h2 := ih fun u hu => h u (List.mem_cons_of_mem _ hu)
    rw [size_cons, List.length_cons, Nat.add_mul (x.length) 1]
    omega
def RawOk (b : List Int) (p : Int) (S C : Nat) (x : List Int × Rd) : Prop := ∃ y, x.1 = row y ∧ size y ≤ S ∧ At b p (p + C) x.2
theorem raw_ev {b : List Int} (hb : BOK b) : ∀ (N n : Nat), n ≤ N → N ≤ 3 → ∀ p : Int, 0 ≤ p → p + 10000 * N ≤ 900000000000 → EvP (fun k => spec_l20Raw.f k b p (n : Int)) (RawOk b p (SB n) (CB n)) := by
  intro N
  induction N with
  | zero =>
    intro n hn _ p h0 h1
    obtain rfl : n = 0 := by omega
    refine evp_succ (fun k => spec_l20Raw.f_eq k _ _ _) (evp_d (fun _ => ?_) (fun h => absurd rfl h))
    refine evp_bind (pick_ev hb h0 (by omega) (by omega)) (fun a ⟨ha, a1, a2⟩ => ?_)
    refine evp_bindv (sOrdOf_ev a1 (by omega)) (evp_some ⟨nm a.1, rfl, ?_, ?_⟩)
    · show size (nm a.1) ≤ 3
      unfold nm
      split
      · rw [size_nil]; omega
      · rw [size_cons, size_nil]; show 1 + size [] + 1 ≤ 3; rw [size_nil]; omega
    · rw [ha]; exact ⟨rfl, by simp <;> omega, by simp [CB]⟩
  | succ N ih =>
    intro n hn hN p h0 h1
    cases n with
    | zero => exact ih 0 (by omega) (by omega) p h0 (by omega)
    | succ n =>
      have hSB : SB n ≤ 43 := by
        have : n = 0 ∨ n = 1 ∨ n = 2 := by omega
        rcases this with rfl | rfl | rfl <;> decide
      have hCB : CB n ≤ 61 := by
        have : n = 0 ∨ n = 1 ∨ n = 2 := by omega
        rcases this with rfl | rfl | rfl <;> decide
      have loop : ∀ (c : Nat) (ts : List Term) (p : Int), ts.length + c ≤ 3 → (∀ t ∈ ts, size t.f1 ≤ SB n) → 0 ≤ p → p + 10000 * N + 100 * c ≤ 899999999000 → EvP (fun k => spec_l20Raw.l0 k b p ((n + 1 : Nat) : Int) (ts.map (·.f0)) (ts.map fun t => row t.f1) (c : Int)) (RawOk b p (SB (n + 1)) (c * (4 + CB n))) := by
        intro c
        induction c with
        | zero =>
          intro ts p hc hs h0 h1
          have hsz := size_bound hs
          have : ts.length * (1 + SB n) ≤ 3 * (1 + SB n) := Nat.mul_le_mul_right _ (by omega)
          refine evp_succ (fun k => spec_l20Raw.l0_eq k _ _ _ _ _ _) (evp_d (fun h => by omega) (fun _ => ?_))
          exact evp_bindv (make_ev ts (by omega)) (evp_some ⟨ts, rfl, by simp only [SB]; omega, rfl, by simp, by simp⟩)
        | succ c ihc =>
          intro ts p hc hs h0 h1
          -- with an exponent
          have body : ∀ (e : List Term) (q : Int), size e ≤ SB n → p ≤ q → q ≤ p + 2 + CB n → EvP (fun k => spec_l20Raw.j0 k b q ((n + 1 : Nat) : Int) (ts.map (·.f0)) (ts.map fun t => row t.f1) ((c + 1 : Nat) : Int) (row e)) (RawOk b p (SB (n + 1)) ((c + 1) * (4 + CB n))) := by
            intro e q he hq1 hq2
            have next : ∀ (us : List Term) (q' : Int), us.length + c ≤ 3 → (∀ t ∈ us, size t.f1 ≤ SB n) → q ≤ q' → q' ≤ q + 2 → EvP (fun k => spec_l20Raw.l0 k b q' ((n + 1 : Nat) : Int) (us.map (·.f0)) (us.map fun t => row t.f1) (wr (((c + 1 : Nat) : Int) - 1))) (RawOk b p (SB (n + 1)) ((c + 1) * (4 + CB n))) := by
              intro us q' hu1 hu2 h3 h4
              rw [show wr (((c + 1 : Nat) : Int) - 1) = (c : Int) by rw [w64 (by omega) (by omega)]; omega]
              refine evp_mono (ihc us q' hu1 hu2 (by omega) (by omega)) (fun x ⟨y, y1, y2, y3, y4, y5⟩ => ⟨y, y1, y2, y3, by omega, ?_⟩)
              rw [Nat.add_mul]
              omega
            -- put in between
            have ins : ∀ at_ : Nat, at_ ≤ ts.length → EvP (fun k => gate (decide (0 ≤ (0 : Int) ∧ (0 : Int) ≤ (at_ : Int) ∧ (at_ : Int) ≤ ((ts.map (·.f0)).length : Int))) <| gate (decide (([] : List Int).length + (((ts.map (·.f0)).take (at_ : Int).toNat).drop ((0 : Int).toNat)).length < lim)) <| (spec_l20Rd__pick.f k b q 3).bind fun r10 => (spec_l20Rd__pick.f k r10.2.1 r10.2.2.1 60).bind fun r11 => gate (decide ((([] : List Int) ++ (((ts.map (·.f0)).take (at_ : Int).toNat).drop ((0 : Int).toNat))).length + ([(wr ((wr (1 + r10.1)) + (wr ((wr (r11.1.tdiv 59)) * 60))))] : List Int).length < lim)) <| gate (decide (0 ≤ (at_ : Int) ∧ (at_ : Int) ≤ ((ts.map (·.f0)).length : Int) ∧ ((ts.map (·.f0)).length : Int) ≤ ((ts.map (·.f0)).length : Int))) <| gate (decide (((([] : List Int) ++ (((ts.map (·.f0)).take (at_ : Int).toNat).drop ((0 : Int).toNat))) ++ ([(wr ((wr (1 + r10.1)) + (wr ((wr (r11.1.tdiv 59)) * 60))))] : List Int)).length + (((ts.map (·.f0)).take (((ts.map (·.f0)).length : Int).toNat)).drop (at_ : Int).toNat).length < lim)) <| gate (decide (0 ≤ (0 : Int) ∧ (0 : Int) ≤ (at_ : Int) ∧ (at_ : Int) ≤ ((ts.map fun t => row t.f1).length : Int))) <| gate (decide (([] : List (List Int)).length + (((ts.map fun t => row t.f1).take (at_ : Int).toNat).drop (0 : Int).toNat).length < lim)) <| gate (decide ((([] : List (List Int)) ++ (((ts.map fun t => row t.f1).take (at_ : Int).toNat).drop (0 : Int).toNat)).length + ([row e] : List (List Int)).length < lim)) <| gate (decide (0 ≤ (at_ : Int) ∧ (at_ : Int) ≤ ((ts.map fun t => row t.f1).length : Int) ∧ ((ts.map fun t => row t.f1).length : Int) ≤ ((ts.map fun t => row t.f1).length : Int))) <| gate (decide (((([] : List (List Int)) ++ (((ts.map fun t => row t.f1).take (at_ : Int).toNat).drop (0 : Int).toNat)) ++ ([row e] : List (List Int))).length + (((ts.map fun t => row t.f1).take ((ts.map fun t => row t.f1).length : Int).toNat).drop (at_ : Int).toNat).length < lim)) <| spec_l20Raw.l0 k r11.2.1 r11.2.2.1 ((n + 1 : Nat) : Int) (((([] : List Int) ++ (((ts.map (·.f0)).take (at_ : Int).toNat).drop ((0 : Int).toNat))) ++ ([(wr ((wr (1 + r10.1)) + (wr ((wr (r11.1.tdiv 59)) * 60))))] : List Int)) ++ (((ts.map (·.f0)).take (((ts.map (·.f0)).length : Int).toNat)).drop (at_ : Int).toNat)) (((([] : List (List Int)) ++ (((ts.map fun t => row t.f1).take (at_ : Int).toNat).drop (0 : Int).toNat)) ++ ([row e] : List (List Int))) ++ (((ts.map fun t => row t.f1).take ((ts.map fun t => row t.f1).length : Int).toNat).drop (at_ : Int).toNat)) (wr (((c + 1 : Nat) : Int) - 1))) (RawOk b p (SB (n + 1)) ((c + 1) * (4 + CB n))) := by
              intro at_ hat
              have L1 : (ts.map (·.f0)).length = ts.length := List.length_map _
              have L2 : (ts.map fun t => row t.f1).length = ts.length := List.length_map _
              have T1 : (ts.map (·.f0)).take ts.length = ts.map (·.f0) := List.take_of_length_le (by simp)
              have T2 : (ts.map fun t => row t.f1).take ts.length = ts.map fun t => row t.f1 := List.take_of_length_le (by simp)
              refine evp_gd (by rw [L1]; omega) (evp_gd (by simp [limE] <;> omega) ?_)
              refine evp_bind (pick_ev hb (by omega) (by omega) (by omega)) (fun a1 ⟨e1, _⟩ => ?_)
              rw [e1]
              refine evp_bind (pick_ev hb (by simp <;> omega) (by simp <;> omega) (by omega)) (fun a2 ⟨e2, _⟩ => ?_)
              rw [e2]
              refine evp_gd (by simp [limE] <;> omega) (evp_gd (by rw [L1]; omega) (evp_gd (by simp [limE] <;> omega) (evp_gd (by rw [L2]; omega) (evp_gd (by simp [limE] <;> omega) (evp_gd (by simp [limE] <;> omega) (evp_gd (by rw [L2]; omega) (evp_gd (by simp [limE] <;> omega) ?_)))))))
              have := next (ts.take at_ ++ [⟨wr (wr (1 + a1.1) + wr (wr (a2.1.tdiv 59) * 60)), e⟩] ++ ts.drop at_) (q + 1 + 1) (by simp <;> omega) (fun t ht => by
                rcases List.mem_append.1 ht with ht | ht
                · rcases List.mem_append.1 ht with ht | ht
                  · exact hs t (List.mem_of_mem_take ht)
                  · rw [List.mem_singleton.1 ht]; exact he
                · exact hs t (List.mem_of_mem_drop ht)) (by omega) (by omega)
              simpa [T1, T2] using this
            -- one more of a term
            have j1 : ∀ at_ : Nat, at_ < ts.length → EvP (fun k => spec_l20Raw.j1 k b q ((n + 1 : Nat) : Int) (ts.map (·.f0)) (ts.map fun t => row t.f1) ((c + 1 : Nat) : Int) (at_ : Int)) (RawOk b p (SB (n + 1)) ((c + 1) * (4 + CB n))) := by
              intro at_ hat
              have L1 : (ts.map (·.f0)).length = ts.length := List.length_map _
              refine evp_succ (fun k => spec_l20Raw.j1_eq k _ _ _ _ _ _ _) (evp_gd (by rw [L1]; omega) (evp_gd (by rw [L1]; omega) (evp_gd (by rw [L1]; omega) ?_)))
              rw [Int.toNat_natCast]
              have := next (ts.set at_ ⟨wr ((ts.map (·.f0)).getD at_ 0 + 1), ts[at_].f1⟩) q (by simp <;> omega) (fun t ht => by
                rcases List.mem_or_eq_of_mem_set ht with ht | ht
                · exact hs t ht
                · rw [ht]; show size ts[at_].f1 ≤ SB n; exact hs _ (List.getElem_mem hat)) (by omega) (by omega)
              rw [List.map_set, List.map_set] at this
              have e3 : (ts.map fun t => row t.f1).set at_ (row ts[at_].f1) = ts.map fun t => row t.f1 := by
                apply List.ext_getElem (by simp)
                intro i h1 h2
                rw [List.getElem_set]
                split
                · rename_i h; subst h; simp
                · rfl
              simp only [e3] at this
              exact this
            refine evp_succ (fun k => spec_l20Raw.j0_eq k _ _ _ _ _ _ _) ?_
            have l1 : ∀ d at_ : Nat, at_ + d = ts.length → EvP (fun k => spec_l20Raw.l1 k b q ((n + 1 : Nat) : Int) (ts.map (·.f0)) (ts.map fun t => row t.f1) ((c + 1 : Nat) : Int) (row e) (at_ : Int)) (RawOk b p (SB (n + 1)) ((c + 1) * (4 + CB n))) := by
              intro d
              have L2 : (ts.map fun t => row t.f1).length = ts.length := List.length_map _
              induction d with
              | zero =>
                intro at_ ha
                refine evp_succ (fun k => spec_l20Raw.l1_eq k _ _ _ _ _ _ _ _) (evp_d (fun h => by rw [L2] at h; omega) (fun _ => evp_d (fun h => by rw [L2] at h; omega) (fun _ => ?_)))
                exact ins at_ (by omega)
              | succ d ihd =>
                intro at_ ha
                have hlt : at_ < ts.length := by omega
                have hsz := hs _ (List.getElem_mem hlt)
                have hg : (ts.map fun t => row t.f1).getD (at_ : Int).toNat [] = row ts[at_].f1 := map_get _ _ _ _ hlt
                refine evp_succ (fun k => spec_l20Raw.l1_eq k _ _ _ _ _ _ _ _) (evp_d (fun _ => evp_gd (by rw [L2]; omega) ?_) (fun h => by rw [L2] at h; omega))
                rw [hg]
                refine evp_bindv (scompare_ev _ _ (by omega) (by omega)) (evp_d (fun _ => ?_) (fun _ => evp_d (fun _ => evp_gd (by rw [L2]; omega) (evp_bindv (scompare_ev _ _ (by omega) (by omega)) (evp_d (fun _ => j1 at_ hlt) (fun _ => ins at_ (by omega))))) (fun h => by rw [L2] at h; omega)))
                rw [w_succ (by omega)]
                exact ihd (at_ + 1) (by omega)
            exact l1 ts.length 0 (by omega)
          refine evp_succ (fun k => spec_l20Raw.l0_eq k _ _ _ _ _ _) (evp_d (fun _ => ?_) (fun h => by omega))
          refine evp_bind (pick_ev hb h0 (by omega) (by omega)) (fun a ⟨ha, a1, a2⟩ => ?_)
          rw [ha]
          refine evp_d (fun _ => ?_) (fun _ => ?_)
          · refine evp_bind (pick_ev hb (by simp <;> omega) (by simp <;> omega) (by omega)) (fun a' ⟨ha', a1', a2'⟩ => ?_)
            rw [ha']
            have hr := ih a'.1.toNat (by omega) (by omega) (p + 1 + 1) (by omega) (by omega)
            rw [show ((a'.1.toNat : Nat) : Int) = a'.1 by omega] at hr
            refine evp_bind hr (fun x ⟨y, y1, y2, y3, y4, y5⟩ => ?_)
            obtain ⟨r, b', q, u⟩ := x
            simp only at y1 y3 y4 y5
            subst y3
            subst y1
            have := SB_mono (show a'.1.toNat ≤ n by omega)
            have := CB_mono (show a'.1.toNat ≤ n by omega)
            exact body y q (by omega) (by omega) (by omega)
          · have e0 : ([0] : List Int) = row [] := by simp [row, fL_nil]
            rw [e0]
            refine body [] (p + 1) ?_ (by omega) (by omega)
            rw [size_nil]
            have := SB_mono (Nat.zero_le n)
            simp only [SB] at this
            omega
      refine evp_succ (fun k => spec_l20Raw.f_eq k _ _ _) (evp_d (fun h => by omega) (fun _ => ?_))
      refine evp_bind (pick_ev hb h0 (by omega) (by omega)) (fun a ⟨ha, a1, a2⟩ => ?_)
      rw [ha]
      have := loop a.1.toNat [] (p + 1) (by simp <;> omega) (by intro t ht; cases ht) (by omega) (by omega)
      rw [show ((a.1.toNat : Nat) : Int) = a.1 by omega] at this
      refine evp_mono this (fun x ⟨y, y1, y2, y3, y4, y5⟩ => ⟨y, y1, y2, y3, by omega, ?_⟩)
      have h3 : a.1.toNat * (4 + CB n) ≤ 3 * (4 + CB n) := Nat.mul_le_mul_right _ (by omega)
      simp only [CB]
      omega
/-- A row of some numbers, and the reader not far on. -/
theorem ord_l0 {b : List Int} (hb : BOK b) (m : Int) (hm : m < 9223372036854775807) : ∀ (d i : Nat) (p : Int) (o : List Int), i + d = 4 → 0 ≤ p → p ≤ 800000000000 + 1000 * i → o.length ≤ 500 → EvP (fun k => spec_l20Ord.l0 k b p m o (i : Int)) (Drawn b p 501 (500 * (d + 1))) := by
  intro d
  have fin : ∀ (p : Int) (o : List Int), 0 ≤ p → p ≤ 900000000000 → o.length ≤ 500 → EvP (fun k => (spec_l20Rd__odd.f k b p m).bind fun r3 => br (r3.1) ((spec_l20Rd__pick.f k r3.2.1 r3.2.2.1 5).bind fun r4 => br (decide (r4.1 = 0)) (some (([] : List Int), r4.2)) (br (decide (r4.1 = 1)) (gate (decide (([] : List Int).length + o.length < lim)) <| gate (decide ((([] : List Int) ++ o).length + ([0] : List Int).length < lim)) <| some (((([] : List Int) ++ o) ++ ([0] : List Int)), r4.2)) (br (decide (r4.1 = 2)) (some (([2, 1, 0, 1, 1, 1, 0] : List Int), r4.2)) (br (decide (r4.1 = 3)) (some (([1, 0, 0] : List Int), r4.2)) (some (([1, 10000, 0] : List Int), r4.2)))))) (some (o, r3.2))) (Drawn b p 501 2) := by
    intro p o h0 h1 ho
    refine evp_bind (odd_ev hb h0 (by omega) hm) (fun a ⟨a1, a2, a3⟩ => ?_)
    obtain ⟨c, b', q, u⟩ := a
    simp only at a1 a2 a3
    subst a1
    dsimp only
    refine evp_b (fun _ => evp_bind (pick_ev hb (by omega) (by omega) (by omega)) (fun e ⟨e1, e2, e3⟩ => ?_)) (fun _ => evp_some ⟨by show o.length ≤ 501; omega, rfl, by simp <;> omega, by simp <;> omega⟩)
    rw [e1]
    refine evp_d (fun _ => evp_some ⟨by simp, rfl, by simp <;> omega, by simp <;> omega⟩) (fun _ => evp_d (fun _ => evp_gd (by simp [limE]; omega) (evp_gd (by simp [limE]; omega) (evp_some ⟨by simp <;> omega, rfl, by simp <;> omega, by simp <;> omega⟩))) (fun _ => evp_d (fun _ => ?_) (fun _ => evp_d (fun _ => ?_) (fun _ => ?_))))
    · exact evp_some ⟨by simp, rfl, by simp <;> omega, by simp <;> omega⟩
    · exact evp_some ⟨by simp, rfl, by simp <;> omega, by simp <;> omega⟩
    · exact evp_some ⟨by simp, rfl, by simp <;> omega, by simp <;> omega⟩
  induction d with
  | zero =>
    intro i p o hi h0 h1 ho
    refine evp_succ (fun k => spec_l20Ord.l0_eq k _ _ _ _ _) (evp_d (fun h => by omega) (fun _ => ?_))
    exact evp_mono (fin p o h0 (by omega) ho) (fun x ⟨a, b, c, d⟩ => ⟨a, b, c, by omega⟩)
  | succ d ih =>
    intro i p o hi h0 h1 ho
    refine evp_succ (fun k => spec_l20Ord.l0_eq k _ _ _ _ _) (evp_d (fun _ => evp_d (fun _ => ?_) (fun _ => ?_)) (fun h => by omega))
    · refine evp_bind (raw_ev hb 2 2 (by omega) (by omega) p h0 (by omega)) (fun x ⟨y, y1, y2, y3, y4, y5⟩ => ?_)
      obtain ⟨r, b', q, u⟩ := x
      simp only at y1 y3 y4 y5
      subst y3
      have e1 : SB 2 = 43 := by decide
      have e2 : CB 2 = 61 := by decide
      rw [w_succ (by omega)]
      refine evp_mono (ih (i + 1) q r (by omega) (by omega) (by omega) (by rw [y1, row_len]; omega)) (fun x ⟨x1, x2, x3, x4⟩ => ⟨x1, x2, by omega, by omega⟩)
    · exact evp_mono (fin p o h0 (by omega) ho) (fun x ⟨a, b, c, d⟩ => ⟨a, b, c, by omega⟩)
theorem ord_ev {b : List Int} (hb : BOK b) (m : Int) (hm : m < 9223372036854775807) (p : Int) (h0 : 0 ≤ p) (h1 : p ≤ 700000000000) : EvP (fun k => spec_l20Ord.f k b p m) (Drawn b p 501 3000) := by
  refine evp_succ (fun k => spec_l20Ord.f_eq k _ _ _) (evp_bind (raw_ev hb 3 3 (by omega) (by omega) p h0 (by omega)) (fun x ⟨y, y1, y2, y3, y4, y5⟩ => ?_))
  obtain ⟨r, b', q, u⟩ := x
  simp only at y1 y3 y4 y5
  subst y3
  have e1 : SB 3 = 133 := by decide
  have e2 : CB 3 = 196 := by decide
  exact evp_mono (ord_l0 hb m hm 4 0 q r (by omega) (by omega) (by omega) (by rw [y1, row_len]; omega)) (fun x ⟨x1, x2, x3, x4⟩ => ⟨x1, x2, by omega, by omega⟩)
theorem little_l0 {b : List Int} (hb : BOK b) : ∀ (d i : Nat) (p : Int) (o : List Int), i + d = 4 → 0 ≤ p → p ≤ 800000000000 + 1000 * i → o.length ≤ 500 → EvP (fun k => spec_l20Little.l0 k b p o (i : Int)) (Drawn b p 501 (500 * (d + 1))) := by
  intro d
  induction d with
  | zero =>
    intro i p o hi h0 h1 ho
    exact evp_succ (fun k => spec_l20Little.l0_eq k _ _ _ _) (evp_d (fun h => by omega) (fun _ => evp_some ⟨by show o.length ≤ 501; omega, rfl, by simp, by simp <;> omega⟩))
  | succ d ih =>
    intro i p o hi h0 h1 ho
    refine evp_succ (fun k => spec_l20Little.l0_eq k _ _ _ _) (evp_d (fun _ => evp_d (fun _ => ?_) (fun _ => ?_)) (fun h => by omega))
    · refine evp_bind (raw_ev hb 1 1 (by omega) (by omega) p h0 (by omega)) (fun x ⟨y, y1, y2, y3, y4, y5⟩ => ?_)
      obtain ⟨r, b', q, u⟩ := x
      simp only at y1 y3 y4 y5
      subst y3
      have e1 : SB 1 = 13 := by decide
      have e2 : CB 1 = 16 := by decide
      rw [w_succ (by omega)]
      refine evp_mono (ih (i + 1) q r (by omega) (by omega) (by omega) (by rw [y1, row_len]; omega)) (fun x ⟨x1, x2, x3, x4⟩ => ⟨x1, x2, by omega, by omega⟩)
    · exact evp_some ⟨by show o.length ≤ 501; omega, rfl, by simp, by simp <;> omega⟩
theorem little_ev {b : List Int} (hb : BOK b) (m : Int) (hm : m < 9223372036854775807) (p : Int) (h0 : 0 ≤ p) (h1 : p ≤ 600000000000) : EvP (fun k => spec_l20Little.f k b p m) (Drawn b p 501 4000) := by
  refine evp_succ (fun k => spec_l20Little.f_eq k _ _ _) (evp_bind (odd_ev hb h0 (by omega) hm) (fun a ⟨a1, a2, a3⟩ => ?_))
  obtain ⟨c, b', q, u⟩ := a
  simp only at a1 a2 a3
  subst a1
  dsimp only
  refine evp_b (fun _ => ?_) (fun _ => ?_)
  · exact evp_bind (ord_ev hb 1 (by omega) q (by omega) (by omega)) (fun x ⟨x1, x2, x3, x4⟩ => evp_some ⟨x1, x2, by show p ≤ x.2.2.1; omega, by show x.2.2.1 ≤ _; omega⟩)
  · refine evp_bind (raw_ev hb 2 2 (by omega) (by omega) q (by omega) (by omega)) (fun x ⟨y, y1, y2, y3, y4, y5⟩ => ?_)
    obtain ⟨r, b', q', u⟩ := x
    simp only at y1 y3 y4 y5
    subst y3
    have e1 : SB 2 = 43 := by decide
    have e2 : CB 2 = 61 := by decide
    exact evp_mono (little_l0 hb 4 0 q' r (by omega) (by omega) (by omega) (by rw [y1, row_len]; omega)) (fun x ⟨x1, x2, x3, x4⟩ => ⟨x1, x2, by omega, by omega⟩)
/-! Drawn worths. -/
theorem sOrdPower_ev {x : List Term} (h : Fit x) (hp : Fit [⟨1, x⟩]) : Ev (fun k => spec_OrdPower.f k (row x)) (row [⟨1, x⟩], true) := by
  have hs := h.s
  have e : ([1, 1] : List Int) ++ row x = row [⟨1, x⟩] := by simp [row, fL_cons, fL_nil]
  refine ev_succ (fun k => spec_OrdPower.f_eq k _) (ev_gd (by rw [row_len, limE]; simp; omega) ?_)
  rw [e]
  refine ev_bind (valid_ev _) ?_
  rw [h.ov]
  refine ev_nf rfl (ev_bind (valid_ev _) ?_)
  rw [hp.ov]
  exact ev_nf rfl (ev_some.2 rfl)
theorem worth_ev {b : List Int} (hb : BOK b) (p : Int) (h0 : 0 ≤ p) (h1 : p ≤ 500000000000) : EvP (fun k => spec_l20Worth.f k b p) (fun x => x.1.length ≤ 3) := by
  have l0 : ∀ (d i : Nat) (p : Int) (acc : List (List Int)), i + d = 3 → acc.length = i → EvP (fun k => spec_l20Worth.l0 k b p acc (i : Int)) (fun x => x.1.length ≤ 3) := by
    intro d
    induction d with
    | zero =>
      intro i p acc hi ha
      exact evp_succ (fun k => spec_l20Worth.l0_eq k _ _ _ _) (evp_d (fun h => by omega) (fun _ => evp_some (by show acc.length ≤ 3; omega)))
    | succ d ih =>
      intro i p acc hi ha
      have hf := nm_fit (n := 2 - (i : Int)) (by omega) (by omega)
      have hp : Fit [⟨1, nm (2 - (i : Int))⟩] := by
        have h2 : size (nm (2 - (i : Int))) ≤ 3 := by
          unfold nm
          split
          · rw [size_nil]; omega
          · rw [size_cons, size_nil]; show 1 + size [] + 1 ≤ 3; rw [size_nil]; omega
        have h3 := hf.m
        refine ⟨(vL_one _).2 ⟨by show (1 : Int) ≤ 1; omega, hf.v⟩, ?_, ?_⟩
        · rw [mL_cons, mL_nil]; show max (max 1 (mL (nm (2 - (i : Int))))) 0 ≤ 9999; omega
        · rw [size_cons, size_nil]; show 1 + size (nm (2 - (i : Int))) + 1 ≤ 60; omega
      refine evp_succ (fun k => spec_l20Worth.l0_eq k _ _ _ _) (evp_d (fun _ => ?_) (fun h => by omega))
      rw [w64 (x := 2 - (i : Int)) (by omega) (by omega), w_succ (by omega)]
      refine evp_bindv (sOrdOf_ev (by omega) (by omega)) (evp_bindv (sOrdPower_ev hf hp) (evp_gd (by rw [ha, limE]; simp; omega) ?_))
      exact ih (i + 1) p _ (by omega) (by simp [ha])
  have l1 : ∀ (d i : Nat) (p : Int) (acc : List (List Int)), i + d = 3 → acc.length = i → 0 ≤ p → p ≤ 500000100000 + 5000 * i → EvP (fun k => spec_l20Worth.l1 k b p acc (i : Int)) (fun x => x.1.length ≤ 3) := by
    intro d
    induction d with
    | zero =>
      intro i p acc hi ha h0 h1
      refine evp_succ (fun k => spec_l20Worth.l1_eq k _ _ _ _) (evp_d (fun h => by omega) (fun _ => evp_bind (odd_ev hb h0 (by omega) (by omega)) (fun a ⟨a1, a2, a3⟩ => ?_)))
      refine evp_b (fun _ => evp_gd (by omega) (evp_some ?_)) (fun _ => evp_some (by show acc.length ≤ 3; omega))
      show (acc.take 2).length ≤ 3
      rw [List.length_take]; omega
    | succ d ih =>
      intro i p acc hi ha h0 h1
      refine evp_succ (fun k => spec_l20Worth.l1_eq k _ _ _ _) (evp_d (fun _ => evp_bind (little_ev hb 14 (by omega) p h0 (by omega)) (fun x ⟨x1, x2, x3, x4⟩ => ?_)) (fun h => by omega))
      obtain ⟨r, b', q, u⟩ := x
      simp only at x1 x2 x3 x4
      subst x2
      dsimp only
      rw [w_succ (by omega)]
      exact evp_gd (by rw [ha, limE]; simp; omega) (ih (i + 1) q _ (by omega) (by simp [ha]) (by omega) (by omega))
  refine evp_succ (fun k => spec_l20Worth.f_eq k _ _) (evp_bind (pick_ev hb h0 (by omega) (by omega)) (fun a1 ⟨e1, _⟩ => ?_))
  rw [e1]
  exact evp_d (fun _ => l0 3 0 _ [] (by omega) rfl) (fun _ => l1 3 0 _ [] (by omega) rfl (by simp <;> omega) (by simp <;> omega))
theorem alive_at (j : Nat) : laws_alive.f (j + 12) = some true := by kernel_rfl
theorem alive_ev : Ev (fun k => laws_alive.f k) true := ⟨12, fun k hk => by
  obtain ⟨j, rfl⟩ : ∃ j, k = j + 12 := ⟨k - 12, by omega⟩
  exact alive_at j⟩
/-! Where each exchange makes the ordinal smaller, the rows of exchanges come to an end. -/
theorem W3_mv (e : List Term) : ∀ (x f g : List Int) (xs : List (List Term)) (y : List Int), f.length = x.length → g.length = x.length → (∀ n ∈ f, 0 ≤ n) → (∀ n ∈ g, 0 ≤ n) → mvL x f g = some y → W3 e y xs + W3 e f xs = W3 e x xs + W3 e g xs
  | [], f, g, xs, y, hf, hg, _, _, h => by
    rw [mvL] at h
    cases h
    rw [List.length_eq_zero_iff.1 hf, List.length_eq_zero_iff.1 hg]
  | a :: x, [], g, xs, y, hf, _, _, _, _ => by simp at hf
  | a :: x, t :: f, [], xs, y, _, hg, _, _, _ => by simp at hg
  | a :: x, t :: f, g :: gs, [], y, _, _, _, _, _ => by
    cases y <;> simp [W3]
  | a :: x, t :: f, g :: gs, z :: xs, y, hf, hg, h0, h1, h => by
    rw [mvL] at h
    split at h
    · cases h
    · split at h
      · cases h
      · rw [Option.map_eq_some_iff] at h
        obtain ⟨r, hr, rfl⟩ := h
        have ih := W3_mv e x f gs xs r (by simpa using hf) (by simpa using hg) (fun n hn => h0 n (by simp [hn])) (fun n hn => h1 n (by simp [hn])) hr
        have a0 := h0 t (by simp)
        have a1 := h1 g (by simp)
        simp only [W3]
        have e1 : (((a - t + g).toNat : Nat) : Int) = (a.toNat : Int) - (t.toNat : Int) + (g.toNat : Int) := by omega
        rw [e1, Int.add_mul, Int.sub_mul]
        omega
theorem falls {ts : List Trade} {ords : List (List Int)} (hE : endV ts ords = true) {x : List Int} (hx : vh 40 x = true) {t : Trade} (ht : t ∈ ts) (hd : (mvV x t).2 = true) : Lt (hz (mvV x t).1 ords) (hz x ords) := by
  unfold endV at hE
  rw [Bool.and_eq_true, Bool.and_eq_true, List.all_eq_true] at hE
  obtain ⟨⟨ho, hT⟩, hg⟩ := hE
  have hg := hg t ht
  unfold tgood at hg
  rw [Bool.and_eq_true, Bool.and_eq_true, decide_eq_true_eq] at hg
  have hlt : Lt (hz t.f1 ords) (hz t.f0 ords) := by
    have := c_range (hz t.f1 ords) (hz t.f0 ords)
    exact c_lt.1 (by omega)
  have htv := (tsV_of hT).1 t ht
  obtain ⟨⟨t1, t2⟩, t3, t4⟩ := tv_of htv
  have hx3 := (vh_len hx).1
  obtain ⟨e, e1, e2⟩ := lt_co1 _ _ (hz_v ho) (hz_v ho) hlt
  have key : ∀ e, co (hz (mvV x t).1 ords) e + co (hz t.f0 ords) e = co (hz x ords) e + co (hz t.f1 ords) e := fun e => by
    unfold hz
    rw [hO_co, hO_co, hO_co, hO_co]
    have hm : mvL x t.f0 t.f1 = some (mvV x t).1 := by
      unfold mvV mvR at hd ⊢
      split at hd
      · rename_i q; rw [q]
      · cases hd
    have := W3_mv e x t.f0 t.f1 (ords.map tr) _ (by omega) (by omega) (fun n hn => (t2 n hn).1) (fun n hn => (t4 n hn).1) hm
    omega
  refine co_lt (hz_v ho) (hz_v ho) (e := e) ?_ (fun f hf => ?_)
  · have := key e; omega
  · have := key f; have := e2 f hf; omega
def gR (ts : List Trade) : Nat → List Int → Int
  | 0, _ => 0
  | n + 1, x => best (gR ts n) (succs ts x) 0
theorem gR_same {ts : List Trade} {L : List (List Int)} (hc : ∀ x ∈ L, ∀ y ∈ succs ts x, y ∈ L) (cnt : List Int → Nat) (hd : ∀ x ∈ L, ∀ y ∈ succs ts x, cnt y < cnt x) : ∀ (v : Nat) (x : List Int), x ∈ L → cnt x ≤ v → ∀ n m, cnt x < n → cnt x < m → gR ts n x = gR ts m x := by
  intro v
  induction v with
  | zero =>
    intro x hx hv n m hn hm
    obtain ⟨n, rfl⟩ : ∃ j, n = j + 1 := ⟨n - 1, by omega⟩
    obtain ⟨m, rfl⟩ : ∃ j, m = j + 1 := ⟨m - 1, by omega⟩
    rw [gR, gR]
    refine best_congr _ _ (fun y hy => ?_)
    have := hd x hx y hy
    omega
  | succ v ih =>
    intro x hx hv n m hn hm
    obtain ⟨n, rfl⟩ : ∃ j, n = j + 1 := ⟨n - 1, by omega⟩
    obtain ⟨m, rfl⟩ : ∃ j, m = j + 1 := ⟨m - 1, by omega⟩
    rw [gR, gR]
    refine best_congr _ _ (fun y hy => ?_)
    have := hd x hx y hy
    exact ih y (hc x hx y hy) (by omega) n m (by omega) (by omega)
theorem sol_of {ts : List Trade} {L : List (List Int)} (hc : ∀ x ∈ L, ∀ y ∈ succs ts x, y ∈ L) (cnt : List Int → Nat) (hd : ∀ x ∈ L, ∀ y ∈ succs ts x, cnt y < cnt x) : ∃ Q, Sol ts L Q := by
  refine ⟨fun x => gR ts (cnt x + 1) x, fun x hx => ?_⟩
  show best (gR ts (cnt x)) (succs ts x) 0 = _
  refine best_congr _ _ (fun y hy => ?_)
  have := hd x hx y hy
  exact gR_same hc cnt hd (cnt y) y (hc x hx y hy) (Nat.le_refl _) _ _ (by omega) (by omega)
theorem filter_lt {α : Type} (p q : α → Bool) : ∀ (l : List α) (z : α), z ∈ l → (∀ x, p x = true → q x = true) → p z = false → q z = true → (l.filter p).length < (l.filter q).length
  | [], z, hz, _, _, _ => by simp at hz
  | x :: l, z, hz, h, h1, h2 => by
    have mono : ∀ l : List α, (l.filter p).length ≤ (l.filter q).length := by
      intro l
      induction l with
      | nil => simp
      | cons a l ih =>
        rw [List.filter_cons, List.filter_cons]
        by_cases hp : p a = true
        · rw [if_pos hp, if_pos (h a hp)]; simp; omega
        · rw [if_neg hp]; split <;> (try rw [List.length_cons]) <;> omega
    rw [List.filter_cons, List.filter_cons]
    rcases List.mem_cons.1 hz with rfl | hz
    · rw [h1, h2]
      have := mono l
      simp
      omega
    · have ih := filter_lt p q l z hz h h1 h2
      by_cases hp : p x = true
      · rw [if_pos hp, if_pos (h x hp)]; simp; omega
      · rw [if_neg hp]; split <;> (try rw [List.length_cons]) <;> omega
theorem long_ends {ts : List Trade} {ords : List (List Int)} (hE : endV ts ords = true) {h : List Int} (hne : reachV ts h ≠ []) : 0 ≤ longV ts h := by
  obtain ⟨hR, hh, htV⟩ := reach_of hne
  have hsol : ∃ Q, Sol ts (reachV ts h) Q := by
    refine sol_of hR.closed (fun x => ((reachV ts h).filter fun z => decide (cL (hz z ords) (hz x ords) = -1)).length) (fun x hx y hy => ?_)
    have hy0 := hy
    unfold succs at hy0
    obtain ⟨t, t1, t2⟩ := List.mem_filterMap.1 hy0
    split at t2
    · rename_i hd
      cases t2
      have hl := falls hE (hR.valid x hx) t1 hd
      refine filter_lt _ _ _ (mvV x t).1 (hR.closed x hx _ hy) (fun z hz => ?_) (decide_eq_false (fun q => lt_irrefl _ q)) (decide_eq_true hl)
      rw [decide_eq_true_eq] at hz ⊢
      exact lt_trans _ _ _ hz hl
    · cases t2
  rcases long_cases hne with ⟨Q, h1, h2, h3, _⟩ | ⟨h1, _⟩
  · omega
  · exact absurd hsol h1
theorem iDoA_ev (x : List Int) {t : Trade} (hl : x.length ≤ 1000000) (ht : tv t = true) : Ev (fun k => impl_TradeDo.f k x t) (if vh 40 x = true then mvV x t else ([], false)) := by
  by_cases hx : vh 40 x = true
  · rw [if_pos hx]; exact iDoR_ev hx ht
  · rw [if_neg hx]
    refine ev_succ (fun k => impl_TradeDo.f_eq k _ _) (ev_bind (ev_succ (fun k => impl_HeapsValid.f_eq k _) (ev_bind (thingsOk_ev x 40 (by omega)) (ev_some.2 rfl))) ?_)
    exact ev_nt (by cases h : vh 40 x with | false => rfl | true => exact absurd h hx) (ev_some.2 rfl)
theorem hoV_yes {hs : List Int} {ords : List (List Int)} (h : (hoV hs ords).2 = true) : vh 40 hs = true ∧ Fit (hz hs ords) ∧ hoV hs ords = (row (hz hs ords), true) := by
  unfold hoV at h ⊢
  split at h
  · rename_i hc
    rw [if_pos hc]
    obtain ⟨q1, q2⟩ := toldV_yes (z := hO hs (ords.map tr) []) (hz_v (hs := hs) hc.2) h
    exact ⟨hc.1, q1, q2⟩
  · cases h
theorem pure_FnTradesEnd (l m : List Int) (h1 : l.length ≤ maxLen) (h3 : ∀ x ∈ l, (Lit.int .u8 x).wf = true) (h4 : m.length ≤ maxLen) (h5 : ∀ x ∈ m, (Lit.int .u8 x).wf = true) : ∃ k, laws_FnTradesEnd.f k l m = some true := by
  refine evp_true (evp_succ (fun k => laws_FnTradesEnd.f_eq k l m) (evp_d (fun _ => evp_some rfl) (fun hl => evp_d (fun _ => evp_some rfl) (fun hm => ?_))))
  have draw : EvP (fun k => spec_DrawTradesEnd.f k l) (fun x => (x.1.length ≤ 5 ∧ ∀ t ∈ x.1, Sm1 t) ∧ x.2.length ≤ 3) := by
    refine evp_succ (fun k => spec_DrawTradesEnd.f_eq k l) (evp_bind (open_ev h3 (by omega)) (fun a ⟨hb, ha⟩ => ?_))
    rw [ha]
    generalize a.1 = b at hb ⊢
    refine evp_bind (trades_ev hb 14 (by omega) 0 (by omega) (by omega)) (fun y ⟨y1, y2, y3, y4, y5⟩ => ?_)
    obtain ⟨ts, b2, q2, u2⟩ := y
    simp only at y1 y2 y3 y4 y5
    subst y3
    dsimp only
    exact evp_bind (worth_ev hb q2 (by omega) (by omega)) (fun y hy => evp_some ⟨⟨y1, y2⟩, hy⟩)
  refine evp_bind draw (fun q ⟨⟨q1, q2⟩, q3⟩ => ?_)
  obtain ⟨ts, ords⟩ := q
  simp only at q1 q2 q3
  have hr : ∀ t ∈ ts, TrOk t := fun t ht => (q2 t ht).ok
  refine evp_bindv (implEnd_ev ts ords (by omega) hr (by omega)) (evp_bindv (specEnd_ev ts ords (by omega) hr) (Ev.p (ev_nf (by simp) ?_) rfl))
  cases hE : endV ts ords with
  | false => exact ev_nt rfl (ev_bind alive_ev (ev_some.2 rfl))
  | true =>
    obtain ⟨q, d1, d2, d3, d4⟩ := drawMay_ev h5 (by omega)
    obtain ⟨h, ts2⟩ := q
    simp only at d2 d3 d4
    refine ev_nf rfl (ev_bind d1 (ev_bind (implHO_ev h ords (by omega) (by omega)) ?_))
    have hT : tsV ts = true := by
      unfold endV at hE
      rw [Bool.and_eq_true, Bool.and_eq_true] at hE
      exact hE.1.2
    have hts := (tsV_of hT).1
    dsimp only
    have loop : ∀ d j : Nat, j + d = ts.length → Ev (fun k => laws_FnTradesEnd.l0 k ts ords h (hoV h ords).1 (hoV h ords).2 (j : Int)) true := by
      intro d
      induction d with
      | zero =>
        intro j hj
        refine ev_succ (fun k => laws_FnTradesEnd.l0_eq k _ _ _ _ _ _) (ev_df (by omega) (ev_bind (implReach_ev h ts (by omega) (by omega) hr) ?_))
        by_cases hne : reachV ts h = []
        · exact ev_dt (by rw [hne]; rfl) (ev_some.2 rfl)
        · refine ev_df (fun e => hne ?_) (ev_bind (implLong_ev h ts (by omega) (by omega) hr) (ev_some.2 (decide_eq_true (long_ends hE hne))))
          rw [← List.length_eq_zero_iff]; omega
      | succ d ih =>
        intro j hj
        have hjl : j < ts.length := by omega
        have hmem := List.getElem_mem hjl
        have nxt := ih (j + 1) (by omega)
        refine ev_succ (fun k => laws_FnTradesEnd.l0_eq k _ _ _ _ _ _) (ev_dt (by omega) (ev_gd (by omega) ?_))
        rw [at_tr hjl, w_succ (by omega)]
        refine ev_bind (iDoA_ev h (by omega) (hts ts[j] hmem)) ?_
        by_cases hv : vh 40 h = true
        · rw [if_pos hv]
          have hlen : (mvV h ts[j]).1.length ≤ 3 := by
            cases hd : (mvV h ts[j]).2 with
            | true => have := (vh_len (mvV_ok hv (hts ts[j] hmem) hd)).1; omega
            | false =>
              have : (mvV h ts[j]).1 = [] := by
                unfold mvV mvR at hd ⊢
                split at hd
                · cases hd
                · rfl
              rw [this]; simp
          refine ev_bind (implHO_ev _ ords (by omega) (by omega)) ?_
          cases hd : (mvV h ts[j]).2 with
          | false => exact ev_bf rfl nxt
          | true =>
            refine ev_bt rfl ?_
            cases hx : (hoV h ords).2 with
            | false => rw [hx] at nxt; exact ev_bf rfl nxt
            | true =>
              rw [hx] at nxt
              refine ev_bt rfl ?_
              cases hy : (hoV (mvV h ts[j]).1 ords).2 with
              | false => exact ev_bf rfl nxt
              | true =>
                obtain ⟨_, f1, e1⟩ := hoV_yes hx
                obtain ⟨_, f2, e2⟩ := hoV_yes hy
                have hl := falls hE hv hmem hd
                have hcmp := ordCompare_ev f2 f1
                rw [show cL (hz (mvV h ts[j]).1 ords) (hz h ords) = -1 from hl] at hcmp
                rw [e1] at nxt ⊢
                rw [e2]
                exact ev_bt rfl (ev_bind hcmp (ev_nf (decide_eq_true rfl) nxt))
        · rw [if_neg hv]
          exact ev_bind (implHO_ev [] ords (by simp) (by omega)) (ev_bf rfl nxt)
    exact loop ts.length 0 (by omega)
end Go.Proofs.Ytgibeillafnieaa.EPure
