/-
  The pure statement of FnExactHeapsOrd.
-/
import Derived.Test.YtgibeillafnieaaQH
import Derived.ProofKit
import Derived.IntWalk
namespace Go.Proofs.Ytgibeillafnieaa.EPure
open Go Go.RowKit Go.Proofs.Ytgibeillafnieaa.Eng
set_option linter.unusedVariables false
set_option linter.unusedSimpArgs false

/-! Rounds without counting them. -/
def Ev {α : Type} (g : Nat → Option α) (r : α) : Prop := ∃ K, ∀ k, K ≤ k → g k = some r
theorem ev_some {α : Type} {a r : α} : Ev (fun _ => some a) r ↔ a = r := by
  constructor
  · rintro ⟨K, h⟩
    exact Option.some.inj (h K (Nat.le_refl _))
  · rintro rfl
    exact ⟨0, fun _ _ => rfl⟩
theorem ev_bind {α β : Type} {g : Nat → Option α} {f : Nat → α → Option β} {a : α} (h : Ev g a) {r : β} (h2 : Ev (fun k => f k a) r) : Ev (fun k => (g k).bind (f k)) r := by
  obtain ⟨K, h⟩ := h
  obtain ⟨L, h2⟩ := h2
  exact ⟨max K L, fun k hk => by simp only [h k (by omega), Option.bind_some]; exact h2 k (by omega)⟩
theorem ev_succ {α : Type} {g f : Nat → Option α} {r : α} (h : ∀ k, g (k + 1) = f k) (e : Ev f r) : Ev g r := by
  obtain ⟨K, e⟩ := e
  refine ⟨K + 1, fun k hk => ?_⟩
  obtain ⟨j, rfl⟩ : ∃ j, k = j + 1 := ⟨k - 1, by omega⟩
  rw [h]
  exact e j (by omega)
theorem ev_true {g : Nat → Option Bool} (h : Ev g true) : ∃ k, g k = some true := by
  obtain ⟨K, h⟩ := h
  exact ⟨K, h K (Nat.le_refl _)⟩
theorem ev_gate {α : Type} {c : Bool} {g : Nat → Option α} {r : α} (hc : c = true) (e : Ev g r) : Ev (fun k => gate c (g k)) r := by
  subst hc
  exact e
theorem ev_gd {α : Type} {p : Prop} [Decidable p] {g : Nat → Option α} {r : α} (hp : p) (e : Ev g r) : Ev (fun k => gate (decide p) (g k)) r := ev_gate (decide_eq_true hp) e
theorem ev_bt {α : Type} {c : Bool} {g h : Nat → Option α} {r : α} (hc : c = true) (e : Ev g r) : Ev (fun k => br c (g k) (h k)) r := by
  subst hc
  exact e
theorem ev_bf {α : Type} {c : Bool} {g h : Nat → Option α} {r : α} (hc : c = false) (e : Ev h r) : Ev (fun k => br c (g k) (h k)) r := by
  subst hc
  exact e
theorem ev_dt {α : Type} {p : Prop} [Decidable p] {g h : Nat → Option α} {r : α} (hp : p) (e : Ev g r) : Ev (fun k => br (decide p) (g k) (h k)) r := ev_bt (decide_eq_true hp) e
theorem ev_df {α : Type} {p : Prop} [Decidable p] {g h : Nat → Option α} {r : α} (hp : ¬ p) (e : Ev h r) : Ev (fun k => br (decide p) (g k) (h k)) r := ev_bf (decide_eq_false hp) e
theorem ev_nt {α : Type} {c : Bool} {g h : Nat → Option α} {r : α} (hc : c = false) (e : Ev g r) : Ev (fun k => br (!c) (g k) (h k)) r := by
  subst hc
  exact e
theorem ev_nf {α : Type} {c : Bool} {g h : Nat → Option α} {r : α} (hc : c = true) (e : Ev h r) : Ev (fun k => br (!c) (g k) (h k)) r := by
  subst hc
  exact e
/-! What comes of some rounds, with a property. -/
def EvP {α : Type} (g : Nat → Option α) (Q : α → Prop) : Prop := ∃ r, Ev g r ∧ Q r
theorem Ev.p {α : Type} {g : Nat → Option α} {Q : α → Prop} {r : α} (h : Ev g r) (q : Q r) : EvP g Q := ⟨r, h, q⟩
theorem evp_some {α : Type} {Q : α → Prop} {r : α} (q : Q r) : EvP (fun _ => some r) Q := ⟨r, ev_some.2 rfl, q⟩
theorem evp_bind {α β : Type} {g : Nat → Option α} {f : Nat → α → Option β} {P : α → Prop} {Q : β → Prop} (h : EvP g P) (e : ∀ a, P a → EvP (fun k => f k a) Q) : EvP (fun k => (g k).bind (f k)) Q := by
  obtain ⟨a, h1, p⟩ := h
  obtain ⟨r, h2, q⟩ := e a p
  exact ⟨r, ev_bind h1 h2, q⟩
theorem evp_bindv {α β : Type} {g : Nat → Option α} {f : Nat → α → Option β} {a : α} {Q : β → Prop} (h : Ev g a) (e : EvP (fun k => f k a) Q) : EvP (fun k => (g k).bind (f k)) Q := by
  obtain ⟨r, h2, q⟩ := e
  exact ⟨r, ev_bind h h2, q⟩
theorem evp_succ {α : Type} {g f : Nat → Option α} {Q : α → Prop} (h : ∀ k, g (k + 1) = f k) (e : EvP f Q) : EvP g Q := by
  obtain ⟨r, h2, q⟩ := e
  exact ⟨r, ev_succ h h2, q⟩
theorem evp_mono {α : Type} {g : Nat → Option α} {P Q : α → Prop} (h : EvP g P) (hq : ∀ a, P a → Q a) : EvP g Q := by
  obtain ⟨r, h2, p⟩ := h
  exact ⟨r, h2, hq r p⟩
theorem evp_gd {α : Type} {p : Prop} [Decidable p] {g : Nat → Option α} {Q : α → Prop} (hp : p) (e : EvP g Q) : EvP (fun k => gate (decide p) (g k)) Q := by
  obtain ⟨r, h, q⟩ := e
  exact ⟨r, ev_gd hp h, q⟩
theorem evp_gn {α : Type} {p : Prop} [Decidable p] {g : Nat → Option α} {Q : α → Prop} (hp : ¬ p) (e : EvP g Q) : EvP (fun k => gate (!decide p) (g k)) Q := by
  obtain ⟨r, h, q⟩ := e
  exact ⟨r, ev_gate (by simp [hp]) h, q⟩
theorem evp_b {α : Type} {c : Bool} {g h : Nat → Option α} {Q : α → Prop} (e1 : c = true → EvP g Q) (e2 : c = false → EvP h Q) : EvP (fun k => br c (g k) (h k)) Q := by
  cases c with
  | true => exact e1 rfl
  | false => exact e2 rfl
theorem evp_d {α : Type} {p : Prop} [Decidable p] {g h : Nat → Option α} {Q : α → Prop} (e1 : p → EvP g Q) (e2 : ¬ p → EvP h Q) : EvP (fun k => br (decide p) (g k) (h k)) Q :=
  evp_b (fun h => e1 (of_decide_eq_true h)) (fun h => e2 (of_decide_eq_false h))
theorem evp_true {g : Nat → Option Bool} (h : EvP g (fun b => b = true)) : ∃ k, g k = some true := by
  obtain ⟨r, h, rfl⟩ := h
  exact ev_true h
theorem wr_eq (x : Int) : wr x = wrap64 x := by unfold wrap64; exact IntKind.wrap_i64 x
theorem w64 {x : Int} (h0 : -9223372036854775808 ≤ x) (h1 : x ≤ 9223372036854775807) : wr x = x := by
  rw [wr_eq]
  unfold wrap64
  omega
theorem w_succ {i : Nat} (h : i < 9223372036854775807) : wr ((i : Int) + 1) = ((i + 1 : Nat) : Int) := by rw [w64] <;> omega
theorem get_nat {l : List Int} {i : Nat} (h : i < l.length) : l.getD (i : Int).toNat 0 = l[i] := by
  rw [Int.toNat_natCast, List.getD_eq_getElem?_getD, List.getElem?_eq_getElem h]
  rfl
theorem limE : lim = 1099511627776 := rfl
theorem ev_const {α : Type} {x : Option α} {r : α} (h : x = some r) : Ev (fun _ => x) r := ⟨0, fun _ _ => h⟩
theorem l1In_ev (a b c : Int) : Ev (fun k => spec_l1In.f k a b c) (decide (a ≥ b) && decide (a ≤ c)) := by
  refine ev_succ (fun k => spec_l1In.f_eq k a b c) ?_
  by_cases h : a ≥ b
  · exact ev_dt h (ev_some.2 (by simp [h]))
  · exact ev_df h (ev_some.2 (by simp [h]))
/-! Trees, their rows, their order. -/
mutual
def fT : Term → List Int
  | ⟨c, e⟩ => c :: (e.length : Int) :: fL e
def fL : List Term → List Int
  | [] => []
  | t :: x => fT t ++ fL x
end
def row (x : List Term) : List Int := (x.length : Int) :: fL x
theorem fT_eq (t : Term) : fT t = t.f0 :: row t.f1 := by cases t; rw [fT]; rfl
theorem fL_nil : fL [] = [] := by rw [fL]
theorem fL_cons (t : Term) (x : List Term) : fL (t :: x) = t.f0 :: (row t.f1 ++ fL x) := by rw [fL, fT_eq]; rfl
theorem fL_app (x y : List Term) : fL (x ++ y) = fL x ++ fL y := by
  induction x with
  | nil => simp [fL_nil]
  | cons t x ih => simp [fL_cons, ih]
def size (x : List Term) : Nat := (row x).length
theorem size_eq (x : List Term) : size x = 1 + (fL x).length := by simp [size, row, Nat.add_comm]
theorem size_nil : size [] = 1 := by simp [size_eq, fL_nil]
theorem size_cons (t : Term) (x : List Term) : size (t :: x) = 1 + size t.f1 + size x := by
  simp only [size_eq, fL_cons, List.length_cons, List.length_append]
  have := size_eq t.f1
  simp only [size] at this
  omega
theorem size_pos (x : List Term) : 1 ≤ size x := by rw [size_eq]; omega
theorem size_len (x : List Term) : 1 + 2 * x.length ≤ size x := by
  induction x with
  | nil => simp [size_nil]
  | cons t x ih => rw [size_cons]; have := size_pos t.f1; simp; omega
theorem size_app (x y : List Term) : size (x ++ y) + 1 = size x + size y := by
  simp only [size_eq, fL_app, List.length_append]; omega
mutual
def mT : Term → Int
  | ⟨c, e⟩ => max c (mL e)
def mL : List Term → Int
  | [] => 0
  | t :: x => max (mT t) (mL x)
end
theorem mT_eq (t : Term) : mT t = max t.f0 (mL t.f1) := by cases t; rw [mT]
theorem mL_nil : mL [] = 0 := by rw [mL]
theorem mL_cons (t : Term) (x : List Term) : mL (t :: x) = max (max t.f0 (mL t.f1)) (mL x) := by rw [mL, mT_eq]
theorem mL_pos (x : List Term) : 0 ≤ mL x := by
  induction x with
  | nil => simp [mL_nil]
  | cons t x ih => rw [mL_cons]; omega
theorem mL_app (x y : List Term) : mL (x ++ y) = max (mL x) (mL y) := by
  induction x with
  | nil => rw [mL_nil, List.nil_append]; have := mL_pos y; omega
  | cons t x ih => simp only [List.cons_append, mL_cons, ih]; omega
theorem mL_mem {x : List Term} {t : Term} (h : t ∈ x) : t.f0 ≤ mL x ∧ mL t.f1 ≤ mL x := by
  induction x with
  | nil => cases h
  | cons s x ih =>
    rw [mL_cons]
    rcases List.mem_cons.1 h with h | h
    · rw [h]; omega
    · have := ih h; omega
mutual
def cT : Term → Term → Int
  | ⟨c, e⟩, ⟨d, f⟩ => if cL e f = 0 then (if c < d then -1 else if c > d then 1 else 0) else cL e f
def cL : List Term → List Term → Int
  | [], [] => 0
  | [], _ :: _ => -1
  | _ :: _, [] => 1
  | a :: x, b :: y => if cT a b = 0 then cL x y else cT a b
end
theorem cT_eq (a b : Term) : cT a b = if cL a.f1 b.f1 = 0 then (if a.f0 < b.f0 then -1 else if a.f0 > b.f0 then 1 else 0) else cL a.f1 b.f1 := by cases a; cases b; rw [cT]
theorem cL_nn : cL [] [] = 0 := by rw [cL]
theorem cL_nc (b : Term) (y : List Term) : cL [] (b :: y) = -1 := by rw [cL]
theorem cL_cn (a : Term) (x : List Term) : cL (a :: x) [] = 1 := by rw [cL]
theorem cL_cc (a b : Term) (x y : List Term) : cL (a :: x) (b :: y) = if cT a b = 0 then cL x y else cT a b := by rw [cL]
/-- A property of trees, by their parts. -/
theorem tree_ind {P : List Term → Prop} (h0 : P []) (h1 : ∀ t x, P t.f1 → P x → P (t :: x)) : ∀ x, P x
  | [] => h0
  | ⟨c, e⟩ :: x => h1 ⟨c, e⟩ x (tree_ind h0 h1 e) (tree_ind h0 h1 x)
termination_by x => SizeOf.sizeOf x
theorem c_range (x : List Term) : ∀ y, cL x y = -1 ∨ cL x y = 0 ∨ cL x y = 1 := by
  refine tree_ind (P := fun x => ∀ y, cL x y = -1 ∨ cL x y = 0 ∨ cL x y = 1) ?_ ?_ x
  · intro y
    cases y with
    | nil => rw [cL_nn]; omega
    | cons b y => rw [cL_nc]; omega
  · intro t x h1 h2 y
    cases y with
    | nil => rw [cL_cn]; omega
    | cons b y =>
      rw [cL_cc, cT_eq]
      have a1 := h1 b.f1
      have a2 := h2 y
      by_cases e : cL t.f1 b.f1 = 0
      · rw [if_pos e]
        rcases Int.lt_trichotomy t.f0 b.f0 with h | h | h
        · simp [h]
        · simpa [h] using a2
        · have : ¬ t.f0 < b.f0 := by omega
          simp [h, this]
      · rw [if_neg e, if_neg e]
        exact a1
theorem c_refl (x : List Term) : cL x x = 0 := by
  refine tree_ind (P := fun x => cL x x = 0) cL_nn ?_ x
  intro t x h1 h2
  rw [cL_cc, cT_eq, h1, h2]
  simp
theorem c_eq (x : List Term) : ∀ y, cL x y = 0 → x = y := by
  refine tree_ind (P := fun x => ∀ y, cL x y = 0 → x = y) ?_ ?_ x
  · intro y h
    cases y with
    | nil => rfl
    | cons b y => rw [cL_nc] at h; omega
  · intro t x h1 h2 y h
    cases y with
    | nil => rw [cL_cn] at h; omega
    | cons b y =>
      rw [cL_cc, cT_eq] at h
      by_cases e : cL t.f1 b.f1 = 0
      · have e1 := h1 _ e
        rw [if_pos e] at h
        have : t.f0 = b.f0 := by
          apply Classical.byContradiction
          intro hc
          rcases Int.lt_or_gt_of_ne hc with hl | hl
          · simp [hl] at h
          · have : ¬ t.f0 < b.f0 := by omega
            simp [hl, this] at h
        have h3 : cL x y = 0 := by simpa [this] using h
        rw [h2 _ h3]
        cases t; cases b; simp_all
      · rw [if_neg e, if_neg e] at h
        exact absurd h e
theorem c_swap (x : List Term) : ∀ y, cL y x = - cL x y := by
  refine tree_ind (P := fun x => ∀ y, cL y x = - cL x y) ?_ ?_ x
  · intro y
    cases y with
    | nil => rw [cL_nn]; omega
    | cons b y => rw [cL_nc, cL_cn]; omega
  · intro t x h1 h2 y
    cases y with
    | nil => rw [cL_cn, cL_nc]
    | cons b y =>
      rw [cL_cc, cL_cc, cT_eq, cT_eq, h1 b.f1, h2 y]
      by_cases e : cL t.f1 b.f1 = 0
      · rw [if_pos (show - cL t.f1 b.f1 = 0 by omega), if_pos e]
        rcases Int.lt_trichotomy t.f0 b.f0 with h | h | h
        · have : ¬ b.f0 < t.f0 := by omega
          simp [h, this]
        · simp [h]
        · have : ¬ t.f0 < b.f0 := by omega
          simp [h, this]
      · rw [if_neg (show ¬ - cL t.f1 b.f1 = 0 by omega), if_neg e, if_neg (show ¬ - cL t.f1 b.f1 = 0 by omega), if_neg e]
/-- Less. -/
def Lt (x y : List Term) : Prop := cL x y = -1
theorem lt_cc {a b : Term} {x y : List Term} : Lt (a :: x) (b :: y) ↔ Lt a.f1 b.f1 ∨ (a.f1 = b.f1 ∧ (a.f0 < b.f0 ∨ (a.f0 = b.f0 ∧ Lt x y))) := by
  unfold Lt
  rw [cL_cc, cT_eq]
  by_cases e : cL a.f1 b.f1 = 0
  · have e1 := c_eq _ _ e
    rw [if_pos e]
    rcases Int.lt_trichotomy a.f0 b.f0 with h | h | h
    · simp [h, e1]
    · have := c_refl b.f1
      simp [h, e1, this]
    · have h' : ¬ a.f0 < b.f0 := by omega
      have h'' : ¬ a.f0 = b.f0 := by omega
      have := c_refl b.f1
      simp [h, h', h'', e1, this]
  · rw [if_neg e, if_neg e]
    have : a.f1 ≠ b.f1 := fun h => e (by rw [h]; exact c_refl _)
    simp [this]
theorem lt_irrefl (x : List Term) : ¬ Lt x x := by unfold Lt; rw [c_refl]; omega
theorem lt_trans (x : List Term) : ∀ y z, Lt x y → Lt y z → Lt x z := by
  refine tree_ind (P := fun x => ∀ y z, Lt x y → Lt y z → Lt x z) ?_ ?_ x
  · intro y z h1 h2
    cases z with
    | nil => cases y with
      | nil => exact h2
      | cons b y => unfold Lt at h2; rw [cL_cn] at h2; omega
    | cons c z => exact cL_nc _ _
  · intro t x i1 i2 y z h1 h2
    cases y with
    | nil => unfold Lt at h1; rw [cL_cn] at h1; omega
    | cons b y =>
      cases z with
      | nil => unfold Lt at h2; rw [cL_cn] at h2; omega
      | cons c z =>
        rw [lt_cc] at h1 h2 ⊢
        rcases h1 with h1 | ⟨h1, h1'⟩
        · rcases h2 with h2 | ⟨h2, _⟩
          · exact .inl (i1 _ _ h1 h2)
          · exact .inl (by rw [← h2]; exact h1)
        · rcases h2 with h2 | ⟨h2, h2'⟩
          · exact .inl (by rw [h1]; exact h2)
          · refine .inr ⟨h1.trans h2, ?_⟩
            rcases h1' with h1' | ⟨h1', h3⟩
            · rcases h2' with h2' | ⟨h2', h4⟩ <;> exact .inl (by omega)
            · rcases h2' with h2' | ⟨h2', h4⟩
              · exact .inl (by omega)
              · exact .inr ⟨by omega, i2 _ _ h3 h4⟩
theorem lt_asymm {x y : List Term} (h : Lt x y) : ¬ Lt y x := fun h2 => lt_irrefl x (lt_trans _ _ _ h h2)
theorem c_lt {x y : List Term} : cL x y = -1 ↔ Lt x y := Iff.rfl
theorem c_gt {x y : List Term} : cL x y = 1 ↔ Lt y x := by unfold Lt; rw [c_swap x y]; omega
theorem c_zero {x y : List Term} : cL x y = 0 ↔ x = y := ⟨c_eq x y, fun h => by rw [h]; exact c_refl _⟩
theorem c_cases (x y : List Term) : (cL x y = -1 ∧ Lt x y) ∨ (cL x y = 0 ∧ x = y) ∨ (cL x y = 1 ∧ Lt y x) := by
  rcases c_range x y with h | h | h
  · exact .inl ⟨h, h⟩
  · exact .inr (.inl ⟨h, c_eq _ _ h⟩)
  · exact .inr (.inr ⟨h, c_gt.1 h⟩)
theorem not_lt_nil (x : List Term) : ¬ Lt x [] := by
  unfold Lt
  cases x with
  | nil => rw [cL_nn]; omega
  | cons t x => rw [cL_cn]; omega
theorem nil_lt (t : Term) (x : List Term) : Lt [] (t :: x) := cL_nc _ _
/-! Ordinals in normal form. -/
mutual
def vT : Term → Prop
  | ⟨c, e⟩ => 1 ≤ c ∧ vL e
def vL : List Term → Prop
  | [] => True
  | t :: x => vT t ∧ (∀ u ∈ x, Lt u.f1 t.f1) ∧ vL x
end
theorem vT_eq (t : Term) : vT t ↔ 1 ≤ t.f0 ∧ vL t.f1 := by cases t; rw [vT]
theorem vL_nil : vL [] := by rw [vL]; trivial
theorem vL_cons (t : Term) (x : List Term) : vL (t :: x) ↔ (1 ≤ t.f0 ∧ vL t.f1) ∧ (∀ u ∈ x, Lt u.f1 t.f1) ∧ vL x := by rw [vL, vT_eq]
theorem vL_one (t : Term) : vL [t] ↔ 1 ≤ t.f0 ∧ vL t.f1 := by
  rw [vL_cons]
  exact ⟨fun h => h.1, fun h => ⟨h, (by intro u hu; cases hu), vL_nil⟩⟩
theorem vL_app (x y : List Term) : vL (x ++ y) ↔ vL x ∧ vL y ∧ (∀ t ∈ x, ∀ u ∈ y, Lt u.f1 t.f1) := by
  induction x with
  | nil => simp [vL_nil]
  | cons t x ih =>
    rw [List.cons_append, vL_cons, vL_cons, ih]
    constructor
    · rintro ⟨a, b, c, d, e⟩
      exact ⟨⟨a, fun u hu => b u (List.mem_append_left _ hu), c⟩, d, fun s hs u hu => by
        rcases List.mem_cons.1 hs with h | h
        · rw [h]; exact b u (List.mem_append_right _ hu)
        · exact e s h u hu⟩
    · rintro ⟨⟨a, b, c⟩, d, e⟩
      exact ⟨a, fun u hu => by
        rcases List.mem_append.1 hu with h | h
        · exact b u h
        · exact e t List.mem_cons_self u h, c, d, fun s hs u hu => e s (List.mem_cons_of_mem _ hs) u hu⟩
theorem vL_mem {x : List Term} (h : vL x) {t : Term} (ht : t ∈ x) : 1 ≤ t.f0 ∧ vL t.f1 := by
  induction x with
  | nil => cases ht
  | cons u x ih =>
    rw [vL_cons] at h
    rcases List.mem_cons.1 ht with h1 | h1
    · rw [h1]; exact h.1
    · exact ih h.2.2 h1
/-! Trees read off rows. -/
def pv (p : Option (List Term)) (e : List Term) : Bool := match p with
  | none => false
  | some q => decide (cL e q ≥ 0)
def tO : Nat → Nat → Option (List Term) → List Int → Option (List Term × List Int)
  | _, 0, _, l => some ([], l)
  | f + 1, n + 1, p, c :: m :: l => if c < 1 ∨ c > 9999 ∨ m < 0 ∨ m > 60 then none else match tO f m.toNat none l with
    | none => none
    | some (e, r) => if pv p e = true then none else match tO f n (some e) r with
      | none => none
      | some (x, r') => some (⟨c, e⟩ :: x, r')
  | _, _ + 1, _, _ => none
theorem tO_sound : ∀ (f n : Nat) (p : Option (List Term)) (l : List Int) {x : List Term} {r : List Int}, tO f n p l = some (x, r) →
    x.length = n ∧ l = fL x ++ r ∧ vL x ∧ mL x ≤ 9999 ∧ ∀ q, p = some q → ∀ t ∈ x, Lt t.f1 q
  | f, 0, p, l, x, r, h => by
    unfold tO at h
    simp only [Option.some.injEq, Prod.mk.injEq] at h
    obtain ⟨rfl, rfl⟩ := h
    exact ⟨rfl, by rw [fL_nil]; rfl, vL_nil, by rw [mL_nil]; omega, fun q _ t ht => by cases ht⟩
  | 0, n + 1, p, l, x, r, h => by cases l with
    | nil => simp [tO] at h
    | cons c l => cases l <;> simp [tO] at h
  | f + 1, n + 1, p, [], x, r, h => by simp [tO] at h
  | f + 1, n + 1, p, [c], x, r, h => by simp [tO] at h
  | f + 1, n + 1, p, c :: m :: l, x, r, h => by
    rw [tO] at h
    split at h
    · cases h
    · rename_i hb
      split at h
      · cases h
      · rename_i e r1 h1
        split at h
        · cases h
        · rename_i hq
          split at h
          · cases h
          · rename_i x' r2 h2
            simp only [Option.some.injEq, Prod.mk.injEq] at h
            obtain ⟨rfl, rfl⟩ := h
            obtain ⟨a1, a2, a3, a4, a5⟩ := tO_sound f _ _ l h1
            obtain ⟨b1, b2, b3, b4, b5⟩ := tO_sound f n _ r1 h2
            have hm : m = (e.length : Int) := by omega
            refine ⟨by simp [b1], ?_, ?_, ?_, ?_⟩
            · rw [fL_cons, a2, b2, hm]
              simp [row]
            · rw [vL_cons]
              exact ⟨⟨by show 1 ≤ c; omega, a3⟩, b5 e rfl, b3⟩
            · rw [mL_cons]
              show max (max c (mL e)) (mL x') ≤ 9999
              omega
            · intro q hp t ht
              subst hp
              have hlt : Lt e q := by
                have := c_range e q
                unfold Lt
                simp only [pv, decide_eq_true_eq] at hq
                omega
              rcases List.mem_cons.1 ht with h | h
              · rw [h]; exact hlt
              · exact lt_trans _ _ _ (b5 e rfl t h) hlt
theorem tO_complete : ∀ (f : Nat) (x : List Term) (p : Option (List Term)) (r : List Int), vL x → mL x ≤ 9999 → size x ≤ 61 → (∀ q, p = some q → ∀ t ∈ x, Lt t.f1 q) → (fL x).length ≤ f → tO f x.length p (fL x ++ r) = some (x, r)
  | f, [], p, r, _, _, _, _, _ => by simp [fL_nil, tO]
  | 0, t :: x, p, r, _, _, _, _, h => by rw [fL_cons] at h; simp at h
  | f + 1, t :: x, p, r, hv, hm, hs, hp, h => by
    rw [vL_cons] at hv
    rw [mL_cons] at hm
    rw [size_cons] at hs
    rw [fL_cons] at h ⊢
    have hz := size_pos x
    have hz2 := size_len t.f1
    have hz3 := size_eq t.f1
    have hz4 := size_eq x
    rw [List.length_cons, List.length_append] at h
    have hr : (row t.f1).length = size t.f1 := rfl
    simp only [row, List.cons_append, List.length_cons, List.append_assoc]
    rw [tO, if_neg (by omega), Int.toNat_natCast, tO_complete f t.f1 none (fL x ++ r) hv.1.2 (by omega) (by omega) (fun q h => by cases h) (by omega)]
    have hpp : ¬ pv p t.f1 = true := by
      cases p with
      | none => exact Bool.false_ne_true
      | some q =>
        have := hp q rfl t List.mem_cons_self
        unfold Lt at this
        simp only [pv, decide_eq_true_eq]
        omega
    simp only []
    rw [if_neg hpp, tO_complete f x (some t.f1) r hv.2.2 (by omega) (by omega) (fun q h => by cases h; exact hv.2.1) (by omega)]
    cases t
    rfl
theorem tO_fuel : ∀ (f g n : Nat) (p : Option (List Term)) (l : List Int), l.length ≤ f → l.length ≤ g → tO f n p l = tO g n p l
  | f, g, 0, p, l, _, _ => by simp [tO]
  | 0, 0, n + 1, p, l, _, _ => rfl
  | 0, g + 1, n + 1, p, l, h, _ => by
    obtain rfl : l = [] := List.eq_nil_of_length_eq_zero (by omega)
    simp [tO]
  | f + 1, 0, n + 1, p, l, _, h => by
    obtain rfl : l = [] := List.eq_nil_of_length_eq_zero (by omega)
    simp [tO]
  | f + 1, g + 1, n + 1, p, [], _, _ => by simp [tO]
  | f + 1, g + 1, n + 1, p, [c], _, _ => by simp [tO]
  | f + 1, g + 1, n + 1, p, c :: m :: l, hf, hg => by
    simp only [List.length_cons] at hf hg
    rw [tO, tO]
    split
    · rfl
    · rw [tO_fuel f g m.toNat none l (by omega) (by omega)]
      cases h : tO g m.toNat none l with
      | none => rfl
      | some q =>
        obtain ⟨e, r⟩ := q
        have := congrArg List.length (tO_sound g _ _ l h).2.1
        rw [List.length_append] at this
        simp only
        rw [tO_fuel f g n (some e) r (by omega) (by omega)]
def tO1 (l : List Int) : Option (List Term × List Int) := match l with
  | [] => none
  | m :: l' => if m < 0 ∨ m > 60 then none else tO l'.length m.toNat none l'
theorem tO1_sound {l : List Int} {x : List Term} {r : List Int} (h : tO1 l = some (x, r)) : l = row x ++ r ∧ vL x ∧ mL x ≤ 9999 := by
  cases l with
  | nil => simp [tO1] at h
  | cons m l =>
    simp only [tO1] at h
    split at h
    · cases h
    · obtain ⟨a1, a2, a3, a4, _⟩ := tO_sound _ _ _ l h
      refine ⟨?_, a3, a4⟩
      rw [a2, row, a1, List.cons_append]
      congr 1
      omega
theorem tO1_complete {x : List Term} (r : List Int) (hv : vL x) (hm : mL x ≤ 9999) (hs : size x ≤ 61) : tO1 (row x ++ r) = some (x, r) := by
  have := size_len x
  simp only [row, List.cons_append, tO1]
  rw [if_neg (by omega), Int.toNat_natCast]
  exact tO_complete _ x none r hv hm (by omega) (fun q h => by cases h) (by simp)
theorem tO_step {f n : Nat} {p : Option (List Term)} {c : Int} {l : List Int} (hf : l.length ≤ f) : tO (f + 1) (n + 1) p (c :: l) = if c < 1 ∨ c > 9999 then none else match tO1 l with
    | none => none
    | some (e, r) => if pv p e = true then none else match tO r.length n (some e) r with
      | none => none
      | some (x, r') => some (⟨c, e⟩ :: x, r') := by
  cases l with
  | nil => simp [tO, tO1]
  | cons m l =>
    simp only [List.length_cons] at hf
    rw [tO]
    simp only [tO1]
    by_cases h1 : c < 1 ∨ c > 9999
    · rw [if_pos (by omega), if_pos h1]
    · rw [if_neg h1]
      by_cases h2 : m < 0 ∨ m > 60
      · rw [if_pos (by omega), if_pos h2]
      · rw [if_neg (by omega), if_neg h2, tO_fuel f l.length m.toNat none l (by omega) (by omega)]
        cases h : tO l.length m.toNat none l with
        | none => rfl
        | some q =>
          obtain ⟨e, r⟩ := q
          have := congrArg List.length (tO_sound _ _ _ l h).2.1
          rw [List.length_append] at this
          simp only
          rw [tO_fuel f r.length n (some e) r (by omega) (by omega)]
/-- A valid row. -/
def OV (r : List Int) : Bool := decide (1 ≤ r.length ∧ r.length ≤ 60) && match tO1 r with
  | some (_, r') => r'.isEmpty
  | none => false
/-- A tree whose row is valid. -/
structure Fit (x : List Term) : Prop where
  v : vL x
  m : mL x ≤ 9999
  s : size x ≤ 60
theorem OV_row {x : List Term} (h : vL x) : OV (row x) = decide (mL x ≤ 9999 ∧ size x ≤ 60) := by
  have hz := size_pos x
  have hr : (row x).length = size x := rfl
  by_cases hf : mL x ≤ 9999 ∧ size x ≤ 60
  · rw [decide_eq_true hf]
    unfold OV
    have := tO1_complete [] h hf.1 (by omega)
    rw [List.append_nil] at this
    rw [this, hr, decide_eq_true (by omega)]
    rfl
  · rw [decide_eq_false hf]
    unfold OV
    by_cases hl : size x ≤ 60
    · rw [hr, decide_eq_true (by omega), Bool.true_and]
      cases ht : tO1 (row x) with
      | none => rfl
      | some q =>
        obtain ⟨y, r⟩ := q
        obtain ⟨a1, a2, a3⟩ := tO1_sound ht
        cases r with
        | cons _ _ => rfl
        | nil =>
          exfalso
          rw [List.append_nil] at a1
          have hys : size y = size x := by unfold size; rw [a1]
          have h1 := tO1_complete (x := y) [] a2 a3 (by omega)
          have h2 : mL x ≤ 9999 := by
            -- rows tell trees
            have : ∀ (x : List Term) (y : List Term) (r s : List Int), row x ++ r = row y ++ s → x = y ∧ r = s := by
              intro x
              refine tree_ind (P := fun x => ∀ y r s, row x ++ r = row y ++ s → x = y ∧ r = s) ?_ ?_ x
              · intro y r s h
                cases y with
                | nil => exact ⟨rfl, by simpa [row, fL_nil] using h⟩
                | cons b y => simp only [row, List.length_nil, List.length_cons, List.cons_append, List.cons.injEq] at h; omega
              · intro t x i1 i2 y r s h
                cases y with
                | nil => simp only [row, List.length_nil, List.length_cons, List.cons_append, List.cons.injEq] at h; omega
                | cons b y =>
                  simp only [row, List.length_cons, List.cons_append, List.cons.injEq, fL_cons, List.append_assoc] at h
                  obtain ⟨h0, h1, h2⟩ := h
                  have h3 := i1 b.f1 (fL x ++ r) (fL y ++ s) (by simp only [row, List.cons_append]; rw [h2.1, h2.2])
                  have h4 := i2 y r s (by simp only [row, List.cons_append]; rw [h3.2]; congr 1; omega)
                  refine ⟨?_, h4.2⟩
                  cases t; cases b; simp_all
            have := (this x y [] [] (by simpa using a1)).1
            rw [this]; exact a3
          exact hf ⟨h2, hl⟩
    · rw [hr, decide_eq_false (by omega), Bool.false_and]
theorem OV_tree {r : List Int} (h : OV r = true) : ∃ x, r = row x ∧ Fit x ∧ tO1 r = some (x, []) := by
  unfold OV at h
  rw [Bool.and_eq_true, decide_eq_true_eq] at h
  obtain ⟨h1, h2⟩ := h
  cases ht : tO1 r with
  | none => rw [ht] at h2; cases h2
  | some q =>
    obtain ⟨x, r'⟩ := q
    rw [ht] at h2
    obtain ⟨a1, a2, a3⟩ := tO1_sound ht
    cases r' with
    | cons _ _ => cases h2
    | nil =>
      rw [List.append_nil] at a1
      exact ⟨x, a1, ⟨a2, a3, by unfold size; rw [← a1]; exact h1.2⟩, rfl⟩
theorem Fit.ov {x : List Term} (h : Fit x) : OV (row x) = true := by rw [OV_row h.v]; exact decide_eq_true ⟨h.m, h.s⟩
/-! Natural sums. -/
def natO : List Term → List Term → List Term
  | [], y => y
  | a :: x, [] => a :: x
  | a :: x, b :: y => if cL a.f1 b.f1 = 1 then a :: natO x (b :: y) else if cL a.f1 b.f1 = -1 then b :: natO (a :: x) y else ⟨a.f0 + b.f0, a.f1⟩ :: natO x y
termination_by x y => x.length + y.length
theorem nat_nl (y : List Term) : natO [] y = y := by rw [natO]
theorem nat_nr (x : List Term) : natO x [] = x := by cases x <;> rw [natO]
/-- How often an exponent comes. -/
def co : List Term → List Term → Int
  | [], _ => 0
  | t :: x, e => (if cL t.f1 e = 0 then t.f0 else 0) + co x e
theorem co_app (x y e : List Term) : co (x ++ y) e = co x e + co y e := by
  induction x with
  | nil => simp [co]
  | cons t x ih => simp only [List.cons_append, co, ih]; omega
/-- How the two first terms lie decides. -/
theorem nat_ind {P : List Term → List Term → Prop} (h1 : ∀ y, P [] y) (h2 : ∀ x, P x []) (h3 : ∀ a x b y, Lt b.f1 a.f1 → P x (b :: y) → P (a :: x) (b :: y)) (h4 : ∀ a x b y, Lt a.f1 b.f1 → P (a :: x) y → P (a :: x) (b :: y)) (h5 : ∀ a x b y, a.f1 = b.f1 → P x y → P (a :: x) (b :: y)) : ∀ x y, P x y
  | [], y => h1 y
  | a :: x, [] => h2 _
  | a :: x, b :: y => by
    rcases c_cases a.f1 b.f1 with ⟨_, h⟩ | ⟨_, h⟩ | ⟨_, h⟩
    · exact h4 a x b y h (nat_ind h1 h2 h3 h4 h5 (a :: x) y)
    · exact h5 a x b y h (nat_ind h1 h2 h3 h4 h5 x y)
    · exact h3 a x b y h (nat_ind h1 h2 h3 h4 h5 x (b :: y))
termination_by x y => x.length + y.length
theorem nat_gt {a b : Term} (x y : List Term) (h : Lt b.f1 a.f1) : natO (a :: x) (b :: y) = a :: natO x (b :: y) := by
  rw [natO, if_pos (c_gt.2 h)]
theorem nat_lt {a b : Term} (x y : List Term) (h : Lt a.f1 b.f1) : natO (a :: x) (b :: y) = b :: natO (a :: x) y := by
  have := c_lt.2 h
  rw [natO, if_neg (by omega), if_pos this]
theorem nat_eq {a b : Term} (x y : List Term) (h : a.f1 = b.f1) : natO (a :: x) (b :: y) = ⟨a.f0 + b.f0, a.f1⟩ :: natO x y := by
  have := c_zero.2 h
  rw [natO, if_neg (by omega), if_neg (by omega)]
theorem co_nat (x y e : List Term) : co (natO x y) e = co x e + co y e := by
  refine nat_ind (P := fun x y => co (natO x y) e = co x e + co y e) ?_ ?_ ?_ ?_ ?_ x y
  · intro y; rw [nat_nl]; simp [co]
  · intro x; rw [nat_nr]; simp [co]
  · intro a x b y h ih; rw [nat_gt x y h]; simp only [co] at ih ⊢; omega
  · intro a x b y h ih; rw [nat_lt x y h]; simp only [co] at ih ⊢; omega
  · intro a x b y h ih
    rw [nat_eq x y h]
    simp only [co] at ih ⊢
    rw [ih, h]
    split <;> omega
theorem nat_mem (x y : List Term) : ∀ t ∈ natO x y, ∃ u, (u ∈ x ∨ u ∈ y) ∧ u.f1 = t.f1 := by
  refine nat_ind (P := fun x y => ∀ t ∈ natO x y, ∃ u, (u ∈ x ∨ u ∈ y) ∧ u.f1 = t.f1) ?_ ?_ ?_ ?_ ?_ x y
  · intro y t ht; rw [nat_nl] at ht; exact ⟨t, .inr ht, rfl⟩
  · intro x t ht; rw [nat_nr] at ht; exact ⟨t, .inl ht, rfl⟩
  · intro a x b y h ih t ht
    rw [nat_gt x y h] at ht
    rcases List.mem_cons.1 ht with h1 | h1
    · exact ⟨a, .inl List.mem_cons_self, by rw [h1]⟩
    · obtain ⟨u, hu, he⟩ := ih t h1
      exact ⟨u, hu.imp (List.mem_cons_of_mem _) id, he⟩
  · intro a x b y h ih t ht
    rw [nat_lt x y h] at ht
    rcases List.mem_cons.1 ht with h1 | h1
    · exact ⟨b, .inr List.mem_cons_self, by rw [h1]⟩
    · obtain ⟨u, hu, he⟩ := ih t h1
      exact ⟨u, hu.imp id (List.mem_cons_of_mem _), he⟩
  · intro a x b y h ih t ht
    rw [nat_eq x y h] at ht
    rcases List.mem_cons.1 ht with h1 | h1
    · exact ⟨a, .inl List.mem_cons_self, by rw [h1]⟩
    · obtain ⟨u, hu, he⟩ := ih t h1
      exact ⟨u, hu.imp (List.mem_cons_of_mem _) (List.mem_cons_of_mem _), he⟩
theorem nat_v (x y : List Term) : vL x → vL y → vL (natO x y) := by
  refine nat_ind (P := fun x y => vL x → vL y → vL (natO x y)) ?_ ?_ ?_ ?_ ?_ x y
  · intro y _ h; rw [nat_nl]; exact h
  · intro x h _; rw [nat_nr]; exact h
  · intro a x b y h ih hx hy
    rw [nat_gt x y h]
    rw [vL_cons] at hx ⊢
    refine ⟨hx.1, fun t ht => ?_, ih hx.2.2 hy⟩
    obtain ⟨u, hu, he⟩ := nat_mem _ _ t ht
    rw [← he]
    rcases hu with hu | hu
    · exact hx.2.1 u hu
    · rw [vL_cons] at hy
      rcases List.mem_cons.1 hu with hu | hu
      · rw [hu]; exact h
      · exact lt_trans _ _ _ (hy.2.1 u hu) h
  · intro a x b y h ih hx hy
    rw [nat_lt x y h]
    rw [vL_cons] at hy ⊢
    refine ⟨hy.1, fun t ht => ?_, ih hx hy.2.2⟩
    obtain ⟨u, hu, he⟩ := nat_mem _ _ t ht
    rw [← he]
    rcases hu with hu | hu
    · rw [vL_cons] at hx
      rcases List.mem_cons.1 hu with hu | hu
      · rw [hu]; exact h
      · exact lt_trans _ _ _ (hx.2.1 u hu) h
    · exact hy.2.1 u hu
  · intro a x b y h ih hx hy
    rw [nat_eq x y h]
    rw [vL_cons] at hx hy ⊢
    refine ⟨⟨by show 1 ≤ a.f0 + b.f0; omega, hx.1.2⟩, fun t ht => ?_, ih hx.2.2 hy.2.2⟩
    obtain ⟨u, hu, he⟩ := nat_mem _ _ t ht
    rw [← he]
    rcases hu with hu | hu
    · exact hx.2.1 u hu
    · show Lt u.f1 a.f1
      rw [h]; exact hy.2.1 u hu
theorem nat_size (x y : List Term) : size x ≤ size (natO x y) ∧ size y ≤ size (natO x y) ∧ size (natO x y) + 1 ≤ size x + size y := by
  refine nat_ind (P := fun x y => size x ≤ size (natO x y) ∧ size y ≤ size (natO x y) ∧ size (natO x y) + 1 ≤ size x + size y) ?_ ?_ ?_ ?_ ?_ x y
  · intro y; rw [nat_nl, size_nil]; have := size_pos y; omega
  · intro x; rw [nat_nr, size_nil]; have := size_pos x; omega
  · intro a x b y h ih; rw [nat_gt x y h, size_cons, size_cons]; have := size_cons b y; omega
  · intro a x b y h ih; rw [nat_lt x y h, size_cons, size_cons]; have := size_cons a x; have := size_cons b y; rw [size_cons] at ih; omega
  · intro a x b y h ih; rw [nat_eq x y h, size_cons, size_cons, size_cons, h]; omega
theorem nat_m (x y : List Term) : vL x → vL y → mL x ≤ mL (natO x y) ∧ mL y ≤ mL (natO x y) ∧ mL (natO x y) ≤ mL x + mL y := by
  refine nat_ind (P := fun x y => vL x → vL y → mL x ≤ mL (natO x y) ∧ mL y ≤ mL (natO x y) ∧ mL (natO x y) ≤ mL x + mL y) ?_ ?_ ?_ ?_ ?_ x y
  · intro y _ _; rw [nat_nl, mL_nil]; have := mL_pos y; omega
  · intro x _ _; rw [nat_nr, mL_nil]; have := mL_pos x; omega
  · intro a x b y h ih hx hy; rw [nat_gt x y h, mL_cons, mL_cons]; rw [vL_cons] at hx; have := ih hx.2.2 hy; have := mL_pos (b :: y); have := mL_pos a.f1; omega
  · intro a x b y h ih hx hy; rw [nat_lt x y h, mL_cons b, mL_cons b]; rw [vL_cons] at hy; have := ih hx hy.2.2; have := mL_pos (a :: x); have := mL_pos b.f1; omega
  · intro a x b y h ih hx hy
    rw [nat_eq x y h, mL_cons, mL_cons, mL_cons, ← h]
    rw [vL_cons] at hx hy
    have := ih hx.2.2 hy.2.2
    have := mL_pos a.f1
    show max (max a.f0 (mL a.f1)) (mL x) ≤ max (max (a.f0 + b.f0) (mL a.f1)) (mL (natO x y)) ∧ max (max b.f0 (mL a.f1)) (mL y) ≤ max (max (a.f0 + b.f0) (mL a.f1)) (mL (natO x y)) ∧ max (max (a.f0 + b.f0) (mL a.f1)) (mL (natO x y)) ≤ max (max a.f0 (mL a.f1)) (mL x) + max (max b.f0 (mL a.f1)) (mL y)
    omega
theorem co_zero {x e : List Term} (h : ∀ t ∈ x, t.f1 ≠ e) : co x e = 0 := by
  induction x with
  | nil => rfl
  | cons t x ih =>
    rw [co, ih (fun u hu => h u (List.mem_cons_of_mem _ hu)), if_neg (fun hc => h t List.mem_cons_self (c_eq _ _ hc))]
    rfl
theorem co_pos {x : List Term} (h : vL x) (e : List Term) : 0 ≤ co x e := by
  induction x with
  | nil => exact Int.le_refl _
  | cons t x ih =>
    rw [vL_cons] at h
    have := ih h.2.2
    rw [co]
    split <;> omega
theorem co_ne {x e : List Term} (h : co x e ≠ 0) : ∃ t ∈ x, t.f1 = e := by
  apply Classical.byContradiction
  intro hc
  exact h (co_zero fun t ht he => hc ⟨t, ht, he⟩)
theorem co_head {t : Term} {x : List Term} (h : vL (t :: x)) : co (t :: x) t.f1 = t.f0 := by
  rw [vL_cons] at h
  rw [co, if_pos (c_refl _), co_zero fun u hu he => lt_irrefl t.f1 (by have := h.2.1 u hu; rwa [he] at this)]
  omega
theorem co_above {t : Term} {x e : List Term} (h : vL (t :: x)) (he : Lt t.f1 e) : co (t :: x) e = 0 := by
  rw [vL_cons] at h
  refine co_zero fun u hu hc => ?_
  rcases List.mem_cons.1 hu with hu | hu
  · rw [hu] at hc; rw [hc] at he; exact lt_irrefl _ he
  · have := h.2.1 u hu
    rw [hc] at this
    exact lt_asymm he this
theorem lt_co1 : ∀ x y, vL x → vL y → Lt x y → ∃ e, co x e < co y e ∧ ∀ f, Lt e f → co x f = co y f
  | x, [], _, _, h => absurd h (not_lt_nil x)
  | [], b :: y, _, hy, _ => ⟨b.f1, by
      rw [co_head hy, co]
      rw [vL_cons] at hy
      omega, fun f hf => by rw [co_above hy hf]; rfl⟩
  | a :: x, b :: y, hx, hy, h => by
    rcases lt_cc.1 h with h | ⟨h1, h | ⟨h2, h3⟩⟩
    · refine ⟨b.f1, ?_, fun f hf => by rw [co_above hy hf, co_above hx (lt_trans _ _ _ h hf)]⟩
      rw [co_head hy, co_above hx h]
      rw [vL_cons] at hy
      omega
    · refine ⟨b.f1, ?_, fun f hf => by rw [co_above hy hf, co_above hx (by rw [h1]; exact hf)]⟩
      rw [co_head hy, ← h1, co_head hx]
      exact h
    · have hx' := hx
      have hy' := hy
      rw [vL_cons] at hx hy
      obtain ⟨e, e1, e2⟩ := lt_co1 x y hx.2.2 hy.2.2 h3
      refine ⟨e, by simp only [co, h1, h2]; omega, fun f hf => by simp only [co, h1, h2, e2 f hf]⟩
theorem co_lt {x y : List Term} (hx : vL x) (hy : vL y) {e : List Term} (h1 : co x e < co y e) (h2 : ∀ f, Lt e f → co x f = co y f) : Lt x y := by
  rcases c_cases x y with ⟨_, h⟩ | ⟨_, h⟩ | ⟨_, h⟩
  · exact h
  · rw [h] at h1; omega
  · exfalso
    obtain ⟨f, f1, f2⟩ := lt_co1 y x hy hx h
    rcases c_cases e f with ⟨_, h⟩ | ⟨_, h⟩ | ⟨_, h⟩
    · have := h2 f h; omega
    · rw [h] at h1; omega
    · have := f2 e h; omega
theorem co_ext {x y : List Term} (hx : vL x) (hy : vL y) (h : ∀ e, co x e = co y e) : x = y := by
  rcases c_cases x y with ⟨_, h1⟩ | ⟨_, h1⟩ | ⟨_, h1⟩
  · obtain ⟨e, h2, _⟩ := lt_co1 x y hx hy h1
    have := h e
    omega
  · exact h1
  · obtain ⟨e, h2, _⟩ := lt_co1 y x hy hx h1
    have := h e
    omega
theorem nat_mono {a b c : List Term} (ha : vL a) (hb : vL b) (hc : vL c) (h : Lt a b) : Lt (natO a c) (natO b c) := by
  obtain ⟨e, h1, h2⟩ := lt_co1 a b ha hb h
  exact co_lt (nat_v _ _ ha hc) (nat_v _ _ hb hc) (e := e) (by rw [co_nat, co_nat]; omega) (fun f hf => by rw [co_nat, co_nat, h2 f hf])
theorem nat_ge {a c : List Term} (ha : vL a) (hc : vL c) : ¬ Lt (natO a c) a := fun h => by
  obtain ⟨e, h1, _⟩ := lt_co1 _ _ (nat_v _ _ ha hc) ha h
  have := co_pos hc e
  rw [co_nat] at h1
  omega
theorem nat_comm {a b : List Term} (ha : vL a) (hb : vL b) : natO a b = natO b a :=
  co_ext (nat_v _ _ ha hb) (nat_v _ _ hb ha) fun e => by rw [co_nat, co_nat]; omega
theorem nat_assoc {a b c : List Term} (ha : vL a) (hb : vL b) (hc : vL c) : natO (natO a b) c = natO a (natO b c) :=
  co_ext (nat_v _ _ (nat_v _ _ ha hb) hc) (nat_v _ _ ha (nat_v _ _ hb hc)) fun e => by simp only [co_nat]; omega
/-! One less, and steps down. -/
def bef : List Term → List Term
  | [] => []
  | [t] => if t.f0 = 1 then [] else [⟨t.f0 - 1, t.f1⟩]
  | t :: u :: x => t :: bef (u :: x)
def kd : List Term → Int
  | [] => 0
  | [t] => if t.f1.isEmpty then 1 else 2
  | _ :: u :: x => kd (u :: x)
def stp (n : Int) : List Term → List Term
  | [] => []
  | [⟨c, e⟩] => (if c = 1 then [] else [⟨c - 1, e⟩]) ++ (if e.isEmpty then [] else if kd e = 2 then [⟨1, stp n e⟩] else if n > 0 then [⟨n, bef e⟩] else [])
  | t :: u :: x => t :: stp n (u :: x)
termination_by x => SizeOf.sizeOf x
theorem bef_app (l : List Term) (t : Term) : bef (l ++ [t]) = l ++ bef [t] := by
  induction l with
  | nil => rfl
  | cons s l ih =>
    cases l with
    | nil => rfl
    | cons u l => exact congrArg (s :: ·) ih
theorem kd_app (l : List Term) (t : Term) : kd (l ++ [t]) = if t.f1.isEmpty then 1 else 2 := by
  induction l with
  | nil => rfl
  | cons s l ih =>
    cases l with
    | nil => rfl
    | cons u l => simp only [List.cons_append] at ih ⊢; rw [kd, ih]
theorem stp_nil (n : Int) : stp n [] = [] := by rw [stp]
theorem stp_one (n : Int) (t : Term) : stp n [t] = bef [t] ++ (if t.f1.isEmpty then [] else if kd t.f1 = 2 then [⟨1, stp n t.f1⟩] else if n > 0 then [⟨n, bef t.f1⟩] else []) := by
  cases t
  rw [stp]
  rfl
theorem stp_app (n : Int) (l : List Term) (t : Term) : stp n (l ++ [t]) = l ++ stp n [t] := by
  induction l with
  | nil => rfl
  | cons s l ih =>
    cases l with
    | nil => simp only [List.cons_append, List.nil_append]; rw [stp]
    | cons u l => simp only [List.cons_append] at ih ⊢; rw [stp, ih]
theorem last_cases {P : List Term → Prop} (h0 : P []) (h1 : ∀ l t, P (l ++ [t])) (x : List Term) : P x := by
  rcases List.eq_nil_or_concat x with h | ⟨l, t, h⟩
  · rw [h]; exact h0
  · rw [h, List.concat_eq_append]; exact h1 l t
theorem kd_zero {x : List Term} : kd x = 0 ↔ x = [] := by
  refine last_cases (P := fun x => kd x = 0 ↔ x = []) (by simp [kd]) (fun l t => ?_) x
  rw [kd_app]
  constructor
  · intro h; split at h <;> omega
  · intro h; simp at h
theorem kd_range (x : List Term) : kd x = 0 ∨ kd x = 1 ∨ kd x = 2 := by
  refine last_cases (P := fun x => kd x = 0 ∨ kd x = 1 ∨ kd x = 2) (.inl rfl) (fun l t => ?_) x
  rw [kd_app]
  split <;> omega
theorem stp_bef {n : Int} {x : List Term} (h : kd x ≠ 2) : stp n x = bef x := by
  refine last_cases (P := fun x => kd x ≠ 2 → stp n x = bef x) (fun _ => stp_nil n) (fun l t h => ?_) x h
  rw [kd_app] at h
  rw [stp_app, bef_app, stp_one]
  have : t.f1.isEmpty = true := by
    cases hc : t.f1.isEmpty
    · rw [hc] at h; simp at h
    · rfl
  rw [if_pos this, List.append_nil]
theorem lt_app (l x y : List Term) : Lt (l ++ x) (l ++ y) ↔ Lt x y := by
  induction l with
  | nil => exact Iff.rfl
  | cons t l ih =>
    simp only [List.cons_append]
    rw [lt_cc]
    constructor
    · rintro (h | ⟨_, h | ⟨_, h⟩⟩)
      · exact absurd h (lt_irrefl _)
      · omega
      · exact ih.1 h
    · intro h; exact .inr ⟨rfl, .inr ⟨rfl, ih.2 h⟩⟩
theorem bef_lt (x : List Term) (h : x ≠ []) (hv : vL x) : Lt (bef x) x := by
  refine last_cases (P := fun x => x ≠ [] → vL x → Lt (bef x) x) (fun h _ => absurd rfl h) (fun l t _ hv => ?_) x h hv
  rw [bef_app, lt_app, bef]
  split
  · exact nil_lt _ _
  · rw [lt_cc]; exact .inr ⟨rfl, .inl (by show t.f0 - 1 < t.f0; omega)⟩
theorem bef_v (x : List Term) (hv : vL x) : vL (bef x) := by
  refine last_cases (P := fun x => vL x → vL (bef x)) (fun _ => vL_nil) (fun l t hv => ?_) x hv
  rw [bef_app]
  rw [vL_app] at hv ⊢
  obtain ⟨h1, h2, h3⟩ := hv
  rw [vL_cons] at h2
  rw [bef]
  split
  · exact ⟨h1, vL_nil, fun t _ u hu => by cases hu⟩
  · refine ⟨h1, ?_, fun s hs u hu => ?_⟩
    · rw [vL_one]; exact ⟨by show 1 ≤ t.f0 - 1; omega, h2.1.2⟩
    · rw [List.mem_singleton.1 hu]; exact h3 s hs t List.mem_cons_self
theorem stp_one_v (n : Int) (t : Term) (hn : 0 ≤ n) (ht : 1 ≤ t.f0 ∧ vL t.f1) (ih : t.f1 ≠ [] → vL (stp n t.f1) ∧ Lt (stp n t.f1) t.f1) : vL (stp n [t]) ∧ Lt (stp n [t]) [t] ∧ ∀ u ∈ stp n [t], u.f1 = t.f1 ∨ Lt u.f1 t.f1 := by
  have hb : vL (bef [t]) := bef_v _ ((vL_one t).2 ht)
  have hm : ∀ u ∈ bef [t], u.f1 = t.f1 := by
    intro u hu
    rw [bef] at hu
    split at hu
    · cases hu
    · rw [List.mem_singleton.1 hu]
  -- what is added has a less exponent
  have key : ∀ s : Term, 1 ≤ s.f0 → vL s.f1 → Lt s.f1 t.f1 → vL (bef [t] ++ [s]) ∧ Lt (bef [t] ++ [s]) [t] ∧ ∀ u ∈ bef [t] ++ [s], u.f1 = t.f1 ∨ Lt u.f1 t.f1 := by
    intro s s1 s2 s3
    refine ⟨?_, ?_, ?_⟩
    · rw [vL_app]
      refine ⟨hb, (vL_one s).2 ⟨s1, s2⟩, fun r hr u hu => ?_⟩
      rw [List.mem_singleton.1 hu, hm r hr]; exact s3
    · rw [bef]
      split
      · rw [List.nil_append, lt_cc]; exact .inl s3
      · rw [List.cons_append, lt_cc]; exact .inr ⟨rfl, .inl (by show t.f0 - 1 < t.f0; omega)⟩
    · intro u hu
      rcases List.mem_append.1 hu with hu | hu
      · exact .inl (hm u hu)
      · rw [List.mem_singleton.1 hu]; exact .inr s3
  have base : vL (bef [t] ++ []) ∧ Lt (bef [t] ++ []) [t] ∧ ∀ u ∈ bef [t] ++ [], u.f1 = t.f1 ∨ Lt u.f1 t.f1 := by
    rw [List.append_nil]
    exact ⟨hb, bef_lt _ (by simp) ((vL_one t).2 ht), fun u hu => .inl (hm u hu)⟩
  rw [stp_one]
  split
  · exact base
  · rename_i he
    have hne : t.f1 ≠ [] := fun h => he (by rw [h]; rfl)
    split
    · obtain ⟨i1, i2⟩ := ih hne
      exact key ⟨1, stp n t.f1⟩ (Int.le_refl 1) i1 i2
    · split
      · exact key ⟨n, bef t.f1⟩ (by show 1 ≤ n; omega) (bef_v _ ht.2) (bef_lt _ hne ht.2)
      · exact base
theorem stp_v (n : Int) (hn : 0 ≤ n) (x : List Term) : vL x → vL (stp n x) ∧ (x ≠ [] → Lt (stp n x) x) := by
  have main : ∀ x, (∀ t ∈ x, vL t.f1 → vL (stp n t.f1) ∧ (t.f1 ≠ [] → Lt (stp n t.f1) t.f1)) ∧ (vL x → vL (stp n x) ∧ (x ≠ [] → Lt (stp n x) x)) := by
    intro x
    refine tree_ind (P := fun x => (∀ t ∈ x, vL t.f1 → vL (stp n t.f1) ∧ (t.f1 ≠ [] → Lt (stp n t.f1) t.f1)) ∧ (vL x → vL (stp n x) ∧ (x ≠ [] → Lt (stp n x) x))) ?_ ?_ x
    · exact ⟨(by intro t ht; cases ht), fun _ => ⟨(by rw [stp_nil]; exact vL_nil), fun h => absurd rfl h⟩⟩
    · intro t x i1 i2
      have all : ∀ s ∈ t :: x, vL s.f1 → vL (stp n s.f1) ∧ (s.f1 ≠ [] → Lt (stp n s.f1) s.f1) := by
        intro s hs
        rcases List.mem_cons.1 hs with h | h
        · rw [h]; exact i1.2
        · exact i2.1 s h
      refine ⟨all, ?_⟩
      generalize t :: x = y at all
      refine last_cases (P := fun y => (∀ s ∈ y, vL s.f1 → vL (stp n s.f1) ∧ (s.f1 ≠ [] → Lt (stp n s.f1) s.f1)) → vL y → vL (stp n y) ∧ (y ≠ [] → Lt (stp n y) y)) ?_ ?_ y all
      · exact fun _ _ => ⟨by rw [stp_nil]; exact vL_nil, fun h => absurd rfl h⟩
      · intro l s hs hv
        rw [vL_app] at hv
        obtain ⟨v1, v2, v3⟩ := hv
        rw [vL_cons] at v2
        have hss := hs s (by simp) v2.1.2
        obtain ⟨a1, a2, a3⟩ := stp_one_v n s hn v2.1 (fun h => ⟨hss.1, hss.2 h⟩)
        rw [stp_app, lt_app, vL_app]
        refine ⟨⟨v1, a1, fun r hr u hu => ?_⟩, fun _ => a2⟩
        have := v3 r hr s List.mem_cons_self
        rcases a3 u hu with h | h
        · rw [h]; exact this
        · exact lt_trans _ _ _ h this
  exact (main x).2
/-! What the code makes of trees and their rows. -/
theorem tree_mem {P : List Term → Prop} (h : ∀ x, (∀ t ∈ x, P t.f1) → P x) (x : List Term) : P x := by
  have : (∀ t ∈ x, P t.f1) ∧ P x := by
    refine tree_ind (P := fun x => (∀ t ∈ x, P t.f1) ∧ P x) ⟨(by intro t ht; cases ht), h _ (by intro t ht; cases ht)⟩ ?_ x
    intro t x h1 h2
    have : ∀ s ∈ t :: x, P s.f1 := by
      intro s hs
      rcases List.mem_cons.1 hs with e | e
      · rw [e]; exact h1.2
      · exact h2.1 s e
    exact ⟨this, h _ this⟩
  exact this.2
theorem get_at {α : Type} {l : List α} {i : Nat} {d : α} (h : i < l.length) : l.getD (i : Int).toNat d = l[i] := by
  rw [Int.toNat_natCast, List.getD_eq_getElem?_getD, List.getElem?_eq_getElem h]
  rfl
theorem size_mem {x : List Term} {t : Term} (h : t ∈ x) : size t.f1 + 2 ≤ size x := by
  induction x with
  | nil => cases h
  | cons s x ih =>
    rw [size_cons]
    rcases List.mem_cons.1 h with h | h
    · rw [h]; have := size_pos x; omega
    · have := ih h; omega
theorem cmp_ev (a b : Int) : Ev (fun k => cmp_Compare_int.f k a b) (if a < b then -1 else if a > b then 1 else 0) := by
  have nn : ∀ a : Int, Ev (fun k => cmp_isNaN_int.f k a) false := fun a => ev_succ (fun k => cmp_isNaN_int.f_eq k a) (ev_some.2 (by simp))
  refine ev_succ (fun k => cmp_Compare_int.f_eq k a b) (ev_bind (nn a) (ev_bind (nn b) (ev_bf rfl (ev_bf rfl ?_))))
  by_cases h : a < b
  · rw [if_pos h]; exact ev_dt h (ev_some.2 rfl)
  · rw [if_neg h]
    by_cases h2 : a > b
    · rw [if_pos h2]; exact ev_df h (ev_dt h2 (ev_some.2 rfl))
    · rw [if_neg h2]; exact ev_df h (ev_df h2 (ev_some.2 rfl))
theorem cL_len (x y : List Term) (h : x = [] ∨ y = []) : cL x y = if (x.length : Int) < (y.length : Int) then -1 else if (x.length : Int) > (y.length : Int) then 1 else 0 := by
  rcases h with rfl | rfl
  · cases y with
    | nil => rw [cL_nn]; simp
    | cons b y => rw [cL_nc, if_pos (by simp <;> omega)]
  · cases x with
    | nil => rw [cL_nn]; simp
    | cons b y => rw [cL_cn, if_neg (by simp <;> omega), if_pos (by simp <;> omega)]
theorem compare_ev (x : List Term) : ∀ y, size x ≤ 1000000000 → size y ≤ 1000000000 → Ev (fun k => impl_compare.f k x y) (cL x y) := by
  refine tree_mem (P := fun x => ∀ y, size x ≤ 1000000000 → size y ≤ 1000000000 → Ev (fun k => impl_compare.f k x y) (cL x y)) (fun x ih y hx hy => ?_) x
  have lx := size_len x
  have ly := size_len y
  have loop : ∀ d i : Nat, i + d = min x.length y.length → Ev (fun k => impl_compare.l0 k x y (i : Int)) (cL (x.drop i) (y.drop i)) := by
    intro d
    induction d with
    | zero =>
      intro i hi
      have e : cL (x.drop i) (y.drop i) = if (x.length : Int) < (y.length : Int) then -1 else if (x.length : Int) > (y.length : Int) then 1 else 0 := by
        rw [cL_len _ _ (by
          rcases Nat.lt_or_ge i x.length with h | h
          · exact .inr (List.drop_eq_nil_of_le (by omega))
          · exact .inl (List.drop_eq_nil_of_le (by omega))), List.length_drop, List.length_drop]
        congr 1
        · simp only [eq_iff_iff]; omega
        · congr 1; simp only [eq_iff_iff]; omega
      rw [e]
      refine ev_succ (fun k => impl_compare.l0_eq k _ _ _) ?_
      by_cases h : (i : Int) < (x.length : Int)
      · exact ev_dt h (ev_df (by omega) (ev_bind (cmp_ev _ _) (ev_some.2 rfl)))
      · exact ev_df h (ev_bind (cmp_ev _ _) (ev_some.2 rfl))
    | succ d ihd =>
      intro i hi
      have h1 : i < x.length := by omega
      have h2 : i < y.length := by omega
      rw [List.drop_eq_getElem_cons h1, List.drop_eq_getElem_cons h2, cL_cc, cT_eq]
      have s1 := size_mem (List.getElem_mem h1)
      have s2 := size_mem (List.getElem_mem h2)
      refine ev_succ (fun k => impl_compare.l0_eq k _ _ _) (ev_dt (by first | omega | (simp only [List.length_append, List.length_cons, List.length_nil, List.length_map, List.length_take, List.length_drop, limE]; omega) | (simp [limE] <;> omega)) (ev_dt (by first | omega | (simp only [List.length_append, List.length_cons, List.length_nil, List.length_map, List.length_take, List.length_drop, limE]; omega) | (simp [limE] <;> omega)) (ev_gd (by first | omega | (simp only [List.length_append, List.length_cons, List.length_nil, List.length_map, List.length_take, List.length_drop, limE]; omega) | (simp [limE] <;> omega)) (ev_gd (by first | omega | (simp only [List.length_append, List.length_cons, List.length_nil, List.length_map, List.length_take, List.length_drop, limE]; omega) | (simp [limE] <;> omega)) ?_))))
      rw [get_at h1, get_at h2, w_succ (by omega)]
      refine ev_bind (ih _ (List.getElem_mem h1) _ (by omega) (by omega)) ?_
      by_cases hc : cL x[i].f1 y[i].f1 = 0
      · rw [if_pos hc]
        refine ev_nf (decide_eq_true hc) (ev_gd (by first | omega | (simp only [List.length_append, List.length_cons, List.length_nil, List.length_map, List.length_take, List.length_drop, limE]; omega) | (simp [limE] <;> omega)) (ev_gd (by first | omega | (simp only [List.length_append, List.length_cons, List.length_nil, List.length_map, List.length_take, List.length_drop, limE]; omega) | (simp [limE] <;> omega)) (ev_bind (cmp_ev _ _) ?_)))
        by_cases ht : (if x[i].f0 < y[i].f0 then (-1 : Int) else if x[i].f0 > y[i].f0 then 1 else 0) = 0
        · rw [if_pos ht]; exact ev_nf (decide_eq_true ht) (ihd (i + 1) (by omega))
        · rw [if_neg ht]; exact ev_nt (decide_eq_false ht) (ev_some.2 rfl)
      · rw [if_neg hc, if_neg hc]
        exact ev_nt (decide_eq_false hc) (ev_some.2 rfl)
  exact ev_succ (fun k => impl_compare.f_eq k _ _) (loop (min x.length y.length) 0 (by omega))
theorem fL_drop {x : List Term} {i : Nat} (h : i < x.length) : fL (x.drop i) = x[i].f0 :: (row x[i].f1 ++ fL (x.drop (i + 1))) := by
  rw [List.drop_eq_getElem_cons h, fL_cons]
theorem fL_len (x : List Term) (i : Nat) : (fL (x.drop i)).length ≤ (fL x).length := by
  have := fL_app (x.take i) (x.drop i)
  rw [List.take_append_drop] at this
  rw [this, List.length_append]
  omega
theorem rowOf_ev (x : List Term) : size x ≤ 1000000000 → Ev (fun k => impl_rowOf.f k x) (row x) := by
  refine tree_mem (P := fun x => size x ≤ 1000000000 → Ev (fun k => impl_rowOf.f k x) (row x)) (fun x ih hx => ?_) x
  have lx := size_len x
  have sx := size_eq x
  have loop : ∀ (d i : Nat) (acc : List Int), i + d = x.length → acc.length + (fL (x.drop i)).length ≤ 1000000000 → Ev (fun k => impl_rowOf.l0 k acc x (x.length : Int) (i : Int)) (acc ++ fL (x.drop i)) := by
    intro d
    induction d with
    | zero =>
      intro i acc hi ha
      refine ev_succ (fun k => impl_rowOf.l0_eq k _ _ _ _) (ev_df (by first | omega | (simp only [List.length_append, List.length_cons, List.length_nil, List.length_map, List.length_take, List.length_drop, limE]; omega) | (simp [limE] <;> omega)) (ev_some.2 ?_))
      rw [List.drop_eq_nil_of_le (by omega), fL_nil, List.append_nil]
    | succ d ihd =>
      intro i acc hi ha
      have h1 : i < x.length := by omega
      have s1 := size_mem (List.getElem_mem h1)
      rw [fL_drop h1] at ha ⊢
      simp only [List.length_cons, List.length_append] at ha
      refine ev_succ (fun k => impl_rowOf.l0_eq k _ _ _ _) (ev_dt (by first | omega | (simp only [List.length_append, List.length_cons, List.length_nil, List.length_map, List.length_take, List.length_drop, limE]; omega) | (simp [limE] <;> omega)) (ev_gd (by first | omega | (simp only [List.length_append, List.length_cons, List.length_nil, List.length_map, List.length_take, List.length_drop, limE]; omega) | (simp [limE] <;> omega)) (ev_gd (by first | omega | (simp only [List.length_append, List.length_cons, List.length_nil, List.length_map, List.length_take, List.length_drop, limE]; omega) | (simp [limE] <;> omega)) ?_)))
      rw [get_at h1, w_succ (by omega)]
      refine ev_bind (ih _ (List.getElem_mem h1) (by omega)) (ev_gd (by first | omega | (simp only [List.length_append, List.length_cons, List.length_nil, List.length_map, List.length_take, List.length_drop, limE]; omega) | (simp [limE] <;> omega)) ?_)
      have := ihd (i + 1) ((acc ++ [x[i].f0]) ++ row x[i].f1) (by omega) (by simp only [List.length_append, List.length_cons, List.length_nil]; omega)
      simpa using this
  refine ev_succ (fun k => impl_rowOf.f_eq k _) ?_
  have := loop x.length 0 [(x.length : Int)] (by omega) (by simp only [List.length_cons, List.length_nil, List.drop_zero]; omega)
  simpa [row] using this
theorem sizeOf_ev (x : List Term) : size x ≤ 1000000000 → Ev (fun k => impl_sizeOf.f k x) (size x : Int) := by
  refine tree_mem (P := fun x => size x ≤ 1000000000 → Ev (fun k => impl_sizeOf.f k x) (size x : Int)) (fun x ih hx => ?_) x
  have lx := size_len x
  have sx := size_eq x
  have loop : ∀ (d i : Nat) (acc : Int), i + d = x.length → 0 ≤ acc → acc + (fL (x.drop i)).length ≤ 1000000000 → Ev (fun k => impl_sizeOf.l0 k acc x (x.length : Int) (i : Int)) (acc + ((fL (x.drop i)).length : Int)) := by
    intro d
    induction d with
    | zero =>
      intro i acc hi h0 ha
      refine ev_succ (fun k => impl_sizeOf.l0_eq k _ _ _ _) (ev_df (by first | omega | (simp only [List.length_append, List.length_cons, List.length_nil, List.length_map, List.length_take, List.length_drop, limE]; omega) | (simp [limE] <;> omega)) (ev_some.2 ?_))
      rw [List.drop_eq_nil_of_le (by omega), fL_nil]; simp
    | succ d ihd =>
      intro i acc hi h0 ha
      have h1 : i < x.length := by omega
      have s1 := size_mem (List.getElem_mem h1)
      rw [fL_drop h1] at ha ⊢
      simp only [List.length_cons, List.length_append] at ha ⊢
      have hr : (row x[i].f1).length = size x[i].f1 := rfl
      refine ev_succ (fun k => impl_sizeOf.l0_eq k _ _ _ _) (ev_dt (by first | omega | (simp only [List.length_append, List.length_cons, List.length_nil, List.length_map, List.length_take, List.length_drop, limE]; omega) | (simp [limE] <;> omega)) (ev_gd (by first | omega | (simp only [List.length_append, List.length_cons, List.length_nil, List.length_map, List.length_take, List.length_drop, limE]; omega) | (simp [limE] <;> omega)) ?_))
      rw [get_at h1, w_succ (by omega)]
      refine ev_bind (ih _ (List.getElem_mem h1) (by omega)) ?_
      rw [w64 (x := 1 + (size x[i].f1 : Int)) (by omega) (by omega), w64 (by omega) (by omega)]
      have := ihd (i + 1) (acc + (1 + (size x[i].f1 : Int))) (by omega) (by omega) (by omega)
      rw [show acc + (((row x[i].f1).length + (fL (x.drop (i + 1))).length + 1 : Nat) : Int) = acc + (1 + (size x[i].f1 : Int)) + ((fL (x.drop (i + 1))).length : Int) by omega]
      exact this
  refine ev_succ (fun k => impl_sizeOf.f_eq k _) ?_
  have := loop x.length 0 1 (by omega) (by omega) (by simp only [List.drop_zero]; omega)
  rw [List.drop_zero, show (1 : Int) + ((fL x).length : Int) = (size x : Int) by omega] at this
  exact this
theorem most_ev (x : List Term) : size x ≤ 1000000000 → Ev (fun k => impl_most.f k x) (mL x) := by
  refine tree_mem (P := fun x => size x ≤ 1000000000 → Ev (fun k => impl_most.f k x) (mL x)) (fun x ih hx => ?_) x
  have lx := size_len x
  have loop : ∀ (d i : Nat) (acc : Int), i + d = x.length → 0 ≤ acc → Ev (fun k => impl_most.l0 k acc x (x.length : Int) (i : Int)) (max acc (mL (x.drop i))) := by
    intro d
    induction d with
    | zero =>
      intro i acc hi h0
      refine ev_succ (fun k => impl_most.l0_eq k _ _ _ _) (ev_df (by first | omega | (simp only [List.length_append, List.length_cons, List.length_nil, List.length_map, List.length_take, List.length_drop, limE]; omega) | (simp [limE] <;> omega)) (ev_some.2 ?_))
      rw [List.drop_eq_nil_of_le (by omega), mL_nil]; omega
    | succ d ihd =>
      intro i acc hi h0
      have h1 : i < x.length := by omega
      have s1 := size_mem (List.getElem_mem h1)
      rw [List.drop_eq_getElem_cons h1, mL_cons]
      refine ev_succ (fun k => impl_most.l0_eq k _ _ _ _) (ev_dt (by first | omega | (simp only [List.length_append, List.length_cons, List.length_nil, List.length_map, List.length_take, List.length_drop, limE]; omega) | (simp [limE] <;> omega)) (ev_gd (by first | omega | (simp only [List.length_append, List.length_cons, List.length_nil, List.length_map, List.length_take, List.length_drop, limE]; omega) | (simp [limE] <;> omega)) ?_))
      rw [get_at h1, w_succ (by omega)]
      refine ev_bind (ih _ (List.getElem_mem h1) (by omega)) ?_
      have := ihd (i + 1) (max (max acc x[i].f0) (mL x[i].f1)) (by omega) (by omega)
      rw [show max acc (max (max x[i].f0 (mL x[i].f1)) (mL (x.drop (i + 1)))) = max (max (max acc x[i].f0) (mL x[i].f1)) (mL (x.drop (i + 1))) by omega]
      exact this
  refine ev_succ (fun k => impl_most.f_eq k _) ?_
  have := loop x.length 0 0 (by omega) (by omega)
  have hp := mL_pos x
  rw [List.drop_zero, show max 0 (mL x) = mL x by omega] at this
  exact this
theorem clipI_ev (l : List Int) : Ev (fun k => slices_Clip_int_int.f k l) l :=
  ev_succ (fun k => slices_Clip_int_int.f_eq k l) (ev_gd (by first | omega | (simp only [List.length_append, List.length_cons, List.length_nil, List.length_map, List.length_take, List.length_drop, limE]; omega) | (simp [limE] <;> omega)) (ev_some.2 (by rw [Int.toNat_natCast, List.take_length])))
theorem told_ev (x : List Term) (hx : size x ≤ 1000000000) : Ev (fun k => impl_told.f k x) (if mL x ≤ 9999 ∧ size x ≤ 60 then (row x, true) else ([], false)) := by
  refine ev_succ (fun k => impl_told.f_eq k _) (ev_bind (sizeOf_ev x hx) ?_)
  by_cases h : (size x : Int) > 60
  · rw [if_neg (by omega)]; exact ev_dt h (ev_some.2 rfl)
  · refine ev_df h (ev_bind (most_ev x hx) ?_)
    by_cases h2 : mL x > 9999
    · rw [if_neg (by omega)]; exact ev_dt h2 (ev_some.2 rfl)
    · rw [if_pos (by omega)]; exact ev_df h2 (ev_bind (rowOf_ev x hx) (ev_bind (clipI_ev _) (ev_some.2 rfl)))
/-! Taken off rows. -/
def toR (acc : List Term) : Option (List Term × List Int) → List Term × List Int × Bool
  | some (x, r) => (acc ++ x, r, true)
  | none => ([], [], false)
theorem tO1_len {l : List Int} {x : List Term} {r : List Int} (h : tO1 l = some (x, r)) : r.length < l.length ∧ size x ≤ l.length ∧ r = l.drop (l.length - r.length) := by
  have h1 := (tO1_sound h).1
  have h2 := congrArg List.length h1
  rw [List.length_append] at h2
  have h3 : (row x).length = size x := rfl
  have h4 := size_pos x
  refine ⟨by omega, by omega, ?_⟩
  have : l.length - r.length = (row x).length := by omega
  rw [this, h1, List.drop_left]
theorem takeOrd_ev : ∀ (N : Nat) (l : List Int), l.length ≤ N → N ≤ 1000000 → Ev (fun k => impl_takeOrd.f k l) (toR [] (tO1 l)) := by
  intro N
  induction N with
  | zero =>
    intro l hl _
    obtain rfl : l = [] := List.eq_nil_of_length_eq_zero (by omega)
    exact ev_succ (fun k => impl_takeOrd.f_eq k _) (ev_dt (by simp) (ev_some.2 rfl))
  | succ N ih =>
    intro l hl hN
    have ih := fun l hl => ih l hl (by omega)
    have loop : ∀ (d i : Nat) (l : List Int) (acc : List Term), l.length ≤ N → i + d ≤ 60 → acc.length = i → (∀ t ∈ acc, size t.f1 ≤ 1000000) → Ev (fun k => impl_takeOrd.l0 k l acc ((i + d : Nat) : Int) (i : Int)) (toR acc (tO l.length d (acc.getLast?.map (·.f1)) l)) := by
      intro d
      induction d with
      | zero =>
        intro i l acc hl hi ha hs
        refine ev_succ (fun k => impl_takeOrd.l0_eq k _ _ _ _) (ev_df (by first | omega | (simp only [List.length_append, List.length_cons, List.length_nil, List.length_map, List.length_take, List.length_drop, limE]; omega) | (simp [limE] <;> omega)) (ev_some.2 ?_))
        simp [tO, toR]
      | succ d ihd =>
        intro i l acc hl hi ha hs
        refine ev_succ (fun k => impl_takeOrd.l0_eq k _ _ _ _) (ev_dt (by first | omega | (simp only [List.length_append, List.length_cons, List.length_nil, List.length_map, List.length_take, List.length_drop, limE]; omega) | (simp [limE] <;> omega)) ?_)
        cases l with
        | nil => exact ev_dt (by simp) (ev_some.2 (by simp [tO, toR]))
        | cons c l =>
          simp only [List.length_cons] at hl
          have hlim : ((c :: l).length : Int) = (l.length : Int) + 1 := by simp
          have hc : (c :: l).getD (0 : Int).toNat 0 = c := rfl
          have hd : ((c :: l).take ((c :: l).length : Int).toNat).drop (1 : Int).toNat = l := by
            rw [Int.toNat_natCast, List.take_length]; rfl
          have hT := tO_step (f := l.length) (n := d) (p := acc.getLast?.map (·.f1)) (c := c) (l := l) (Nat.le_refl _)
          rw [show tO (c :: l).length (d + 1) (acc.getLast?.map (·.f1)) (c :: l) = _ from hT]
          refine ev_df (by rw [hlim]; omega) (ev_gd (by rw [hlim]; omega) ?_)
          rw [hc, hd]
          by_cases h1 : c < 1
          · rw [if_pos (.inl h1)]; exact ev_dt h1 (ev_some.2 rfl)
          refine ev_df h1 (ev_gd (by rw [hlim]; omega) ?_)
          by_cases h2 : c > 9999
          · rw [if_pos (.inr h2)]; exact ev_dt h2 (ev_some.2 rfl)
          rw [if_neg (by omega)]
          refine ev_df h2 (ev_gd (by rw [hlim]; omega) (ev_bind (ih l (by omega)) ?_))
          cases ht : tO1 l with
          | none => exact ev_nt rfl (ev_some.2 rfl)
          | some q =>
            obtain ⟨e, r⟩ := q
            have hr := tO1_len ht
            simp only [toR, List.nil_append]
            have next : pv (acc.getLast?.map (·.f1)) e = false → Ev (fun k => impl_takeOrd.l0 k r (acc ++ [(⟨c, e⟩ : Term)]) ((i + (d + 1) : Nat) : Int) (wr ((i : Int) + 1))) (toR acc (if pv (acc.getLast?.map (·.f1)) e = true then none else match tO r.length d (some e) r with | none => none | some (x, r') => some (⟨c, e⟩ :: x, r'))) := by
              intro hp
              rw [hp, if_neg (by simp), w_succ (by omega)]
              have := ihd (i + 1) r (acc ++ [⟨c, e⟩]) (by omega) (by omega) (by simp [ha]) (fun t ht => by
                rcases List.mem_append.1 ht with ht | ht
                · exact hs t ht
                · rw [List.mem_singleton.1 ht]; show size e ≤ 1000000; omega)
              rw [show i + 1 + d = i + (d + 1) by omega, List.getLast?_append] at this
              simp only [List.getLast?_singleton, Option.some_or, Option.map_some] at this
              revert this
              cases tO r.length d (some e) r with
              | none => exact id
              | some q => intro this; simpa [toR] using this
            refine ev_nf rfl ?_
            by_cases h3 : (i : Int) > 0
            · have hne : acc ≠ [] := fun h => by rw [h] at ha; simp at ha; omega
              obtain ⟨l', s, rfl⟩ : ∃ l' s, acc = l' ++ [s] := by
                rcases List.eq_nil_or_concat acc with h | ⟨l', t, h⟩
                · exact absurd h hne
                · exact ⟨l', t, by rw [h, List.concat_eq_append]⟩
              rw [List.length_append, List.length_singleton] at ha
              have hw : wr ((i : Int) - 1) = (l'.length : Int) := by rw [w64 (by omega) (by omega)]; omega
              have hg : (l' ++ [s]).getD (l'.length : Int).toNat (⟨0, ([] : List Term)⟩ : Term) = s := by
                rw [get_at (by simp)]; simp
              refine ev_dt h3 (ev_gd (by rw [hw, List.length_append, List.length_singleton]; omega) ?_)
              rw [hw, hg]
              have hss := hs s (by simp)
              refine ev_bind (compare_ev e s.f1 (by omega) (by omega)) ?_
              have hpe : pv ((l' ++ [s]).getLast?.map (·.f1)) e = decide (cL e s.f1 ≥ 0) := by simp [pv]
              by_cases h4 : cL e s.f1 ≥ 0
              · refine ev_dt h4 (ev_some.2 ?_)
                rw [hpe, decide_eq_true h4]
                rfl
              · refine ev_df h4 (ev_gd (by rw [hlim]; omega) (ev_gd (by simp [limE]; omega) ?_))
                exact next (by rw [hpe, decide_eq_false h4])
            · obtain rfl : acc = [] := List.eq_nil_of_length_eq_zero (by omega)
              refine ev_df h3 (ev_gd (by rw [hlim]; omega) (ev_gd (by simp [limE]) ?_))
              exact next rfl
    refine ev_succ (fun k => impl_takeOrd.f_eq k _) ?_
    cases l with
    | nil => exact ev_dt (by simp) (ev_some.2 rfl)
    | cons m l =>
      have hlim : ((m :: l).length : Int) = (l.length : Int) + 1 := by simp
      have hc : (m :: l).getD (0 : Int).toNat 0 = m := rfl
      have hd : ((m :: l).take ((m :: l).length : Int).toNat).drop (1 : Int).toNat = l := by
        rw [Int.toNat_natCast, List.take_length]; rfl
      refine ev_df (by rw [hlim]; omega) (ev_gd (by rw [hlim]; omega) (ev_gd (by rw [hlim]; omega) ?_))
      rw [hc, hd]
      simp only [tO1]
      by_cases h1 : m < 0
      · rw [if_pos (.inl h1)]; exact ev_dt h1 (ev_some.2 rfl)
      refine ev_df h1 ?_
      by_cases h2 : m > 60
      · rw [if_pos (.inr h2)]; exact ev_dt h2 (ev_some.2 rfl)
      rw [if_neg (by omega)]
      refine ev_df h2 ?_
      have := loop m.toNat 0 l [] (by simp at hl; omega) (by omega) rfl (by intro t ht; cases ht)
      rw [show ((0 + m.toNat : Nat) : Int) = m by omega] at this
      exact this
/-- What a row gives: the tree of a valid row, or that it is not valid. -/
theorem ordOf_ev (l : List Int) : EvP (fun k => impl_ordOf.f k l) (fun x => x.2 = OV l ∧ (OV l = true → l = row x.1 ∧ Fit x.1)) := by
  refine evp_succ (fun k => impl_ordOf.f_eq k l) ?_
  by_cases h1 : (l.length : Int) < 1
  · have : OV l = false := by unfold OV; rw [decide_eq_false (by omega), Bool.false_and]
    refine evp_d (fun _ => evp_some ⟨this.symm, fun h => by rw [this] at h; cases h⟩) (fun h => absurd h1 h)
  refine evp_d (fun h => absurd h h1) (fun _ => ?_)
  by_cases h2 : (l.length : Int) > 60
  · have : OV l = false := by unfold OV; rw [decide_eq_false (by omega), Bool.false_and]
    refine evp_d (fun _ => evp_some ⟨this.symm, fun h => by rw [this] at h; cases h⟩) (fun h => absurd h2 h)
  refine evp_d (fun h => absurd h h2) (fun _ => evp_bindv (takeOrd_ev l.length l (Nat.le_refl _) (by omega)) ?_)
  have hd : decide (1 ≤ l.length ∧ l.length ≤ 60) = true := decide_eq_true ⟨by omega, by omega⟩
  cases ht : tO1 l with
  | none =>
    have : OV l = false := by unfold OV; rw [ht, Bool.and_false]
    exact evp_some ⟨this.symm, fun h => by rw [this] at h; cases h⟩
  | some q =>
    obtain ⟨x, r⟩ := q
    have hov : OV l = r.isEmpty := by unfold OV; rw [ht, hd, Bool.true_and]
    refine evp_some ⟨?_, fun h => ?_⟩
    · rw [hov]
      cases r with
      | nil => rfl
      | cons a r => exact decide_eq_false (by show ¬ (((a :: r).length : Nat) : Int) = 0; simp <;> omega)
    · rw [hov] at h
      obtain rfl : r = [] := List.isEmpty_iff.1 h
      obtain ⟨a1, a2, a3⟩ := tO1_sound ht
      rw [List.append_nil] at a1
      exact ⟨a1, a2, a3, by show (row x).length ≤ 60; rw [← a1]; omega⟩
/-! What the reference makes of rows. -/
theorem drop_at {α : Type} {l : List α} {i : Nat} {x : α} {r : List α} (h : l.drop i = x :: r) : i < l.length ∧ l.drop (i + 1) = r ∧ ∀ h : i < l.length, l[i] = x := by
  have hlt : i < l.length := by
    apply Classical.byContradiction
    intro hc
    rw [List.drop_eq_nil_of_le (by omega)] at h
    cases h
  have e := List.drop_eq_getElem_cons hlt
  rw [h] at e
  injection e with e1 e2
  exact ⟨hlt, e2.symm, fun _ => e1.symm⟩
theorem drop_more {α : Type} {l : List α} {i : Nat} {x r : List α} (h : l.drop i = x ++ r) : l.drop (i + x.length) = r := by
  rw [← List.drop_drop, h, List.drop_left]
theorem drop_fits {α : Type} {l : List α} {i : Nat} {x r : List α} (h : l.drop i = x ++ r) (hx : 0 < x.length) : i + x.length ≤ l.length := by
  have := congrArg List.length h
  rw [List.length_drop, List.length_append] at this
  omega
theorem slice_at {α : Type} {l : List α} {i : Nat} {x r : List α} (h : l.drop i = x ++ r) : (l.take (i + x.length)).drop i = x := by
  rw [List.drop_take, h, show i + x.length - i = x.length by omega, List.take_left]
theorem row_len (x : List Term) : (row x).length = size x := rfl
theorem span_ev (x : List Term) : ∀ (r rest : List Int) (a : Nat), r.length ≤ 1000000000 → r.drop a = row x ++ rest → Ev (fun k => spec_l1Span.f k r (a : Int)) ((a + size x : Nat) : Int) := by
  refine tree_mem (P := fun x => ∀ (r rest : List Int) (a : Nat), r.length ≤ 1000000000 → r.drop a = row x ++ rest → Ev (fun k => spec_l1Span.f k r (a : Int)) ((a + size x : Nat) : Int)) (fun x ih r rest a hr hd => ?_) x
  have sx := size_eq x
  have lx := size_len x
  have hfx := drop_fits hd (by rw [row_len]; omega)
  rw [row_len] at hfx
  rw [row, List.cons_append] at hd
  obtain ⟨h1, h2, h3⟩ := drop_at hd
  have loop : ∀ d i b : Nat, i + d = x.length → r.drop b = fL (x.drop i) ++ rest → b ≤ r.length → Ev (fun k => spec_l1Span.l0 k r (b : Int) (x.length : Int) (i : Int)) ((b + (fL (x.drop i)).length : Nat) : Int) := by
    intro d
    induction d with
    | zero =>
      intro i b hi hb hbl
      refine ev_succ (fun k => spec_l1Span.l0_eq k _ _ _ _) (ev_df (by first | omega | (simp only [List.length_append, List.length_cons, List.length_nil, List.length_map, List.length_take, List.length_drop, limE]; omega) | (simp [limE] <;> omega)) (ev_some.2 ?_))
      rw [List.drop_eq_nil_of_le (by omega), fL_nil]; simp
    | succ d ihd =>
      intro i b hi hb hbl
      have hlt : i < x.length := by omega
      rw [fL_drop hlt] at hb ⊢
      rw [List.cons_append, List.append_assoc] at hb
      obtain ⟨b1, b2, b3⟩ := drop_at hb
      have hp := size_pos x[i].f1
      have hf := drop_fits b2 (by rw [row_len]; omega)
      rw [row_len] at hf
      refine ev_succ (fun k => spec_l1Span.l0_eq k _ _ _ _) (ev_dt (by first | omega | (simp only [List.length_append, List.length_cons, List.length_nil, List.length_map, List.length_take, List.length_drop, limE]; omega) | (simp [limE] <;> omega)) ?_)
      rw [w_succ (by omega), w_succ (by omega)]
      refine ev_bind (ih _ (List.getElem_mem hlt) r _ (b + 1) hr b2) ?_
      have := ihd (i + 1) (b + 1 + size x[i].f1) (by omega) (by have := drop_more b2; rw [row_len] at this; exact this) hf
      simp only [List.length_cons, List.length_append, row_len]
      rw [show b + (size x[i].f1 + (fL (x.drop (i + 1))).length + 1) = b + 1 + size x[i].f1 + (fL (x.drop (i + 1))).length by omega]
      exact this
  have := loop x.length 0 (a + 1) (by omega) (by rw [List.drop_zero]; exact h2) (by omega)
  refine ev_succ (fun k => spec_l1Span.f_eq k _ _) (ev_gd (by first | omega | (simp only [List.length_append, List.length_cons, List.length_nil, List.length_map, List.length_take, List.length_drop, limE]; omega) | (simp [limE] <;> omega)) ?_)
  rw [get_at h1, h3 h1, w_succ (by omega), sx, show a + (1 + (fL x).length) = a + 1 + (fL x).length by omega]
  rw [List.drop_zero] at this
  exact this
theorem terms_ev (x : List Term) (hx : size x ≤ 1000000000) : Ev (fun k => spec_l1Terms.f k (row x)) (x.map (·.f0), x.map fun t => row t.f1) := by
  have lx := size_len x
  have loop : ∀ (d i b : Nat) (p : List Int) (q : List (List Int)), i + d = x.length → (row x).drop b = fL (x.drop i) → b ≤ size x → p.length = i → q.length = i →
      Ev (fun k => spec_l1Terms.l0 k (row x) p q (b : Int)) (p ++ (x.drop i).map (·.f0), q ++ (x.drop i).map fun t => row t.f1) := by
    intro d
    induction d with
    | zero =>
      intro i b p q hi hb hbl hp hq
      have hbb : size x ≤ b := by
        have := congrArg List.length hb
        rw [List.length_drop, List.drop_eq_nil_of_le (by omega), fL_nil, row_len] at this
        simp at this
        omega
      refine ev_succ (fun k => spec_l1Terms.l0_eq k _ _ _ _) (ev_df (by rw [row_len]; omega) (ev_some.2 ?_))
      rw [List.drop_eq_nil_of_le (by omega)]; simp
    | succ d ihd =>
      intro i b p q hi hb hbl hp hq
      have hlt : i < x.length := by omega
      rw [fL_drop hlt] at hb
      obtain ⟨b1, b2, b3⟩ := drop_at hb
      have hp1 := size_pos x[i].f1
      have hf := drop_fits b2 (by rw [row_len]; omega)
      rw [row_len, row_len] at hf
      have b1' := b1
      rw [row_len] at b1'
      refine ev_succ (fun k => spec_l1Terms.l0_eq k _ _ _ _) (ev_dt (by omega) ?_)
      rw [w_succ (by omega)]
      refine ev_bind (span_ev _ (row x) _ (b + 1) (by rw [row_len]; omega) b2) (ev_gd (by omega) (ev_gd (by first | omega | (simp only [List.length_append, List.length_cons, List.length_nil, List.length_map, List.length_take, List.length_drop, limE]; omega) | (simp [limE] <;> omega)) (ev_gd (by rw [row_len]; omega) (ev_gd (by first | omega | (simp only [List.length_append, List.length_cons, List.length_nil, List.length_map, List.length_take, List.length_drop, limE]; omega) | (simp [limE] <;> omega)) ?_))))
      have hsl := slice_at b2
      rw [row_len] at hsl
      rw [get_at b1, b3 b1, Int.toNat_natCast, Int.toNat_natCast, hsl]
      have := ihd (i + 1) (b + 1 + size x[i].f1) (p ++ [x[i].f0]) (q ++ [row x[i].f1]) (by omega) (by have := drop_more b2; rw [row_len] at this; exact this) (by omega) (by simp [hp]) (by simp [hq])
      rw [List.drop_eq_getElem_cons hlt]
      simp only [List.append_assoc, List.cons_append, List.nil_append] at this
      exact this
  refine ev_succ (fun k => spec_l1Terms.f_eq k _) ?_
  have := loop x.length 0 1 [] [] (by omega) rfl (size_pos x) rfl rfl
  simpa using this
theorem make_ev (x : List Term) (hx : size x ≤ 1000000000) : Ev (fun k => spec_l1Make.f k (x.map (·.f0)) (x.map fun t => row t.f1)) (row x) := by
  have lx := size_len x
  have sx := size_eq x
  have loop : ∀ (d i : Nat) (acc : List Int), i + d = x.length → acc.length + (fL (x.drop i)).length ≤ 1000000000 → Ev (fun k => spec_l1Make.l0 k (x.map (·.f0)) (x.map fun t => row t.f1) acc (i : Int)) (acc ++ fL (x.drop i)) := by
    intro d
    induction d with
    | zero =>
      intro i acc hi ha
      refine ev_succ (fun k => spec_l1Make.l0_eq k _ _ _ _) (ev_df (by rw [List.length_map]; omega) (ev_some.2 ?_))
      rw [List.drop_eq_nil_of_le (by omega), fL_nil, List.append_nil]
    | succ d ihd =>
      intro i acc hi ha
      have h1 : i < x.length := by omega
      rw [fL_drop h1] at ha ⊢
      simp only [List.length_cons, List.length_append] at ha
      have g1 : (x.map (·.f0)).getD (i : Int).toNat 0 = x[i].f0 := by rw [get_at (by rw [List.length_map]; exact h1), List.getElem_map]
      have g2 : (x.map fun t => row t.f1).getD (i : Int).toNat [] = row x[i].f1 := by rw [get_at (by rw [List.length_map]; exact h1), List.getElem_map]
      refine ev_succ (fun k => spec_l1Make.l0_eq k _ _ _ _) (ev_dt (by rw [List.length_map]; omega) (ev_gd (by rw [List.length_map]; omega) (ev_gd (by first | omega | (simp only [List.length_append, List.length_cons, List.length_nil, List.length_map, List.length_take, List.length_drop, limE]; omega) | (simp [limE] <;> omega)) (ev_gd (by rw [List.length_map]; omega) ?_))))
      rw [g1, g2, w_succ (by omega)]
      refine ev_gd (by first | omega | (simp only [List.length_append, List.length_cons, List.length_nil, List.length_map, List.length_take, List.length_drop, limE]; omega) | (simp [limE] <;> omega)) ?_
      have := ihd (i + 1) ((acc ++ [x[i].f0]) ++ row x[i].f1) (by omega) (by simp only [List.length_append, List.length_cons, List.length_nil]; omega)
      simpa using this
  refine ev_succ (fun k => spec_l1Make.f_eq k _ _) ?_
  have := loop x.length 0 [((x.map (·.f0)).length : Int)] (by omega) (by simp only [List.length_cons, List.length_nil, List.drop_zero]; omega)
  simpa [row] using this
theorem scompare_ev (x : List Term) : ∀ y, size x ≤ 1000000000 → size y ≤ 1000000000 → Ev (fun k => spec_l1Compare.f k (row x) (row y)) (cL x y) := by
  refine tree_mem (P := fun x => ∀ y, size x ≤ 1000000000 → size y ≤ 1000000000 → Ev (fun k => spec_l1Compare.f k (row x) (row y)) (cL x y)) (fun x ih y hx hy => ?_) x
  have lx := size_len x
  have ly := size_len y
  have loop : ∀ d i : Nat, i + d = min x.length y.length → Ev (fun k => spec_l1Compare.l0 k (x.map (·.f0)) (x.map fun t => row t.f1) (y.map (·.f0)) (y.map fun t => row t.f1) (i : Int)) (cL (x.drop i) (y.drop i)) := by
    intro d
    induction d with
    | zero =>
      intro i hi
      have e : cL (x.drop i) (y.drop i) = if (x.length : Int) < (y.length : Int) then -1 else if (x.length : Int) > (y.length : Int) then 1 else 0 := by
        rw [cL_len _ _ (by
          rcases Nat.lt_or_ge i x.length with h | h
          · exact .inr (List.drop_eq_nil_of_le (by omega))
          · exact .inl (List.drop_eq_nil_of_le (by omega))), List.length_drop, List.length_drop]
        congr 1
        · simp only [eq_iff_iff]; omega
        · congr 1; simp only [eq_iff_iff]; omega
      rw [e]
      have fin : Ev (fun k => br (decide (((x.map (·.f0)).length : Int) < ((y.map (·.f0)).length : Int))) (some (-1)) (br (decide (((x.map (·.f0)).length : Int) > ((y.map (·.f0)).length : Int))) (some 1) (some 0))) (if (x.length : Int) < (y.length : Int) then (-1 : Int) else if (x.length : Int) > (y.length : Int) then 1 else 0) := by
        rw [List.length_map, List.length_map]
        by_cases h1 : (x.length : Int) < (y.length : Int)
        · rw [if_pos h1]; exact ev_dt h1 (ev_some.2 rfl)
        · rw [if_neg h1]
          by_cases h2 : (x.length : Int) > (y.length : Int)
          · rw [if_pos h2]; exact ev_df h1 (ev_dt h2 (ev_some.2 rfl))
          · rw [if_neg h2]; exact ev_df h1 (ev_df h2 (ev_some.2 rfl))
      refine ev_succ (fun k => spec_l1Compare.l0_eq k _ _ _ _ _) ?_
      by_cases h : (i : Int) < (x.length : Int)
      · exact ev_dt (by rw [List.length_map]; exact h) (ev_df (by rw [List.length_map]; omega) fin)
      · exact ev_df (by rw [List.length_map]; exact h) fin
    | succ d ihd =>
      intro i hi
      have h1 : i < x.length := by omega
      have h2 : i < y.length := by omega
      rw [List.drop_eq_getElem_cons h1, List.drop_eq_getElem_cons h2, cL_cc, cT_eq]
      have s1 := size_mem (List.getElem_mem h1)
      have s2 := size_mem (List.getElem_mem h2)
      have g1 : (x.map (·.f0)).getD (i : Int).toNat 0 = x[i].f0 := by rw [get_at (by rw [List.length_map]; exact h1), List.getElem_map]
      have g2 : (x.map fun t => row t.f1).getD (i : Int).toNat [] = row x[i].f1 := by rw [get_at (by rw [List.length_map]; exact h1), List.getElem_map]
      have g3 : (y.map (·.f0)).getD (i : Int).toNat 0 = y[i].f0 := by rw [get_at (by rw [List.length_map]; exact h2), List.getElem_map]
      have g4 : (y.map fun t => row t.f1).getD (i : Int).toNat [] = row y[i].f1 := by rw [get_at (by rw [List.length_map]; exact h2), List.getElem_map]
      have l1 : (i : Int) < ((x.map (·.f0)).length : Int) := by rw [List.length_map]; omega
      have l2 : (i : Int) < ((y.map (·.f0)).length : Int) := by rw [List.length_map]; omega
      refine ev_succ (fun k => spec_l1Compare.l0_eq k _ _ _ _ _) (ev_dt l1 (ev_dt l2 (ev_gd (by rw [List.length_map]; omega) (ev_gd (by rw [List.length_map]; omega) ?_))))
      rw [g1, g2, g3, g4, w_succ (by omega)]
      refine ev_bind (ih _ (List.getElem_mem h1) _ (by omega) (by omega)) ?_
      by_cases hc : cL x[i].f1 y[i].f1 = 0
      · rw [if_pos hc]
        refine ev_nf (decide_eq_true hc) (ev_gd ⟨by omega, l1⟩ (ev_gd ⟨by omega, l2⟩ ?_))
        by_cases ht : x[i].f0 = y[i].f0
        · rw [if_neg (show ¬ x[i].f0 < y[i].f0 by omega), if_neg (show ¬ x[i].f0 > y[i].f0 by omega), if_pos rfl]
          exact ev_nf (decide_eq_true ht) (ihd (i + 1) (by omega))
        · refine ev_nt (decide_eq_false ht) (ev_gd ⟨by omega, l1⟩ (ev_gd ⟨by omega, l2⟩ ?_))
          by_cases hlt : x[i].f0 < y[i].f0
          · rw [if_pos hlt, if_neg (show ¬ (-1 : Int) = 0 by omega)]; exact ev_dt hlt (ev_some.2 rfl)
          · rw [if_neg hlt, if_pos (show x[i].f0 > y[i].f0 by omega), if_neg (show ¬ (1 : Int) = 0 by omega)]; exact ev_df hlt (ev_some.2 rfl)
      · rw [if_neg hc, if_neg hc]
        exact ev_nt (decide_eq_false hc) (ev_some.2 rfl)
  exact ev_succ (fun k => spec_l1Compare.f_eq k _ _) (ev_bind (terms_ev x hx) (ev_bind (terms_ev y hy) (loop (min x.length y.length) 0 (by omega))))
/-- Where an ordinal ends. -/
def eR (n : Nat) : Option (List Term × List Int) → Int
  | some (_, r) => (n : Int) - (r.length : Int)
  | none => -1
theorem end_ev (r : List Int) (hr : r.length ≤ 1000000) : ∀ (N a : Nat), r.length ≤ a + N → a ≤ r.length → Ev (fun k => spec_l1End.f k r (a : Int)) (eR r.length (tO1 (r.drop a))) := by
  intro N
  induction N with
  | zero =>
    intro a h1 h2
    refine ev_succ (fun k => spec_l1End.f_eq k _ _) (ev_dt (by omega) (ev_some.2 ?_))
    rw [List.drop_eq_nil_of_le (by omega)]
    rfl
  | succ N ih =>
    intro a h1 h2
    have loop : ∀ (d i b : Nat) (last : List Int) (p : Option (List Term)), r.length ≤ b + N → b ≤ r.length → i + d ≤ 60 → (i = 0 → p = none) → (0 < i → ∃ q, p = some q ∧ last = row q ∧ size q ≤ 1000000) →
        Ev (fun k => spec_l1End.l0 k r (b : Int) ((i + d : Nat) : Int) last (i : Int)) (eR r.length (tO (r.drop b).length d p (r.drop b))) := by
      intro d
      induction d with
      | zero =>
        intro i b last p hb hb2 hi hp0 hp1
        refine ev_succ (fun k => spec_l1End.l0_eq k _ _ _ _ _) (ev_df (by first | omega | (simp only [List.length_append, List.length_cons, List.length_nil, List.length_map, List.length_take, List.length_drop, limE]; omega) | (simp [limE] <;> omega)) (ev_some.2 ?_))
        simp only [tO, eR, List.length_drop]
        omega
      | succ d ihd =>
        intro i b last p hb hb2 hi hp0 hp1
        refine ev_succ (fun k => spec_l1End.l0_eq k _ _ _ _ _) (ev_dt (by first | omega | (simp only [List.length_append, List.length_cons, List.length_nil, List.length_map, List.length_take, List.length_drop, limE]; omega) | (simp [limE] <;> omega)) ?_)
        by_cases hlt : b < r.length
        · have hdr := List.drop_eq_getElem_cons hlt
          have hT := tO_step (f := (r.drop (b + 1)).length) (n := d) (p := p) (c := r[b]) (l := r.drop (b + 1)) (Nat.le_refl _)
          rw [hdr, show tO (r[b] :: r.drop (b + 1)).length (d + 1) p (r[b] :: r.drop (b + 1)) = _ from hT]
          refine ev_df (by omega) (ev_gd (by first | omega | (simp only [List.length_append, List.length_cons, List.length_nil, List.length_map, List.length_take, List.length_drop, limE]; omega) | (simp [limE] <;> omega)) (ev_bind (l1In_ev _ _ _) ?_))
          rw [get_at hlt]
          by_cases hc : r[b] < 1 ∨ r[b] > 9999
          · rw [if_pos hc]
            refine ev_nt ?_ (ev_some.2 rfl)
            rcases hc with hc | hc
            · simp; omega
            · simp; omega
          · rw [if_neg hc, w_succ (by omega)]
            refine ev_nf (by simp <;> omega) (ev_bind (ih (b + 1) (by omega) (by omega)) ?_)
            cases ht : tO1 (r.drop (b + 1)) with
            | none => exact ev_dt (by simp [eR]) (ev_some.2 rfl)
            | some q =>
              obtain ⟨e, r'⟩ := q
              have hl := tO1_len ht
              rw [List.length_drop] at hl
              obtain ⟨g1, g2, g3⟩ := tO1_sound ht
              have hsz : size e + r'.length = r.length - (b + 1) := by
                have := congrArg List.length g1
                rw [List.length_append, row_len, List.length_drop] at this
                omega
              have he : eR r.length (some (e, r')) = ((b + 1 + size e : Nat) : Int) := by simp only [eR]; omega
              have hsl : (r.take (b + 1 + size e)).drop (b + 1) = row e := by
                have := slice_at g1
                rw [row_len] at this
                exact this
              have hrest : r.drop (b + 1 + size e) = r' := by
                have := drop_more g1
                rw [row_len] at this
                exact this
              rw [he]
              refine ev_df (by omega) ?_
              rw [Int.toNat_natCast, Int.toNat_natCast, hsl]
              have next : pv p e = false → Ev (fun k => spec_l1End.l0 k r ((b + 1 + size e : Nat) : Int) ((i + (d + 1) : Nat) : Int) (row e) (wr ((i : Int) + 1))) (eR r.length (if pv p e = true then none else match tO r'.length d (some e) r' with | none => none | some (x, r'') => some (⟨r[b], e⟩ :: x, r''))) := by
                intro hp
                rw [hp, if_neg (by simp), w_succ (by omega)]
                have := ihd (i + 1) (b + 1 + size e) (row e) (some e) (by omega) (by omega) (by omega) (by omega) (fun _ => ⟨e, rfl, rfl, by omega⟩)
                rw [show i + 1 + d = i + (d + 1) by omega, hrest] at this
                revert this
                cases tO r'.length d (some e) r' with
                | none => exact id
                | some q => exact id
              by_cases h3 : (i : Int) > 0
              · obtain ⟨q, rfl, hq, hqs⟩ := hp1 (by omega)
                rw [hq]
                refine ev_dt h3 (ev_gd (by omega) (ev_bind (scompare_ev e q (by omega) (by omega)) ?_))
                by_cases h4 : cL e q ≥ 0
                · refine ev_dt h4 (ev_some.2 ?_)
                  have hpv : pv (some q) e = true := decide_eq_true h4
                  simp only [hpv, if_true, eR]
                · exact ev_df h4 (ev_gd (by omega) (next (decide_eq_false h4)))
              · obtain rfl := hp0 (by omega)
                exact ev_df h3 (ev_gd (by omega) (next rfl))
        · refine ev_dt (by omega) (ev_some.2 ?_)
          rw [List.drop_eq_nil_of_le (by omega)]
          simp [tO, eR]
    refine ev_succ (fun k => spec_l1End.f_eq k _ _) ?_
    by_cases hlt : a < r.length
    · have hdr := List.drop_eq_getElem_cons hlt
      refine ev_df (by omega) (ev_gd (by first | omega | (simp only [List.length_append, List.length_cons, List.length_nil, List.length_map, List.length_take, List.length_drop, limE]; omega) | (simp [limE] <;> omega)) (ev_bind (l1In_ev _ _ _) ?_))
      rw [get_at hlt, hdr]
      simp only [tO1]
      by_cases hc : r[a] < 0 ∨ r[a] > 60
      · rw [if_pos hc]
        refine ev_nt ?_ (ev_some.2 rfl)
        rcases hc with hc | hc
        · simp; omega
        · simp; omega
      · rw [if_neg hc, w_succ (by omega)]
        refine ev_nf (by simp <;> omega) (ev_gd (by first | omega | (simp only [List.length_append, List.length_cons, List.length_nil, List.length_map, List.length_take, List.length_drop, limE]; omega) | (simp [limE] <;> omega)) ?_)
        have := loop r[a].toNat 0 (a + 1) [] none (by omega) (by omega) (by omega) (fun _ => rfl) (fun h => by omega)
        rw [show ((0 + r[a].toNat : Nat) : Int) = r[a] by omega] at this
        exact this
    · refine ev_dt (by omega) (ev_some.2 ?_)
      rw [List.drop_eq_nil_of_le (by omega)]
      rfl
theorem valid_ev (r : List Int) : Ev (fun k => spec_OrdValid.f k r) (OV r) := by
  refine ev_succ (fun k => spec_OrdValid.f_eq k r) (ev_bind (l1In_ev _ _ _) ?_)
  by_cases hl : 1 ≤ r.length ∧ r.length ≤ 60
  · refine ev_bt (by simp <;> omega) (ev_bind (end_ev r (by omega) r.length 0 (by omega) (by omega)) (ev_some.2 ?_))
    unfold OV
    rw [decide_eq_true hl, Bool.true_and, List.drop_zero]
    cases h1 : tO1 r with
    | none => simp only [eR]; exact decide_eq_false (by omega)
    | some p =>
      obtain ⟨hs, r'⟩ := p
      simp only [eR]
      cases r' with
      | nil => simp
      | cons x r' => exact decide_eq_false (by simp only [List.length_cons]; omega)
  · refine ev_bf ?_ (ev_some.2 ?_)
    · simp <;> omega
    · unfold OV; rw [decide_eq_false hl, Bool.false_and]
theorem fit_ev (r : List Int) : Ev (fun k => spec_l2Fit.f k r) (if OV r = true then (r, true) else ([], false)) := by
  refine ev_succ (fun k => spec_l2Fit.f_eq k r) (ev_bind (valid_ev r) ?_)
  cases h : OV r with
  | true => exact ev_nf rfl (ev_some.2 rfl)
  | false => exact ev_nt rfl (ev_some.2 rfl)
/-! Rows and their trees. -/
theorem row_one (x : List Term) : ((row x).length : Int) = 1 ↔ x = [] := by
  rw [row_len]
  cases x with
  | nil => simp [size_nil]
  | cons t x => rw [size_cons]; have := size_pos t.f1; have := size_pos x; simp; omega
theorem map_get {α β : Type} (f : α → β) (x : List α) (i : Nat) (d : β) (h : i < x.length) : (x.map f).getD (i : Int).toNat d = f x[i] := by
  rw [get_at (by rw [List.length_map]; exact h), List.getElem_map]
/-- The tree of a row. -/
def tr (r : List Int) : List Term := match tO1 r with
  | some (x, _) => x
  | none => []
theorem tr_row {x : List Term} (h : Fit x) : tr (row x) = x := by
  have hs := h.s
  have := tO1_complete [] h.v h.m (by omega)
  rw [List.append_nil] at this
  simp only [tr, this]
theorem tr_fit {r : List Int} (h : OV r = true) : r = row (tr r) ∧ Fit (tr r) := by
  obtain ⟨x, h1, h2, h3⟩ := OV_tree h
  have : tr r = x := by rw [h1]; exact tr_row h2
  rw [this]
  exact ⟨h1, h2⟩
theorem ordOf_tr (r : List Int) : EvP (fun k => impl_ordOf.f k r) (fun x => x.2 = OV r ∧ (OV r = true → x.1 = tr r)) :=
  evp_mono (ordOf_ev r) fun x hx => ⟨hx.1, fun h => by
    obtain ⟨h1, h2⟩ := hx.2 h
    rw [h1, tr_row h2]⟩
/-! Natural sums, as the code makes them. -/
theorem co_le {x : List Term} (h : vL x) (e : List Term) : co x e ≤ mL x := by
  induction x with
  | nil => exact mL_pos []
  | cons t x ih =>
    have hx := (vL_cons t x).1 h
    rw [co, mL_cons]
    by_cases hc : cL t.f1 e = 0
    · rw [if_pos hc, co_zero fun u hu he => lt_irrefl t.f1 (by have := hx.2.1 u hu; rwa [he, ← c_eq _ _ hc] at this)]
      omega
    · rw [if_neg hc]
      have := ih hx.2.2
      omega
theorem take_v {x : List Term} (h : vL x) (i : Nat) : vL (x.take i) := by
  rw [← List.take_append_drop i x, vL_app] at h
  exact h.1
theorem take_m (x : List Term) (i : Nat) : mL (x.take i) ≤ mL x := by
  have := mL_app (x.take i) (x.drop i)
  rw [List.take_append_drop] at this
  omega
theorem co_take {x e : List Term} {i : Nat} (h : i < x.length) : co (x.take (i + 1)) e = co (x.take i) e + if cL x[i].f1 e = 0 then x[i].f0 else 0 := by
  rw [← List.take_append_getElem h, co_app]
  simp only [co]
  omega
theorem natural_ev (x y : List Term) : ∀ acc : List Term, size x ≤ 1000000 → size y ≤ 1000000 → vL x → vL y → mL x ≤ 1000000000 → mL y ≤ 1000000000 → acc.length + size x + size y ≤ 100000000 → Ev (fun k => impl_natural.l0 k x y acc) (acc ++ natO x y) := by
  refine nat_ind (P := fun x y => ∀ acc : List Term, size x ≤ 1000000 → size y ≤ 1000000 → vL x → vL y → mL x ≤ 1000000000 → mL y ≤ 1000000000 → acc.length + size x + size y ≤ 100000000 → Ev (fun k => impl_natural.l0 k x y acc) (acc ++ natO x y)) ?_ ?_ ?_ ?_ ?_ x y
  · intro y acc hx hy _ _ _ _ ha
    have ly := size_len y
    rw [nat_nl]
    exact ev_succ (fun k => impl_natural.l0_eq k _ _ _) (ev_df (by simp) (ev_gd (by simp [limE]; omega) (ev_gd (by simp [limE]; omega) (ev_some.2 (by simp)))))
  · intro x acc hx hy _ _ _ _ ha
    have lx := size_len x
    rw [nat_nr]
    refine ev_succ (fun k => impl_natural.l0_eq k _ _ _) ?_
    by_cases h : (x.length : Int) > 0
    · exact ev_dt h (ev_df (by simp) (ev_gd (by simp [limE]; omega) (ev_gd (by simp [limE]; omega) (ev_some.2 (by simp)))))
    · exact ev_df h (ev_gd (by simp [limE]; omega) (ev_gd (by simp [limE]; omega) (ev_some.2 (by simp))))
  all_goals
    intro a x b y h ih acc hx hy vx vy mx my ha
    have lx := size_len (a :: x)
    have ly := size_len (b :: y)
    rw [size_cons] at hx hy
    have vx' := (vL_cons a x).1 vx
    have vy' := (vL_cons b y).1 vy
    rw [mL_cons] at mx my
    have px := size_pos x
    have py := size_pos y
    have sx := size_cons a x
    have sy := size_cons b y
    rw [List.length_cons] at lx ly
    refine ev_succ (fun k => impl_natural.l0_eq k _ _ _) (ev_dt (by simp <;> omega) (ev_dt (by simp <;> omega) (ev_gd (by simp <;> omega) (ev_gd (by simp <;> omega) ?_))))
    have g1 : (a :: x).getD (0 : Int).toNat (⟨0, ([] : List Term)⟩ : Term) = a := rfl
    have g2 : (b :: y).getD (0 : Int).toNat (⟨0, ([] : List Term)⟩ : Term) = b := rfl
    have d1 : ((a :: x).take ((a :: x).length : Int).toNat).drop (1 : Int).toNat = x := by rw [Int.toNat_natCast, List.take_length]; rfl
    have d2 : ((b :: y).take ((b :: y).length : Int).toNat).drop (1 : Int).toNat = y := by rw [Int.toNat_natCast, List.take_length]; rfl
    rw [g1, g2, d1, d2]
    refine ev_bind (compare_ev _ _ (by omega) (by omega)) ?_
  · have hc := c_gt.2 h
    refine ev_dt (by omega) (ev_gd (by simp <;> omega) (ev_gd (by simp [limE]; omega) (ev_gd (by simp <;> omega) ?_)))
    have := ih (acc ++ [a]) (by omega) (by omega) vx'.2.2 vy (by omega) (by rw [mL_cons]; omega) (by simp; omega)
    rw [nat_gt x y h]
    simpa using this
  · have hc := c_lt.2 h
    refine ev_df (by omega) (ev_dt (by omega) (ev_gd (by simp <;> omega) (ev_gd (by simp [limE]; omega) (ev_gd (by simp <;> omega) ?_))))
    have := ih (acc ++ [b]) (by omega) (by omega) vx vy'.2.2 (by rw [mL_cons]; omega) (by omega) (by simp; omega)
    rw [nat_lt x y h]
    simpa using this
  · have hc := c_zero.2 h
    refine ev_df (by omega) (ev_df (by omega) (ev_gd (by simp <;> omega) (ev_gd (by simp <;> omega) (ev_gd (by simp <;> omega) (ev_gd (by simp [limE]; omega) (ev_gd (by simp <;> omega) (ev_gd (by simp <;> omega) ?_)))))))
    rw [w64 (x := a.f0 + b.f0) (by omega) (by omega)]
    have := ih (acc ++ [⟨a.f0 + b.f0, a.f1⟩]) (by omega) (by omega) vx'.2.2 vy'.2.2 (by omega) (by omega) (by simp; omega)
    rw [nat_eq x y h]
    simpa using this
theorem nat_ev (x y : List Term) (hx : size x ≤ 1000000) (hy : size y ≤ 1000000) (vx : vL x) (vy : vL y) (mx : mL x ≤ 1000000000) (my : mL y ≤ 1000000000) : Ev (fun k => impl_natural.f k x y) (natO x y) := by
  have := natural_ev x y [] hx hy vx vy mx my (by simp; omega)
  exact ev_succ (fun k => impl_natural.f_eq k x y) this
/-! Heaps and what they are worth. -/
def vh (m : Int) (l : List Int) : Bool := decide (l.length = 3) && l.all fun n => decide (0 ≤ n) && decide (n ≤ m)
theorem thingsOk_ev (l : List Int) (m : Int) (hl : l.length < 9000000000000000000) : Ev (fun k => impl_thingsOk.f k l m) (vh m l) := by
  have loop : ∀ d i : Nat, i + d = l.length → Ev (fun k => impl_thingsOk.l0 k l m l (l.length : Int) (i : Int)) (decide (l.length = 3) && (l.drop i).all fun n => decide (0 ≤ n) && decide (n ≤ m)) := by
    intro d
    induction d with
    | zero =>
      intro i hi
      refine ev_succ (fun k => impl_thingsOk.l0_eq k _ _ _ _ _) (ev_df (by omega) (ev_some.2 ?_))
      rw [List.drop_eq_nil_of_le (by omega), List.all_nil, Bool.and_true]
      by_cases h : l.length = 3
      · rw [decide_eq_true h]; exact decide_eq_true (by omega)
      · rw [decide_eq_false h]; exact decide_eq_false (by omega)
    | succ d ih =>
      intro i hi
      have hlt : i < l.length := by omega
      refine ev_succ (fun k => impl_thingsOk.l0_eq k _ _ _ _ _) (ev_dt (by omega) (ev_gd (by omega) ?_))
      rw [get_at hlt, w_succ (by omega), List.drop_eq_getElem_cons hlt, List.all_cons]
      by_cases h1 : l[i] < 0
      · rw [decide_eq_false (show ¬ 0 ≤ l[i] by omega)]
        exact ev_dt h1 (ev_some.2 (by simp))
      refine ev_df h1 ?_
      by_cases h2 : l[i] > m
      · rw [decide_eq_false (show ¬ l[i] ≤ m by omega)]
        exact ev_dt h2 (ev_some.2 (by simp))
      refine ev_df h2 ?_
      rw [decide_eq_true (show 0 ≤ l[i] by omega), decide_eq_true (show l[i] ≤ m by omega)]
      exact ih (i + 1) (by omega)
  exact ev_succ (fun k => impl_thingsOk.f_eq k _ _) (loop l.length 0 (by omega))
theorem l8List_ev (l : List Int) (m : Int) (hl : l.length < 9000000000000000000) : Ev (fun k => spec_l8List.f k l m) (vh m l) := by
  have loop : ∀ d i : Nat, i + d = l.length → Ev (fun k => spec_l8List.l0 k l m (i : Int)) (decide (l.length = 3) && (l.drop i).all fun n => decide (0 ≤ n) && decide (n ≤ m)) := by
    intro d
    induction d with
    | zero =>
      intro i hi
      refine ev_succ (fun k => spec_l8List.l0_eq k _ _ _) (ev_df (by omega) (ev_some.2 ?_))
      rw [List.drop_eq_nil_of_le (by omega), List.all_nil, Bool.and_true]
      by_cases h : l.length = 3
      · rw [decide_eq_true h]; exact decide_eq_true (by omega)
      · rw [decide_eq_false h]; exact decide_eq_false (by omega)
    | succ d ih =>
      intro i hi
      have hlt : i < l.length := by omega
      refine ev_succ (fun k => spec_l8List.l0_eq k _ _ _) (ev_dt (by omega) (ev_gd (by omega) ?_))
      rw [get_at hlt, w_succ (by omega), List.drop_eq_getElem_cons hlt, List.all_cons]
      refine ev_bind (l1In_ev _ _ _) ?_
      cases h : (decide (l[i] ≥ 0) && decide (l[i] ≤ m)) with
      | true =>
        have h' : (decide (0 ≤ l[i]) && decide (l[i] ≤ m)) = true := h
        rw [Bool.true_and]
        exact ev_nf rfl (ih (i + 1) (by omega))
      | false =>
        have h' : (decide (0 ≤ l[i]) && decide (l[i] ≤ m)) = false := h
        rw [Bool.false_and, Bool.and_false]
        exact ev_nt rfl (ev_some.2 rfl)
  exact ev_succ (fun k => spec_l8List.f_eq k _ _) (loop l.length 0 (by omega))
theorem vh_len {m : Int} {l : List Int} (h : vh m l = true) : l.length = 3 ∧ ∀ n ∈ l, 0 ≤ n ∧ n ≤ m := by
  unfold vh at h
  simp only [Bool.and_eq_true, decide_eq_true_eq, List.all_eq_true] at h
  exact h
def toldV (z : List Term) : List Int × Bool := if mL z ≤ 9999 ∧ size z ≤ 60 then (row z, true) else ([], false)
/-- So many times the same. -/
def repO : Nat → List Term → List Term → List Term
  | 0, _, s => s
  | m + 1, x, s => repO m x (natO s x)
def hO : List Int → List (List Term) → List Term → List Term
  | n :: hs, x :: xs, s => hO hs xs (repO n.toNat x s)
  | _, _, s => s
theorem repO_v : ∀ (m : Nat) (x s : List Term), vL x → vL s → vL (repO m x s)
  | 0, _, _, _, h => h
  | m + 1, x, s, hx, h => repO_v m x _ hx (nat_v _ _ h hx)
theorem repO_ge : ∀ (m : Nat) (x s : List Term), vL x → vL s → size s ≤ size (repO m x s) ∧ mL s ≤ mL (repO m x s) ∧ size (repO m x s) ≤ size s + m * size x ∧ mL (repO m x s) ≤ mL s + m * mL x
  | 0, x, s, _, _ => by
    show size s ≤ size s ∧ mL s ≤ mL s ∧ size s ≤ size s + 0 * size x ∧ mL s ≤ mL s + ((0 : Nat) : Int) * mL x
    have : ((0 : Nat) : Int) * mL x = 0 := by simp
    omega
  | m + 1, x, s, hx, hs => by
    have h1 := nat_size s x
    have h2 := nat_m s x hs hx
    have h3 := repO_ge m x (natO s x) hx (nat_v _ _ hs hx)
    have e1 : (m + 1) * size x = m * size x + size x := by rw [Nat.add_mul, Nat.one_mul]
    have e2 : ((m + 1 : Nat) : Int) * mL x = (m : Int) * mL x + mL x := by rw [Int.natCast_add, Int.add_mul]; simp
    show size s ≤ size (repO m x (natO s x)) ∧ mL s ≤ mL (repO m x (natO s x)) ∧ size (repO m x (natO s x)) ≤ size s + (m + 1) * size x ∧ mL (repO m x (natO s x)) ≤ mL s + ((m + 1 : Nat) : Int) * mL x
    rw [e1, e2]
    omega
theorem hO_v : ∀ (hs : List Int) (xs : List (List Term)) (s : List Term), (∀ x ∈ xs, vL x) → vL s → vL (hO hs xs s)
  | [], xs, s, _, h => by cases xs <;> exact h
  | n :: hs, [], s, _, h => h
  | n :: hs, x :: xs, s, hx, h => hO_v hs xs _ (fun y hy => hx y (List.mem_cons_of_mem _ hy)) (repO_v _ _ _ (hx x List.mem_cons_self) h)
theorem hO_ge : ∀ (hs : List Int) (xs : List (List Term)) (s : List Term), (∀ x ∈ xs, vL x) → vL s → size s ≤ size (hO hs xs s) ∧ mL s ≤ mL (hO hs xs s)
  | [], xs, s, _, h => by cases xs <;> exact ⟨Nat.le_refl _, Int.le_refl _⟩
  | n :: hs, [], s, _, h => ⟨Nat.le_refl _, Int.le_refl _⟩
  | n :: hs, x :: xs, s, hx, h => by
    have h1 := repO_ge n.toNat x s (hx x List.mem_cons_self) h
    have h2 := hO_ge hs xs (repO n.toNat x s) (fun y hy => hx y (List.mem_cons_of_mem _ hy)) (repO_v _ _ _ (hx x List.mem_cons_self) h)
    show size s ≤ size (hO hs xs (repO n.toNat x s)) ∧ mL s ≤ mL (hO hs xs (repO n.toNat x s))
    omega
theorem repO_co (e : List Term) : ∀ (m : Nat) (x s : List Term), co (repO m x s) e = co s e + m * co x e
  | 0, x, s => by simp [repO]
  | m + 1, x, s => by
    rw [repO, repO_co e m, co_nat, Int.natCast_add, Int.add_mul]
    simp
    omega
def W3 (e : List Term) : List Int → List (List Term) → Int
  | n :: hs, x :: xs => n.toNat * co x e + W3 e hs xs
  | _, _ => 0
theorem hO_co (e : List Term) : ∀ (hs : List Int) (xs : List (List Term)) (s : List Term), co (hO hs xs s) e = co s e + W3 e hs xs
  | [], xs, s => by cases xs <;> simp [hO, W3]
  | n :: hs, [], s => by simp [hO, W3]
  | n :: hs, x :: xs, s => by rw [hO, hO_co e hs xs, repO_co, W3]; omega
theorem W3_more (e : List Term) : ∀ (hs : List Int) (xs : List (List Term)) (k : Nat) (h1 : k < hs.length) (h2 : k < xs.length), 0 ≤ hs[k] → W3 e (hs.set k (hs[k] + 1)) xs = W3 e hs xs + co xs[k] e
  | n :: hs, x :: xs, 0, _, _, h0 => by
    simp only [List.getElem_cons_zero] at h0
    simp only [List.set_cons_zero, List.getElem_cons_zero, W3]
    rw [show (n + 1).toNat = n.toNat + 1 by omega, Int.natCast_add, Int.add_mul]
    simp
    omega
  | n :: hs, x :: xs, k + 1, h1, h2, h0 => by
    have := W3_more e hs xs k (by simpa using h1) (by simpa using h2) (by simpa using h0)
    simp only [List.set_cons_succ, List.getElem_cons_succ, W3, this]
    omega
/-- What the code makes of heaps. -/
theorem heapsOrd_ev (hs : List Int) (xs : List (List Term)) (h3 : hs.length = 3) (hx3 : xs.length = 3) (hh : ∀ n ∈ hs, 0 ≤ n ∧ n ≤ 40) (hx : ∀ x ∈ xs, Fit x) : Ev (fun k => impl_heapsOrd.f k hs xs) (toldV (hO hs xs [])) := by
  have l0 : ∀ (d i : Nat) (s : List Term), i + d = 3 → vL s → size s ≤ 2400 * i + 1 → mL s ≤ 400000 * i → Ev (fun k => impl_heapsOrd.l0 k xs s hs (hs.length : Int) (i : Int)) (toldV (hO (hs.drop i) (xs.drop i) s)) := by
    intro d
    induction d with
    | zero =>
      intro i s hi hv hs' hm
      rw [List.drop_eq_nil_of_le (by omega)]
      have e : hO [] (xs.drop i) s = s := by cases xs.drop i <;> rfl
      rw [e]
      refine ev_succ (fun k => impl_heapsOrd.l0_eq k _ _ _ _ _) (ev_df (by omega) (ev_bind (told_ev s (by omega)) (ev_some.2 rfl)))
    | succ d ih =>
      intro i s hi hv hs' hm
      have h1 : i < hs.length := by omega
      have h2 : i < xs.length := by omega
      have hn := hh _ (List.getElem_mem h1)
      have hf := hx _ (List.getElem_mem h2)
      have f1 := hf.s
      have f2 := hf.m
      have f3 := hf.v
      have l1 : ∀ (e j : Nat) (s : List Term), j + e = hs[i].toNat → vL s → size s ≤ 2400 * i + 1 + 60 * j → mL s ≤ 400000 * i + 10000 * j → Ev (fun k => impl_heapsOrd.l1 k xs s (i : Int) hs (hs.length : Int) (i : Int) hs[i] (j : Int)) (toldV (hO (hs.drop (i + 1)) (xs.drop (i + 1)) (repO e xs[i] s))) := by
        intro e
        induction e with
        | zero =>
          intro j s hj hv hs' hm
          refine ev_succ (fun k => impl_heapsOrd.l1_eq k _ _ _ _ _ _ _ _) (ev_df (by omega) ?_)
          rw [w_succ (by omega)]
          exact ih (i + 1) s (by omega) hv (by omega) (by omega)
        | succ e ihe =>
          intro j s hj hv hs' hm
          have n1 := nat_size s xs[i]
          have n2 := nat_m s xs[i] hv f3
          refine ev_succ (fun k => impl_heapsOrd.l1_eq k _ _ _ _ _ _ _ _) (ev_dt (by omega) (ev_gd (by omega) ?_))
          rw [get_at h2, w_succ (by omega)]
          refine ev_bind (nat_ev s xs[i] (by omega) (by omega) hv f3 (by omega) (by omega)) ?_
          exact ihe (j + 1) (natO s xs[i]) (by omega) (nat_v _ _ hv f3) (by omega) (by omega)
      rw [List.drop_eq_getElem_cons h1, List.drop_eq_getElem_cons h2, hO]
      refine ev_succ (fun k => impl_heapsOrd.l0_eq k _ _ _ _ _) (ev_dt (by omega) (ev_gd (by omega) ?_))
      rw [get_at h1]
      exact l1 hs[i].toNat 0 s (by omega) hv (by omega) (by omega)
  have := l0 3 0 [] (by omega) vL_nil (by rw [size_nil]; omega) (by rw [mL_nil]; omega)
  exact ev_succ (fun k => impl_heapsOrd.f_eq k _ _) this
/-- The reference's natural sum. -/
theorem sNat_ev {x y : List Term} (hx : Fit x) (hy : Fit y) : Ev (fun k => spec_OrdNatural.f k (row x) (row y)) (toldV (natO x y)) := by
  have sx := hx.s
  have sy := hy.s
  have lx := size_len x
  have ly := size_len y
  have mx := hx.m
  have my := hy.m
  have sz := nat_size x y
  have X1 : (x.map (·.f0)).length = x.length := List.length_map _
  have X2 : (x.map fun t => row t.f1).length = x.length := List.length_map _
  have Y1 : (y.map (·.f0)).length = y.length := List.length_map _
  have Y2 : (y.map fun t => row t.f1).length = y.length := List.length_map _
  have fin : ∀ (i j : Nat) (acc : List Term), x.length ≤ i → y.length ≤ j → acc ++ natO (x.drop i) (y.drop j) = natO x y →
      Ev (fun k => spec_OrdNatural.l0 k (x.map (·.f0)) (x.map fun t => row t.f1) (y.map (·.f0)) (y.map fun t => row t.f1) (acc.map (·.f0)) (acc.map fun t => row t.f1) (i : Int) (j : Int)) (toldV (natO x y)) := by
    intro i j acc hi hj ha
    rw [List.drop_eq_nil_of_le hi, List.drop_eq_nil_of_le hj, nat_nl, List.append_nil] at ha
    subst ha
    refine ev_succ (fun k => spec_OrdNatural.l0_eq k _ _ _ _ _ _ _ _) (ev_df (by rw [X1]; omega) (ev_df (by rw [Y1]; omega) (ev_bind (make_ev _ (by omega)) (ev_bind (fit_ev _) ?_))))
    rw [OV_row (nat_v _ _ hx.v hy.v)]
    unfold toldV
    by_cases hf : mL (natO x y) ≤ 9999 ∧ size (natO x y) ≤ 60
    · rw [decide_eq_true hf, if_pos hf]; exact ev_some.2 rfl
    · rw [decide_eq_false hf, if_neg hf]; exact ev_some.2 rfl
  have loop : ∀ (d i j : Nat) (acc : List Term), (x.length - i) + (y.length - j) ≤ d → i ≤ x.length → j ≤ y.length → acc ++ natO (x.drop i) (y.drop j) = natO x y → acc.length ≤ i + j →
      Ev (fun k => spec_OrdNatural.l0 k (x.map (·.f0)) (x.map fun t => row t.f1) (y.map (·.f0)) (y.map fun t => row t.f1) (acc.map (·.f0)) (acc.map fun t => row t.f1) (i : Int) (j : Int)) (toldV (natO x y)) := by
    intro d
    induction d with
    | zero =>
      intro i j acc hd hi hj ha hl
      exact fin i j acc (by omega) (by omega) ha
    | succ d ih =>
      intro i j acc hd hi hj ha hl
      have A1 : (acc.map (·.f0)).length = acc.length := List.length_map _
      have A2 : (acc.map fun t => row t.f1).length = acc.length := List.length_map _
      -- one more term
      have takeX : ∀ (h : i < x.length), natO (x.drop i) (y.drop j) = x[i] :: natO (x.drop (i + 1)) (y.drop j) → Ev (fun k => spec_OrdNatural.j0 k (x.map (·.f0)) (x.map fun t => row t.f1) (y.map (·.f0)) (y.map fun t => row t.f1) (acc.map (·.f0)) (acc.map fun t => row t.f1) (i : Int) (j : Int) 1) (toldV (natO x y)) := by
        intro h he
        refine ev_succ (fun k => spec_OrdNatural.j0_eq k _ _ _ _ _ _ _ _ _) (ev_dt rfl (ev_gd (by rw [X1]; omega) ?_))
        rw [map_get (·.f0) x i _ h, map_get (fun t => row t.f1) x i _ h, w_succ (by omega)]
        refine ev_gd (by rw [A1, limE]; simp; omega) (ev_gd (by rw [X2]; omega) (ev_gd (by rw [A2, limE]; simp; omega) ?_))
        have := ih (i + 1) j (acc ++ [x[i]]) (by omega) (by omega) hj (by rw [List.append_assoc, ← ha, he]; rfl) (by simp; omega)
        simpa using this
      have takeY : ∀ (h : j < y.length), natO (x.drop i) (y.drop j) = y[j] :: natO (x.drop i) (y.drop (j + 1)) → Ev (fun k => spec_OrdNatural.j0 k (x.map (·.f0)) (x.map fun t => row t.f1) (y.map (·.f0)) (y.map fun t => row t.f1) (acc.map (·.f0)) (acc.map fun t => row t.f1) (i : Int) (j : Int) (-1)) (toldV (natO x y)) := by
        intro h he
        refine ev_succ (fun k => spec_OrdNatural.j0_eq k _ _ _ _ _ _ _ _ _) (ev_df (by omega) (ev_dt rfl (ev_gd (by rw [Y1]; omega) ?_)))
        rw [map_get (·.f0) y j _ h, map_get (fun t => row t.f1) y j _ h, w_succ (by omega)]
        refine ev_gd (by rw [A1, limE]; simp; omega) (ev_gd (by rw [Y2]; omega) (ev_gd (by rw [A2, limE]; simp; omega) ?_))
        have := ih i (j + 1) (acc ++ [y[j]]) (by omega) hi (by omega) (by rw [List.append_assoc, ← ha, he]; rfl) (by simp; omega)
        simpa using this
      have takeB : ∀ (h1 : i < x.length) (h2 : j < y.length), natO (x.drop i) (y.drop j) = ⟨x[i].f0 + y[j].f0, x[i].f1⟩ :: natO (x.drop (i + 1)) (y.drop (j + 1)) → Ev (fun k => spec_OrdNatural.j0 k (x.map (·.f0)) (x.map fun t => row t.f1) (y.map (·.f0)) (y.map fun t => row t.f1) (acc.map (·.f0)) (acc.map fun t => row t.f1) (i : Int) (j : Int) 0) (toldV (natO x y)) := by
        intro h1 h2 he
        have m1 := mL_mem (List.getElem_mem h1)
        have m2 := mL_mem (List.getElem_mem h2)
        have v1 := vL_mem hx.v (List.getElem_mem h1)
        have v2 := vL_mem hy.v (List.getElem_mem h2)
        refine ev_succ (fun k => spec_OrdNatural.j0_eq k _ _ _ _ _ _ _ _ _) (ev_df (by omega) (ev_df (by omega) (ev_gd (by rw [X1]; omega) (ev_gd (by rw [Y1]; omega) ?_))))
        rw [map_get (·.f0) x i _ h1, map_get (fun t => row t.f1) x i _ h1, map_get (·.f0) y j _ h2, w_succ (by omega), w_succ (by omega), w64 (x := x[i].f0 + y[j].f0) (by omega) (by omega)]
        refine ev_gd (by rw [A1, limE]; simp; omega) (ev_gd (by rw [X2]; omega) (ev_gd (by rw [A2, limE]; simp; omega) ?_))
        have := ih (i + 1) (j + 1) (acc ++ [⟨x[i].f0 + y[j].f0, x[i].f1⟩]) (by omega) (by omega) (by omega) (by rw [List.append_assoc, ← ha, he]; rfl) (by simp; omega)
        simpa using this
      by_cases h1 : i < x.length
      · by_cases h2 : j < y.length
        · have s1 := size_mem (List.getElem_mem h1)
          have s2 := size_mem (List.getElem_mem h2)
          refine ev_succ (fun k => spec_OrdNatural.l0_eq k _ _ _ _ _ _ _ _) (ev_dt (by rw [X1]; omega) (ev_df (by rw [X1]; omega) (ev_df (by rw [Y1]; omega) (ev_gd (by rw [X2]; omega) (ev_gd (by rw [Y2]; omega) ?_)))))
          rw [map_get (fun t => row t.f1) x i _ h1, map_get (fun t => row t.f1) y j _ h2]
          refine ev_bind (scompare_ev _ _ (by omega) (by omega)) ?_
          rcases c_cases x[i].f1 y[j].f1 with ⟨hc, hl⟩ | ⟨hc, hl⟩ | ⟨hc, hl⟩
          · rw [hc]
            exact takeY h2 (by rw [List.drop_eq_getElem_cons h1, List.drop_eq_getElem_cons h2, nat_lt _ _ hl, ← List.drop_eq_getElem_cons h1])
          · rw [hc]
            exact takeB h1 h2 (by rw [List.drop_eq_getElem_cons h1, List.drop_eq_getElem_cons h2, nat_eq _ _ hl])
          · rw [hc]
            exact takeX h1 (by rw [List.drop_eq_getElem_cons h1, List.drop_eq_getElem_cons h2, nat_gt _ _ hl, ← List.drop_eq_getElem_cons h2])
        · refine ev_succ (fun k => spec_OrdNatural.l0_eq k _ _ _ _ _ _ _ _) (ev_dt (by rw [X1]; omega) (ev_df (by rw [X1]; omega) (ev_dt (by rw [Y1]; omega) ?_)))
          have hy0 : y.drop j = [] := List.drop_eq_nil_of_le (by omega)
          exact takeX h1 (by rw [hy0, nat_nr, nat_nr, ← List.drop_eq_getElem_cons h1])
      · by_cases h2 : ¬ j < y.length
        · exact fin i j acc (by omega) (by omega) ha
        have h2 : j < y.length := by omega
        refine ev_succ (fun k => spec_OrdNatural.l0_eq k _ _ _ _ _ _ _ _) (ev_df (by rw [X1]; omega) (ev_dt (by rw [Y1]; omega) (ev_dt (by rw [X1]; omega) ?_)))
        have hx0 : x.drop i = [] := List.drop_eq_nil_of_le (by omega)
        exact takeY h2 (by rw [hx0, nat_nl, nat_nl, ← List.drop_eq_getElem_cons h2])
  refine ev_succ (fun k => spec_OrdNatural.f_eq k _ _) (ev_bind (valid_ev _) ?_)
  rw [hx.ov]
  refine ev_nf rfl (ev_bind (valid_ev _) ?_)
  rw [hy.ov]
  refine ev_nf rfl (ev_bind (terms_ev x (by omega)) (ev_bind (terms_ev y (by omega)) ?_))
  exact loop (x.length + y.length) 0 0 [] (by omega) (by omega) (by omega) (by simp) (by simp)
def sumV (z : List Term) : List Int := if mL z ≤ 9999 ∧ size z ≤ 60 then row z else []
theorem l8Ord_ev (hs : List Int) (xs : List (List Term)) (h3 : hs.length = 3) (hx3 : xs.length = 3) (hh : ∀ n ∈ hs, 0 ≤ n ∧ n ≤ 40) (hx : ∀ x ∈ xs, Fit x) : Ev (fun k => spec_l8Ord.f k hs (xs.map row)) (sumV (hO hs xs [])) := by
  have hxv : ∀ x ∈ xs, vL x := fun x h => (hx x h).v
  have L : (xs.map row).length = xs.length := List.length_map _
  have l0 : ∀ (d i : Nat) (s : List Term), i + d = 3 → Fit s → Ev (fun k => spec_l8Ord.l0 k hs (xs.map row) (row s) (i : Int)) (sumV (hO (hs.drop i) (xs.drop i) s)) := by
    intro d
    induction d with
    | zero =>
      intro i s hi hf
      rw [List.drop_eq_nil_of_le (by omega)]
      have e : hO [] (xs.drop i) s = s := by cases xs.drop i <;> rfl
      rw [e]
      exact ev_succ (fun k => spec_l8Ord.l0_eq k _ _ _ _) (ev_df (by omega) (ev_some.2 (by unfold sumV; rw [if_pos ⟨hf.m, hf.s⟩])))
    | succ d ih =>
      intro i s hi hf
      have h1 : i < hs.length := by omega
      have h2 : i < xs.length := by omega
      have hn := hh _ (List.getElem_mem h1)
      have hfx := hx _ (List.getElem_mem h2)
      have l1 : ∀ (e j : Nat) (s : List Term), j + e = hs[i].toNat → Fit s → Ev (fun k => spec_l8Ord.l1 k hs (xs.map row) (row s) (i : Int) (j : Int)) (sumV (hO (hs.drop (i + 1)) (xs.drop (i + 1)) (repO e xs[i] s))) := by
        intro e
        induction e with
        | zero =>
          intro j s hj hf
          refine ev_succ (fun k => spec_l8Ord.l1_eq k _ _ _ _ _) (ev_gd (by omega) ?_)
          rw [get_at h1, w_succ (i := i) (by omega)]
          exact ev_df (by omega) (ih (i + 1) s (by omega) hf)
        | succ e ihe =>
          intro j s hj hf
          refine ev_succ (fun k => spec_l8Ord.l1_eq k _ _ _ _ _) (ev_gd (by omega) ?_)
          rw [get_at h1, map_get row xs i _ h2, w_succ (by omega)]
          refine ev_dt (by omega) (ev_gd (by rw [L]; omega) (ev_bind (sNat_ev hf hfx) ?_))
          unfold toldV
          by_cases hfit : mL (natO s xs[i]) ≤ 9999 ∧ size (natO s xs[i]) ≤ 60
          · rw [if_pos hfit]
            exact ev_nf rfl (ihe (j + 1) (natO s xs[i]) (by omega) ⟨nat_v _ _ hf.v hfx.v, hfit.1, hfit.2⟩)
          · rw [if_neg hfit]
            have g1 := repO_ge e xs[i] (natO s xs[i]) hfx.v (nat_v _ _ hf.v hfx.v)
            have g2 := hO_ge (hs.drop (i + 1)) (xs.drop (i + 1)) (repO e xs[i] (natO s xs[i])) (fun x h => hxv x (List.mem_of_mem_drop h)) (repO_v _ _ _ hfx.v (nat_v _ _ hf.v hfx.v))
            refine ev_nt rfl (ev_some.2 ?_)
            unfold sumV
            rw [repO, if_neg (by omega)]
      rw [List.drop_eq_getElem_cons h1, List.drop_eq_getElem_cons h2, hO]
      refine ev_succ (fun k => spec_l8Ord.l0_eq k _ _ _ _) (ev_dt (by omega) ?_)
      exact l1 hs[i].toNat 0 s (by omega) hf
  have e0 : ([0] : List Int) = row [] := by simp [row, fL_nil]
  have := l0 3 0 [] (by omega) ⟨vL_nil, by rw [mL_nil]; omega, by rw [size_nil]; omega⟩
  rw [← e0] at this
  exact ev_succ (fun k => spec_l8Ord.f_eq k _ _) this
def allOV (ords : List (List Int)) : Bool := decide (ords.length = 3) && ords.all OV
theorem ordsOf_ev (ords : List (List Int)) (hl : ords.length < 1000000000) : EvP (fun k => impl_ordsOf.f k ords) (fun x => x.2 = allOV ords ∧ (allOV ords = true → x.1 = ords.map tr)) := by
  have loop : ∀ (d i : Nat) (acc : List (List Term)), i + d = ords.length → acc = (ords.take i).map tr → (ords.take i).all OV = true → EvP (fun k => impl_ordsOf.l0 k acc ords (ords.length : Int) (i : Int)) (fun x => x.2 = allOV ords ∧ (allOV ords = true → x.1 = ords.map tr)) := by
    intro d
    induction d with
    | zero =>
      intro i acc hi ha hv
      rw [List.take_of_length_le (by omega)] at ha hv
      refine evp_succ (fun k => impl_ordsOf.l0_eq k _ _ _ _) (evp_d (fun h => by omega) (fun _ => evp_some ⟨?_, fun _ => ha⟩))
      unfold allOV
      rw [hv, Bool.and_true, ha]
      show decide ((((ords.map tr).length : Nat) : Int) = 3) = _
      rw [List.length_map]
      by_cases h : ords.length = 3
      · rw [decide_eq_true h]; exact decide_eq_true (by omega)
      · rw [decide_eq_false h]; exact decide_eq_false (by omega)
    | succ d ih =>
      intro i acc hi ha hv
      have hlt : i < ords.length := by omega
      have hal : acc.length = i := by rw [ha, List.length_map, List.length_take]; omega
      refine evp_succ (fun k => impl_ordsOf.l0_eq k _ _ _ _) (evp_d (fun _ => evp_gd (by omega) ?_) (fun h => by omega))
      rw [get_at hlt, w_succ (by omega)]
      refine evp_bind (ordOf_tr _) (fun x ⟨x1, x2⟩ => ?_)
      rw [x1]
      cases ho : OV ords[i] with
      | false =>
        have : allOV ords = false := by
          unfold allOV
          rw [Bool.and_eq_false_iff]
          right
          rw [List.all_eq_false]
          exact ⟨_, List.getElem_mem hlt, by rw [ho]; exact Bool.false_ne_true⟩
        exact evp_b (fun _ => evp_some ⟨this.symm, fun h => by rw [this] at h; cases h⟩) (fun h => by cases h)
      | true =>
        refine evp_b (fun h => by cases h) (fun _ => evp_gd (by rw [hal, limE]; simp; omega) ?_)
        refine ih (i + 1) _ (by omega) ?_ ?_
        · rw [← List.take_append_getElem hlt, List.map_append, ← ha, x2 ho]; rfl
        · rw [← List.take_append_getElem hlt, List.all_append, hv]
          simp [ho]
  exact evp_succ (fun k => impl_ordsOf.f_eq k _) (loop ords.length 0 [] (by omega) (by simp) (by simp))
theorem allOV_rows {ords : List (List Int)} (h : allOV ords = true) : ords.length = 3 ∧ (ords.map tr).length = 3 ∧ ords = (ords.map tr).map row ∧ ∀ x ∈ ords.map tr, Fit x := by
  unfold allOV at h
  simp only [Bool.and_eq_true, decide_eq_true_eq, List.all_eq_true] at h
  refine ⟨h.1, by rw [List.length_map]; exact h.1, ?_, fun x hx => ?_⟩
  · rw [List.map_map]
    have : ords.map (row ∘ tr) = ords.map id := List.map_congr_left fun r hr => (tr_fit (h.2 r hr)).1.symm
    rw [this, List.map_id]
  · obtain ⟨r, hr, rfl⟩ := List.mem_map.1 hx
    exact (tr_fit (h.2 r hr)).2
def hoV (hs : List Int) (ords : List (List Int)) : List Int × Bool := if vh 40 hs = true ∧ allOV ords = true then toldV (hO hs (ords.map tr) []) else ([], false)
theorem implHO_ev (hs : List Int) (ords : List (List Int)) (h1 : hs.length < 1000000000) (h2 : ords.length < 1000000000) : Ev (fun k => impl_HeapsOrd.f k hs ords) (hoV hs ords) := by
  obtain ⟨x, x1, x2, x3⟩ := ordsOf_ev ords h2
  refine ev_succ (fun k => impl_HeapsOrd.f_eq k _ _) (ev_bind (ev_succ (fun k => impl_HeapsValid.f_eq k _) (ev_bind (thingsOk_ev hs 40 (by omega)) (ev_some.2 rfl))) ?_)
  unfold hoV
  cases hv : vh 40 hs with
  | false => exact ev_nt rfl (ev_some.2 (by simp))
  | true =>
    refine ev_nf rfl (ev_bind x1 ?_)
    rw [x2]
    cases ho : allOV ords with
    | false => exact ev_nt rfl (ev_some.2 (by simp))
    | true =>
      obtain ⟨a1, a2⟩ := vh_len hv
      obtain ⟨b1, b2, b3, b4⟩ := allOV_rows ho
      rw [x3 ho, if_pos ⟨rfl, rfl⟩]
      exact ev_nf rfl (ev_bind (heapsOrd_ev hs _ a1 b2 a2 b4) (ev_some.2 rfl))
theorem specHO_ev (hs : List Int) (ords : List (List Int)) (h1 : hs.length < 1000000000) : Ev (fun k => spec_HeapsOrd.f k hs ords) (hoV hs ords) := by
  refine ev_succ (fun k => spec_HeapsOrd.f_eq k _ _) (ev_bind (ev_succ (fun k => spec_HeapsValid.f_eq k _) (ev_bind (l8List_ev hs 40 (by omega)) (ev_some.2 rfl))) ?_)
  unfold hoV
  cases hv : vh 40 hs with
  | false => exact ev_nt rfl (ev_some.2 (by simp))
  | true =>
    refine ev_nf rfl ?_
    by_cases h3 : ords.length = 3
    · refine ev_nf (decide_eq_true (by omega)) ?_
      have fin : allOV ords = true → Ev (fun k => (spec_l8Ord.f k hs ords).bind fun r3 => some (r3, decide ((r3.length : Int) > 0))) (toldV (hO hs (ords.map tr) [])) := by
        intro ho
        obtain ⟨a1, a2⟩ := vh_len hv
        obtain ⟨b1, b2, b3, b4⟩ := allOV_rows ho
        have := l8Ord_ev hs _ a1 b2 a2 b4
        rw [← b3] at this
        refine ev_bind this (ev_some.2 ?_)
        unfold sumV toldV
        split
        · have := size_pos (hO hs (ords.map tr) [])
          rw [row_len, decide_eq_true (by omega)]
        · rfl
      have loop : ∀ d i : Nat, i + d = 3 → (ords.take i).all OV = true → Ev (fun k => spec_HeapsOrd.l0 k hs ords (i : Int)) (if true = true ∧ allOV ords = true then toldV (hO hs (ords.map tr) []) else ([], false)) := by
        intro d
        induction d with
        | zero =>
          intro i hi hall
          rw [List.take_of_length_le (by omega)] at hall
          have ho : allOV ords = true := by unfold allOV; rw [hall, decide_eq_true h3]; rfl
          rw [if_pos ⟨rfl, ho⟩]
          exact ev_succ (fun k => spec_HeapsOrd.l0_eq k _ _ _) (ev_df (by omega) (fin ho))
        | succ d ih =>
          intro i hi hall
          have hlt : i < ords.length := by omega
          refine ev_succ (fun k => spec_HeapsOrd.l0_eq k _ _ _) (ev_dt (by omega) (ev_gd (by omega) ?_))
          rw [get_at hlt, w_succ (by omega)]
          refine ev_bind (valid_ev _) ?_
          cases ho : OV ords[i] with
          | false =>
            have : allOV ords = false := by
              unfold allOV
              rw [Bool.and_eq_false_iff]
              right
              rw [List.all_eq_false]
              exact ⟨_, List.getElem_mem hlt, by rw [ho]; exact Bool.false_ne_true⟩
            rw [this]
            exact ev_nt rfl (ev_some.2 (by simp))
          | true =>
            refine ev_nf rfl (ih (i + 1) (by omega) ?_)
            rw [← List.take_append_getElem hlt, List.all_append, hall]
            simp [ho]
      exact loop 3 0 (by omega) (by simp)
    · have : allOV ords = false := by unfold allOV; rw [decide_eq_false h3]; rfl
      rw [this]
      exact ev_nt (decide_eq_false (by omega)) (ev_some.2 (by simp))
/-! What marks in rows of rows hand on. -/
theorem mark1_fst : ∀ (l : List Int) (k : Int), 0 ≤ k → k + l.length ≤ 9000000000000000000 → (mark1 l k).1 = k + l.length
  | [], k, _, _ => by simp [mark1]
  | x :: l, k, h0, h1 => by
    have hl : ((x :: l).length : Int) = (l.length : Int) + 1 := by simp
    rw [hl] at h1 ⊢
    rw [mark1, w64 (by omega) (by omega)]
    show (mark1 l (k + 1)).1 = _
    rw [mark1_fst l (k + 1) (by omega) (by omega)]
    omega
/-! Copies of rows of numbers, and rows held against each other. -/
theorem toIntS_l0 (l : List Int) (hl : l.length ≤ 1000000000) : ∀ d i : Nat, i + d = l.length → Ev (fun k => laws_toIntS.l0 k l (l.take i ++ List.replicate d 0) (i : Int)) l := by
  intro d
  induction d with
  | zero =>
    intro i hi
    refine ev_succ (fun k => laws_toIntS.l0_eq k _ _ _) (ev_df (by omega) (ev_some.2 ?_))
    rw [List.take_of_length_le (by omega)]; simp
  | succ d ih =>
    intro i hi
    have hlt : i < l.length := by omega
    have hlen : (l.take i ++ List.replicate (d + 1) (0 : Int)).length = l.length := by simp; omega
    refine ev_succ (fun k => laws_toIntS.l0_eq k _ _ _) (ev_dt (by omega) (ev_gd (by omega) (ev_gd (by rw [hlen]; omega) (ev_gd (by rw [hlen]; omega) ?_))))
    rw [get_nat hlt, w_succ (by omega), Int.toNat_natCast]
    have e : (l.take i ++ List.replicate (d + 1) (0 : Int)).set i l[i] = l.take (i + 1) ++ List.replicate d 0 := by
      rw [List.set_append_right _ _ (by simp; omega), List.length_take, Nat.min_eq_left (by omega), Nat.sub_self, List.replicate_succ, List.set_cons_zero, ← List.take_append_getElem hlt, List.append_assoc]
      rfl
    rw [e]
    exact ih (i + 1) (by omega)
theorem toIntS_ev (l : List Int) (hl : l.length ≤ 1000000000) : Ev (fun k => laws_toIntS.f k l) l := by
  refine ev_succ (fun k => laws_toIntS.f_eq k l) (ev_gd ⟨by omega, by rw [Int.toNat_natCast, limE]; omega, rfl⟩ ?_)
  have := toIntS_l0 l hl l.length 0 (by omega)
  rw [Int.toNat_natCast]
  simpa using this
theorem eqIntS_l0 (l : List Int) (hl : l.length < 9223372036854775807) : ∀ d i : Nat, i + d = l.length → Ev (fun k => laws_eqIntS.l0 k l l (i : Int)) true := by
  intro d
  induction d with
  | zero =>
    intro i hi
    exact ev_succ (fun k => laws_eqIntS.l0_eq k _ _ _) (ev_df (by omega) (ev_some.2 rfl))
  | succ d ih =>
    intro i hi
    refine ev_succ (fun k => laws_eqIntS.l0_eq k _ _ _) (ev_dt (by omega) (ev_gd (by omega) (ev_gd (by omega) (ev_nf (by simp) ?_))))
    rw [w_succ (by omega)]
    exact ih (i + 1) (by omega)
theorem eqIntS_self (l : List Int) (hl : l.length < 9223372036854775807) : Ev (fun k => laws_eqIntS.f k l l) true :=
  ev_succ (fun k => laws_eqIntS.f_eq k _ _) (ev_nf (by simp) (eqIntS_l0 l hl l.length 0 (by omega)))
/-! The size of a row of numbers. -/
theorem szIntS_ev (l : List Int) (n : Int) (h0 : 0 ≤ n) (h1 : n ≤ 1048576) (hl : l.length ≤ maxLen) : Ev (fun k => laws_szIntS.f k l n) (if (l.length : Int) ≤ n then n - l.length else -1) := by
  have hm : maxLen ≤ 9223372036854775807 := by decide
  refine ev_succ (fun k => laws_szIntS.f_eq k _ _) ?_
  rw [w64 (by omega) (by omega)]
  by_cases h : (l.length : Int) ≤ n
  · rw [if_pos h]; exact ev_df (by omega) (ev_some.2 rfl)
  · rw [if_neg h]; exact ev_dt (by omega) (ev_some.2 rfl)
/-! Rows of anything, filled. -/
theorem at_nat {α : Type} {l : List α} {i : Nat} {d : α} (h : i < l.length) : l.getD (i : Int).toNat d = l[i] := by
  rw [Int.toNat_natCast, List.getD_eq_getElem?_getD, List.getElem?_eq_getElem h]
  rfl
theorem fill_len {α : Type} {l : List α} {z : α} {i d : Nat} (h : i + d = l.length) : (l.take i ++ List.replicate d z).length = l.length := by simp; omega
theorem fill_step {α : Type} {l : List α} {z : α} {i d : Nat} (h : i + (d + 1) = l.length) (hlt : i < l.length) : (l.take i ++ List.replicate (d + 1) z).set (i : Int).toNat l[i] = l.take (i + 1) ++ List.replicate d z := by
  rw [Int.toNat_natCast, List.set_append_right _ _ (by simp; omega), List.length_take, Nat.min_eq_left (by omega), Nat.sub_self, List.replicate_succ, List.set_cons_zero, ← List.take_append_getElem hlt, List.append_assoc]
  rfl
def RowOk (l : List Int) : Prop := l.length ≤ 1048576
theorem szII_ev (l : List Int) (n : Int) (h0 : 0 ≤ n) (h1 : n ≤ 1048576) (hl : l.length ≤ maxLen) : EvP (fun k => laws_szIntS.f k l n) (fun r => r ≤ 1048576 ∧ (0 ≤ r → RowOk l)) := by
  refine (szIntS_ev l n h0 h1 hl).p ?_
  unfold RowOk
  split <;> exact ⟨by omega, fun _ => by omega⟩
/-! Rows of rows, copied, sized and held against each other. -/
theorem szIntSS_ev (a : List (List Int)) (n : Int) (h0 : 0 ≤ n) (h1 : n ≤ 1048576) (hl : a.length ≤ maxLen) (hr : ∀ r ∈ a, r.length ≤ maxLen) : EvP (fun k => laws_szIntSS.f k a n) (fun r => r ≤ 1048576 ∧ (0 ≤ r → a.length ≤ 1048576 ∧ ∀ r ∈ a, RowOk r)) := by
  have hm : maxLen ≤ 9223372036854775807 := by decide
  refine evp_succ (fun k => laws_szIntSS.f_eq k _ _) ?_
  rw [w64 (by omega) (by omega)]
  refine evp_d (fun h => evp_some ⟨by omega, fun h => by omega⟩) (fun hge => ?_)
  have loop : ∀ (d i : Nat) (n : Int), i + d = a.length → 0 ≤ n → n ≤ 1048576 → (∀ r ∈ a.take i, RowOk r) → EvP (fun k => laws_szIntSS.l0 k a n (i : Int)) (fun r => r ≤ 1048576 ∧ (0 ≤ r → a.length ≤ 1048576 ∧ ∀ r ∈ a, RowOk r)) := by
    intro d
    induction d with
    | zero =>
      intro i n hi h0 h1 hall
      rw [List.take_of_length_le (by omega)] at hall
      exact evp_succ (fun k => laws_szIntSS.l0_eq k _ _ _) (evp_d (fun h => by omega) (fun _ => evp_some ⟨h1, fun _ => ⟨by omega, hall⟩⟩))
    | succ d ih =>
      intro i n hi h0 h1 hall
      have hlt : i < a.length := by omega
      refine evp_succ (fun k => laws_szIntSS.l0_eq k _ _ _) (evp_d (fun _ => evp_gd (by omega) ?_) (fun h => by omega))
      rw [at_nat hlt, w_succ (by omega)]
      refine evp_bind (szII_ev _ n h0 h1 (hr _ (List.getElem_mem hlt))) (fun r ⟨r1, r2⟩ => evp_d (fun h => evp_some ⟨by omega, fun h => by omega⟩) (fun hr => ih (i + 1) r (by omega) (by omega) r1 ?_))
      intro x hx
      rw [← List.take_append_getElem hlt] at hx
      rcases List.mem_append.1 hx with hx | hx
      · exact hall x hx
      · simp at hx; subst hx; exact r2 (by omega)
  exact loop a.length 0 _ (by omega) (by omega) (by omega) (by simp)
theorem toIntSS_ev (a : List (List Int)) (hl : a.length ≤ 1048576) (hr : ∀ r ∈ a, RowOk r) : Ev (fun k => laws_toIntSS.f k a) a := by
  have loop : ∀ d i : Nat, i + d = a.length → Ev (fun k => laws_toIntSS.l0 k a (a.take i ++ List.replicate d []) (i : Int)) a := by
    intro d
    induction d with
    | zero =>
      intro i hi
      refine ev_succ (fun k => laws_toIntSS.l0_eq k _ _ _) (ev_df (by omega) (ev_some.2 ?_))
      rw [List.take_of_length_le (by omega)]; simp
    | succ d ih =>
      intro i hi
      have hlt : i < a.length := by omega
      have hlen := fill_len (z := ([] : List Int)) hi
      refine ev_succ (fun k => laws_toIntSS.l0_eq k _ _ _) (ev_dt (by omega) (ev_gd (by omega) ?_))
      rw [at_nat hlt]
      refine ev_bind (toIntS_ev _ (by have := hr _ (List.getElem_mem hlt); unfold RowOk at this; omega)) (ev_gd (by rw [hlen]; omega) (ev_gd (by rw [hlen]; omega) ?_))
      rw [fill_step hi hlt, w_succ (by omega)]
      exact ih (i + 1) (by omega)
  refine ev_succ (fun k => laws_toIntSS.f_eq k a) (ev_gd ⟨by omega, by rw [Int.toNat_natCast, limE]; omega, rfl⟩ ?_)
  have := loop a.length 0 (by omega)
  rw [Int.toNat_natCast]
  simpa using this
theorem eqIntSS_self (a : List (List Int)) (hl : a.length ≤ 1048576) (hr : ∀ r ∈ a, RowOk r) : Ev (fun k => laws_eqIntSS.f k a a) true := by
  have loop : ∀ d i : Nat, i + d = a.length → Ev (fun k => laws_eqIntSS.l0 k a a (i : Int)) true := by
    intro d
    induction d with
    | zero => intro i hi; exact ev_succ (fun k => laws_eqIntSS.l0_eq k _ _ _) (ev_df (by omega) (ev_some.2 rfl))
    | succ d ih =>
      intro i hi
      have hlt : i < a.length := by omega
      refine ev_succ (fun k => laws_eqIntSS.l0_eq k _ _ _) (ev_dt (by omega) (ev_gd (by omega) (ev_gd (by omega) ?_)))
      rw [at_nat hlt, w_succ (by omega)]
      exact ev_bind (eqIntS_self _ (by have := hr _ (List.getElem_mem hlt); unfold RowOk at this; omega)) (ev_nf rfl (ih (i + 1) (by omega)))
  exact ev_succ (fun k => laws_eqIntSS.f_eq k _ _) (ev_nf (by simp) (loop a.length 0 (by omega)))
/-! Rows written over with numbers that follow each other, from any number on. -/
def mkF (c : Int) (n : Nat) : List Int := (List.range n).map fun (i : Nat) => c + (i : Int)
theorem mkF_len (c : Int) (n : Nat) : (mkF c n).length = n := by simp [mkF]
theorem mkF_at {c : Int} {n i : Nat} (h : i < n) : (mkF c n)[i]'(by rw [mkF_len]; exact h) = c + (i : Int) := by simp [mkF]
theorem mkF_succ (c : Int) (n : Nat) : mkF c (n + 1) = mkF c n ++ [c + (n : Int)] := by simp [mkF, List.range_succ]
theorem markc_ev (c : Int) (h0 : 0 ≤ c) (h1 : c ≤ 1000000000) (l : List Int) (hl : l.length ≤ 1000000000) : Ev (fun k => laws_markIntS.f k l c) (c + (l.length : Int), mkF c l.length) := by
  have loop : ∀ d i : Nat, i + d = l.length → Ev (fun k => laws_markIntS.l0 k (mkF c i ++ l.drop i) (c + (i : Int)) (i : Int)) (c + (l.length : Int), mkF c l.length) := by
    intro d
    induction d with
    | zero =>
      intro i hi
      have hlen : (mkF c i ++ l.drop i).length = l.length := by rw [List.length_append, mkF_len, List.length_drop]; omega
      refine ev_succ (fun k => laws_markIntS.l0_eq k _ _ _) (ev_df (by rw [hlen]; omega) (ev_some.2 ?_))
      rw [List.drop_eq_nil_of_le (by omega), List.append_nil, show i = l.length by omega]
    | succ d ih =>
      intro i hi
      have hlen : (mkF c i ++ l.drop i).length = l.length := by rw [List.length_append, mkF_len, List.length_drop]; omega
      have hlt : i < l.length := by omega
      refine ev_succ (fun k => laws_markIntS.l0_eq k _ _ _) (ev_dt (by rw [hlen]; omega) (ev_gd (by rw [hlen]; omega) (ev_gd (by rw [hlen]; omega) ?_)))
      have e : (mkF c i ++ l.drop i).set (i : Int).toNat (c + (i : Int)) = mkF c (i + 1) ++ l.drop (i + 1) := by
        rw [Int.toNat_natCast, List.set_append_right _ _ (by rw [mkF_len]; omega), mkF_len, Nat.sub_self, List.drop_eq_getElem_cons hlt, List.set_cons_zero, mkF_succ, List.append_assoc]
        rfl
      rw [e, w_succ (by omega), w64 (by omega) (by omega)]
      have := ih (i + 1) (by omega)
      rw [show c + (i : Int) + 1 = c + ((i + 1 : Nat) : Int) by omega]
      exact this
  have := loop l.length 0 (by omega)
  refine ev_succ (fun k => laws_markIntS.f_eq k _ _) ?_
  simpa [mkF] using this
theorem heldc_ev (c : Int) (h0 : 0 ≤ c) (h1 : c ≤ 1000000000) (n : Nat) (hn : n ≤ 1000000000) : Ev (fun k => laws_heldIntS.f k (mkF c n) c) (c + (n : Int)) := by
  have loop : ∀ d i : Nat, i + d = n → Ev (fun k => laws_heldIntS.l0 k (mkF c n) (c + (i : Int)) (i : Int)) (c + (n : Int)) := by
    intro d
    induction d with
    | zero =>
      intro i hi
      refine ev_succ (fun k => laws_heldIntS.l0_eq k _ _ _) (ev_df (by rw [mkF_len]; omega) (ev_some.2 (by omega)))
    | succ d ih =>
      intro i hi
      have hlt : i < (mkF c n).length := by rw [mkF_len]; omega
      refine ev_succ (fun k => laws_heldIntS.l0_eq k _ _ _) (ev_dt (by omega) (ev_gd (by omega) (ev_nf ?_ ?_)))
      · rw [get_nat hlt, mkF_at (by omega)]; exact decide_eq_true rfl
      · rw [w_succ (by omega), w64 (by omega) (by omega), show c + (i : Int) + 1 = c + ((i + 1 : Nat) : Int) by omega]
        exact ih (i + 1) (by omega)
  have := loop n 0 (by omega)
  refine ev_succ (fun k => laws_heldIntS.f_eq k _ _) ?_
  simpa using this
theorem markL_fst : ∀ (l : List (List Int)) (k : Int), 0 ≤ k → k + 1048576 * l.length ≤ 9000000000000000000 → (∀ r ∈ l, RowOk r) → 0 ≤ (markL l k).1
  | [], k, h0, _, _ => h0
  | x :: l, k, h0, h1, hr => by
    have hl : ((x :: l).length : Int) = (l.length : Int) + 1 := by simp
    rw [hl] at h1
    have hx := hr x (List.mem_cons_self ..)
    unfold RowOk at hx
    rw [markL]
    show 0 ≤ (markL l (mark1 x k).1).1
    rw [mark1_fst x k h0 (by omega)]
    exact markL_fst l _ (by omega) (by omega) (fun r h => hr r (List.mem_cons_of_mem _ h))
theorem markSS_ev (a : List (List Int)) (c : Int) (hl : a.length ≤ 1048576) (hr : ∀ r ∈ a, RowOk r) : Ev (fun k => laws_markIntSS.f k a c) ((markL a c).1, (markL a c).2) := by
  have hok : okL a = true := decide_eq_true ⟨by rw [limE]; omega, fun r h => by have := hr r h; unfold RowOk at this; rw [limE]; omega⟩
  refine ⟨0, fun k _ => ?_⟩
  show laws_markIntSS.f k a c = _
  rw [laws_markIntSS.f_eq, hok]
  rfl
/-! The law. -/
theorem hoV_len (hs : List Int) (ords : List (List Int)) : (hoV hs ords).1.length ≤ 60 := by
  unfold hoV
  split
  · unfold toldV
    split
    · rename_i h; rw [row_len]; exact h.2
    · simp
  · simp
theorem pure_FnExactHeapsOrd (h : List Int) (o : List (List Int)) (h1 : h.length ≤ maxLen) (h3 : ∀ x ∈ h, (Lit.int .i64 x).wf = true) (h4 : o.length ≤ maxLen) (h5 : ∀ r ∈ o, r.length ≤ maxLen ∧ ∀ x ∈ r, (Lit.int .i64 x).wf = true) : ∃ k, laws_FnExactHeapsOrd.f k h o = some true := by
  refine evp_true (evp_succ (fun k => laws_FnExactHeapsOrd.f_eq k h o) (evp_d (fun _ => evp_some rfl) (fun hl => evp_bind (szIntSS_ev o 1048576 (by omega) (by omega) h4 (fun r hr => (h5 r hr).1)) (fun r hr => evp_d (fun _ => evp_some rfl) (fun h0 => ?_)))))
  obtain ⟨ho, hr2⟩ := hr.2 (by omega)
  have hl' : h.length ≤ 1048576 := by omega
  have ti := toIntS_ev h (by omega)
  have to := toIntSS_ev o ho hr2
  have sp := specHO_ev h o (by omega)
  have im := implHO_ev h o (by omega) (by omega)
  have hv := hoV_len h o
  have es := eqIntS_self (hoV h o).1 (by omega)
  have mi := markc_ev 1 (by omega) (by omega) h (by omega)
  have mm := markSS_ev o ((1 : Int) + (h.length : Int)) ho hr2
  have mf := markL_fst o ((1 : Int) + (h.length : Int)) (by omega) (by omega) hr2
  have mg := markc_ev 1 (by omega) (by omega) (hoV h o).1 (by omega)
  have hg := heldc_ev 1 (by omega) (by omega) (hoV h o).1.length (by omega)
  refine Ev.p ?_ rfl
  refine ev_bind ti (ev_bind to (ev_bind sp (ev_bind ti (ev_bind to (ev_bind im (ev_bind es (ev_nf rfl (ev_nf (by simp) (ev_bind ti (ev_bind (eqIntS_self h (by omega)) (ev_nf rfl (ev_bind to (ev_bind (eqIntSS_self o ho hr2) (ev_nf rfl ?_))))))))))))))
  refine ev_bind mi (ev_bind mm (ev_df (by simp only; omega) (ev_bind es (ev_nf rfl (ev_nf (by simp) ?_)))))
  refine ev_bind mg (ev_bind hg (ev_df (by omega) (ev_nf (by simp) (ev_bind ti (ev_bind to (ev_bind im (ev_bind es (ev_nf rfl (ev_nf (by simp) (ev_bind hg (ev_df (by omega) (ev_nf (by simp) (ev_some.2 rfl)))))))))))))
end Go.Proofs.Ytgibeillafnieaa.EPure
