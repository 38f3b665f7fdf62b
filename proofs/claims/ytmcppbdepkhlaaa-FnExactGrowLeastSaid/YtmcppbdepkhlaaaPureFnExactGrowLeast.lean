/-
  The pure statement of FnExactGrowLeast.
-/
import Derived.Test.YtmcppbdepkhlaaaQM
import Derived.ProofKit
import Derived.IntWalk
namespace Go.Proofs.Ytmcppbdepkhlaaa.EPure
open Go Go.RowKit Go.Proofs.Ytmcppbdepkhlaaa.Eng
set_option linter.unusedVariables false
set_option linter.unusedSimpArgs false

/-! Rounds without counting them. -/
def Ev {α : Type} (g : Nat → Option α) (r : α) : Prop := ∃ K, ∀ k, K ≤ k → g k = some r
theorem ev_some {α : Type} {a r : α} : Ev (fun _ => some a) r ↔ a = r := by
  constructor
  · rintro ⟨K, h⟩
    exact Option.some.inj (h K (Nat.le_refl _))
  · rintro rfl
    exact ⟨0, fun _ _ => rfl⟩
theorem ev_bind {α β : Type} {g : Nat → Option α} {f : Nat → α → Option β} {a : α} (h : Ev g a) {r : β} (h2 : Ev (fun k => f k a) r) : Ev (fun k => (g k).bind (f k)) r := by
  obtain ⟨K, h⟩ := h
  obtain ⟨L, h2⟩ := h2
  exact ⟨max K L, fun k hk => by simp only [h k (by omega), Option.bind_some]; exact h2 k (by omega)⟩
theorem ev_succ {α : Type} {g f : Nat → Option α} {r : α} (h : ∀ k, g (k + 1) = f k) (e : Ev f r) : Ev g r := by
  obtain ⟨K, e⟩ := e
  refine ⟨K + 1, fun k hk => ?_⟩
  obtain ⟨j, rfl⟩ : ∃ j, k = j + 1 := ⟨k - 1, by omega⟩
  rw [h]
  exact e j (by omega)
theorem ev_true {g : Nat → Option Bool} (h : Ev g true) : ∃ k, g k = some true := by
  obtain ⟨K, h⟩ := h
  exact ⟨K, h K (Nat.le_refl _)⟩
theorem ev_gate {α : Type} {c : Bool} {g : Nat → Option α} {r : α} (hc : c = true) (e : Ev g r) : Ev (fun k => gate c (g k)) r := by
  subst hc
  exact e
theorem ev_gd {α : Type} {p : Prop} [Decidable p] {g : Nat → Option α} {r : α} (hp : p) (e : Ev g r) : Ev (fun k => gate (decide p) (g k)) r := ev_gate (decide_eq_true hp) e
theorem ev_bt {α : Type} {c : Bool} {g h : Nat → Option α} {r : α} (hc : c = true) (e : Ev g r) : Ev (fun k => br c (g k) (h k)) r := by
  subst hc
  exact e
theorem ev_bf {α : Type} {c : Bool} {g h : Nat → Option α} {r : α} (hc : c = false) (e : Ev h r) : Ev (fun k => br c (g k) (h k)) r := by
  subst hc
  exact e
theorem ev_dt {α : Type} {p : Prop} [Decidable p] {g h : Nat → Option α} {r : α} (hp : p) (e : Ev g r) : Ev (fun k => br (decide p) (g k) (h k)) r := ev_bt (decide_eq_true hp) e
theorem ev_df {α : Type} {p : Prop} [Decidable p] {g h : Nat → Option α} {r : α} (hp : ¬ p) (e : Ev h r) : Ev (fun k => br (decide p) (g k) (h k)) r := ev_bf (decide_eq_false hp) e
theorem ev_nt {α : Type} {c : Bool} {g h : Nat → Option α} {r : α} (hc : c = false) (e : Ev g r) : Ev (fun k => br (!c) (g k) (h k)) r := by
  subst hc
  exact e
theorem ev_nf {α : Type} {c : Bool} {g h : Nat → Option α} {r : α} (hc : c = true) (e : Ev h r) : Ev (fun k => br (!c) (g k) (h k)) r := by
  subst hc
  exact e
/-! What comes of some rounds, with a property. -/
def EvP {α : Type} (g : Nat → Option α) (Q : α → Prop) : Prop := ∃ r, Ev g r ∧ Q r
theorem Ev.p {α : Type} {g : Nat → Option α} {Q : α → Prop} {r : α} (h : Ev g r) (q : Q r) : EvP g Q := ⟨r, h, q⟩
theorem evp_some {α : Type} {Q : α → Prop} {r : α} (q : Q r) : EvP (fun _ => some r) Q := ⟨r, ev_some.2 rfl, q⟩
theorem evp_bind {α β : Type} {g : Nat → Option α} {f : Nat → α → Option β} {P : α → Prop} {Q : β → Prop} (h : EvP g P) (e : ∀ a, P a → EvP (fun k => f k a) Q) : EvP (fun k => (g k).bind (f k)) Q := by
  obtain ⟨a, h1, p⟩ := h
  obtain ⟨r, h2, q⟩ := e a p
  exact ⟨r, ev_bind h1 h2, q⟩
theorem evp_bindv {α β : Type} {g : Nat → Option α} {f : Nat → α → Option β} {a : α} {Q : β → Prop} (h : Ev g a) (e : EvP (fun k => f k a) Q) : EvP (fun k => (g k).bind (f k)) Q := by
  obtain ⟨r, h2, q⟩ := e
  exact ⟨r, ev_bind h h2, q⟩
theorem evp_succ {α : Type} {g f : Nat → Option α} {Q : α → Prop} (h : ∀ k, g (k + 1) = f k) (e : EvP f Q) : EvP g Q := by
  obtain ⟨r, h2, q⟩ := e
  exact ⟨r, ev_succ h h2, q⟩
theorem evp_mono {α : Type} {g : Nat → Option α} {P Q : α → Prop} (h : EvP g P) (hq : ∀ a, P a → Q a) : EvP g Q := by
  obtain ⟨r, h2, p⟩ := h
  exact ⟨r, h2, hq r p⟩
theorem evp_gd {α : Type} {p : Prop} [Decidable p] {g : Nat → Option α} {Q : α → Prop} (hp : p) (e : EvP g Q) : EvP (fun k => gate (decide p) (g k)) Q := by
  obtain ⟨r, h, q⟩ := e
  exact ⟨r, ev_gd hp h, q⟩
theorem evp_gn {α : Type} {p : Prop} [Decidable p] {g : Nat → Option α} {Q : α → Prop} (hp : ¬ p) (e : EvP g Q) : EvP (fun k => gate (!decide p) (g k)) Q := by
  obtain ⟨r, h, q⟩ := e
  exact ⟨r, ev_gate (by simp [hp]) h, q⟩
theorem evp_b {α : Type} {c : Bool} {g h : Nat → Option α} {Q : α → Prop} (e1 : c = true → EvP g Q) (e2 : c = false → EvP h Q) : EvP (fun k => br c (g k) (h k)) Q := by
  cases c with
  | true => exact e1 rfl
  | false => exact e2 rfl
theorem evp_d {α : Type} {p : Prop} [Decidable p] {g h : Nat → Option α} {Q : α → Prop} (e1 : p → EvP g Q) (e2 : ¬ p → EvP h Q) : EvP (fun k => br (decide p) (g k) (h k)) Q :=
  evp_b (fun h => e1 (of_decide_eq_true h)) (fun h => e2 (of_decide_eq_false h))
theorem evp_true {g : Nat → Option Bool} (h : EvP g (fun b => b = true)) : ∃ k, g k = some true := by
  obtain ⟨r, h, rfl⟩ := h
  exact ev_true h
theorem wr_eq (x : Int) : wr x = wrap64 x := by unfold wrap64; exact IntKind.wrap_i64 x
theorem w64 {x : Int} (h0 : -9223372036854775808 ≤ x) (h1 : x ≤ 9223372036854775807) : wr x = x := by
  rw [wr_eq]
  unfold wrap64
  omega
theorem w_succ {i : Nat} (h : i < 9223372036854775807) : wr ((i : Int) + 1) = ((i + 1 : Nat) : Int) := by rw [w64] <;> omega
theorem get_nat {l : List Int} {i : Nat} (h : i < l.length) : l.getD (i : Int).toNat 0 = l[i] := by
  rw [Int.toNat_natCast, List.getD_eq_getElem?_getD, List.getElem?_eq_getElem h]
  rfl
theorem limE : lim = 1099511627776 := rfl
theorem ev_const {α : Type} {x : Option α} {r : α} (h : x = some r) : Ev (fun _ => x) r := ⟨0, fun _ _ => h⟩
/-! Draws. -/
def BOK (b : List Int) : Prop := b.length ≤ 2000 ∧ ∀ x ∈ b, 0 ≤ x ∧ x ≤ 255
theorem BOK.rd_ {b : List Int} (h : BOK b) (i : Nat) : 0 ≤ b.getD i 0 ∧ b.getD i 0 ≤ 255 := by
  rw [List.getD_eq_getElem?_getD]
  cases e : b[i]? with
  | none => simp
  | some x => exact h.2 x (List.mem_of_getElem? e)
theorem xor_pos {X Y : Int} (h0 : 0 ≤ X) (h1 : X < 9223372036854775808) (h2 : 0 ≤ Y) (h3 : Y < 9223372036854775808) : 0 ≤ wr ((BitVec.ofInt (IntKind.bits .i64) X) ^^^ (BitVec.ofInt (IntKind.bits .i64) Y)).toNat := by
  obtain ⟨a, rfl⟩ := Int.eq_ofNat_of_zero_le h0
  obtain ⟨b, rfl⟩ := Int.eq_ofNat_of_zero_le h2
  have hx : a ^^^ b < 2 ^ 63 := Nat.xor_lt_two_pow (by omega) (by omega)
  have h1 : a % 2 ^ IntKind.i64.bits = a := Nat.mod_eq_of_lt (by simp [IntKind.bits]; omega)
  have h2 : b % 2 ^ IntKind.i64.bits = b := Nat.mod_eq_of_lt (by simp [IntKind.bits]; omega)
  rw [wr_eq]
  simp only [BitVec.ofInt_natCast, BitVec.toNat_xor, BitVec.toNat_ofNat, h1, h2]
  unfold wrap64
  omega
def mixX (c1 c2 k q : Int) : Int := wr (wr (wr (wr (wr c1 * 131) + wr (wr c2 * 1117)) + wr (k * 29)) + wr (wr q * 53))
theorem mixX_pos {c1 c2 k q : Int} (h1 : 0 ≤ c1) (h2 : c1 ≤ 255) (h3 : 0 ≤ c2) (h4 : c2 ≤ 255) (h5 : 0 ≤ k) (h6 : k ≤ 1000000000000) (h7 : 0 ≤ q) (h8 : q ≤ 1000000000000) : 0 ≤ mixX c1 c2 k q ∧ mixX c1 c2 k q < 9223372036854775808 := by
  unfold mixX
  rw [w64 (x := c1) (by omega) (by omega), w64 (x := c2) (by omega) (by omega), w64 (x := q) (by omega) (by omega)]
  rw [w64 (x := c1 * 131) (by omega) (by omega), w64 (x := c2 * 1117) (by omega) (by omega), w64 (x := k * 29) (by omega) (by omega), w64 (x := q * 53) (by omega) (by omega)]
  rw [w64 (x := c1 * 131 + c2 * 1117) (by omega) (by omega), w64 (x := c1 * 131 + c2 * 1117 + k * 29) (by omega) (by omega), w64 (by omega) (by omega)]
  omega
theorem tmod_in {x n : Int} (hx : 0 ≤ x) (hn : 0 < n) : 0 ≤ Int.tmod x n ∧ Int.tmod x n < n := ⟨Int.tmod_nonneg _ hx, Int.tmod_lt_of_pos _ hn⟩
abbrev Rd := List Int × Int × Unit
/-- Behind some draws: the same row, and the place not far on. -/
def At (b : List Int) (p q : Int) (r : Rd) : Prop := r.1 = b ∧ p ≤ r.2.1 ∧ r.2.1 ≤ q
def Picked (b : List Int) (p n : Int) (x : Int × Rd) : Prop := x.2 = (b, p + 1, ()) ∧ 0 ≤ x.1 ∧ (x.1 < n ∨ x.1 = 0)
theorem pick_ev {b : List Int} (hb : BOK b) {p n : Int} (h0 : 0 ≤ p) (h1 : p ≤ 1000000000000) (hn : n < 9223372036854775807) : EvP (fun k => spec_l20Rd__pick.f k b p n) (Picked b p n) := by
  refine evp_succ (fun k => spec_l20Rd__pick.f_eq k b p n) ?_
  rw [w64 (x := p + 1) (by omega) (by omega), show p + 1 - 1 = p by omega, w64 (x := p) (by omega) (by omega)]
  refine evp_d (fun _ => evp_some ⟨rfl, by simp, .inr rfl⟩) (fun n1 => evp_d (fun _ => evp_some ⟨rfl, by simp, .inr rfl⟩) (fun hl => ?_))
  have hl2 := hb.1
  refine evp_d (fun hlt => ?_) (fun hge => ?_)
  · refine evp_gd ⟨h0, hlt⟩ (evp_gn (by omega) (evp_some ?_))
    have := hb.rd_ p.toNat
    rw [w64 (by omega) (by omega)]
    have t := tmod_in this.1 (show 0 < n by omega)
    exact ⟨rfl, t.1, .inl t.2⟩
  · have t1 := tmod_in h0 (show (0 : Int) < b.length by omega)
    have d1 : 0 ≤ Int.tdiv p b.length ∧ Int.tdiv p b.length ≤ p := by
      rw [Int.tdiv_eq_ediv_of_nonneg h0]
      exact ⟨Int.ediv_nonneg h0 (by omega), Int.ediv_le_self _ h0⟩
    have e3 : wr (wr (p * 7) + 3) = p * 7 + 3 := by rw [w64 (x := p * 7) (by omega) (by omega), w64 (by omega) (by omega)]
    rw [e3]
    have t2 := tmod_in (show 0 ≤ p * 7 + 3 by omega) (show (0 : Int) < b.length by omega)
    refine evp_gn hl (evp_gd t1 (evp_gn hl (evp_gd t2 (evp_gn hl (evp_gn (by omega) (evp_some ?_))))))
    have r1 := hb.rd_ (Int.tmod p b.length).toNat
    have r2 := hb.rd_ (Int.tmod (p * 7 + 3) b.length).toNat
    have hX := mixX_pos r1.1 r1.2 r2.1 r2.2 h0 h1 d1.1 (by omega)
    have hY : 0 ≤ wr (Int.tdiv (mixX (b.getD (Int.tmod p b.length).toNat 0) (b.getD (Int.tmod (p * 7 + 3) b.length).toNat 0) p (Int.tdiv p b.length)) 64) ∧ wr (Int.tdiv (mixX (b.getD (Int.tmod p b.length).toNat 0) (b.getD (Int.tmod (p * 7 + 3) b.length).toNat 0) p (Int.tdiv p b.length)) 64) < 9223372036854775808 := by
      rw [Int.tdiv_eq_ediv_of_nonneg hX.1, w64 (by omega) (by omega)]
      omega
    have t := tmod_in (xor_pos hX.1 hX.2 hY.1 hY.2) (show 0 < n by omega)
    exact ⟨rfl, t.1, .inl t.2⟩
theorem open_ev {b : List Int} (hb : ∀ x ∈ b, (Lit.int .u8 x).wf = true) (hl : b.length < 9223372036854775807) : EvP (fun k => spec_l20Open.f k b) (fun x => BOK x.1 ∧ x.2 = (0, ())) := by
  have hx : ∀ x ∈ b, 0 ≤ x ∧ x ≤ 255 := fun x hx => by
    have := hb x hx
    simp [Lit.wf, IntKind.min, IntKind.max, IntKind.signed, IntKind.bits] at this
    omega
  refine evp_succ (fun k => spec_l20Open.f_eq k b) ?_
  refine evp_d (fun h => evp_gd (by omega) (evp_some ⟨⟨?_, fun x hm => hx x (List.mem_of_mem_take hm)⟩, rfl⟩)) (fun h => evp_some ⟨⟨by show b.length ≤ 2000; omega, hx⟩, rfl⟩)
  show (b.take 2000).length ≤ 2000
  rw [List.length_take]
  omega
theorem odd_ev {b : List Int} (hb : BOK b) {p n : Int} (h0 : 0 ≤ p) (h1 : p ≤ 1000000000000) (hn : n < 9223372036854775807) : EvP (fun k => spec_l20Rd__odd.f k b p n) (fun x => At b p (p + 1) x.2) := by
  refine evp_succ (fun k => spec_l20Rd__odd.f_eq k b p n) ?_
  refine evp_d (fun _ => ?_) (fun _ => evp_some ⟨rfl, by simp, by simp; omega⟩)
  refine evp_bind (pick_ev hb h0 h1 hn) (fun a ⟨ha, _⟩ => evp_some ⟨?_, ?_, ?_⟩) <;> simp [ha] <;> omega
theorem l1In_ev (a b c : Int) : Ev (fun k => spec_l1In.f k a b c) (decide (a ≥ b) && decide (a ≤ c)) := by
  refine ev_succ (fun k => spec_l1In.f_eq k a b c) ?_
  by_cases h : a ≥ b
  · exact ev_dt h (ev_some.2 (by simp [h]))
  · exact ev_df h (ev_some.2 (by simp [h]))
/-! Trees, their rows, their order. -/
mutual
def fT : Term → List Int
  | ⟨c, e⟩ => c :: (e.length : Int) :: fL e
def fL : List Term → List Int
  | [] => []
  | t :: x => fT t ++ fL x
end
def row (x : List Term) : List Int := (x.length : Int) :: fL x
theorem fT_eq (t : Term) : fT t = t.f0 :: row t.f1 := by cases t; rw [fT]; rfl
theorem fL_nil : fL [] = [] := by rw [fL]
theorem fL_cons (t : Term) (x : List Term) : fL (t :: x) = t.f0 :: (row t.f1 ++ fL x) := by rw [fL, fT_eq]; rfl
theorem fL_app (x y : List Term) : fL (x ++ y) = fL x ++ fL y := by
  induction x with
  | nil => simp [fL_nil]
  | cons t x ih => simp [fL_cons, ih]
def size (x : List Term) : Nat := (row x).length
theorem size_eq (x : List Term) : size x = 1 + (fL x).length := by simp [size, row, Nat.add_comm]
theorem size_nil : size [] = 1 := by simp [size_eq, fL_nil]
theorem size_cons (t : Term) (x : List Term) : size (t :: x) = 1 + size t.f1 + size x := by
  simp only [size_eq, fL_cons, List.length_cons, List.length_append]
  have := size_eq t.f1
  simp only [size] at this
  omega
theorem size_pos (x : List Term) : 1 ≤ size x := by rw [size_eq]; omega
theorem size_len (x : List Term) : 1 + 2 * x.length ≤ size x := by
  induction x with
  | nil => simp [size_nil]
  | cons t x ih => rw [size_cons]; have := size_pos t.f1; simp; omega
theorem size_app (x y : List Term) : size (x ++ y) + 1 = size x + size y := by
  simp only [size_eq, fL_app, List.length_append]; omega
mutual
def mT : Term → Int
  | ⟨c, e⟩ => max c (mL e)
def mL : List Term → Int
  | [] => 0
  | t :: x => max (mT t) (mL x)
end
theorem mT_eq (t : Term) : mT t = max t.f0 (mL t.f1) := by cases t; rw [mT]
theorem mL_nil : mL [] = 0 := by rw [mL]
theorem mL_cons (t : Term) (x : List Term) : mL (t :: x) = max (max t.f0 (mL t.f1)) (mL x) := by rw [mL, mT_eq]
theorem mL_pos (x : List Term) : 0 ≤ mL x := by
  induction x with
  | nil => simp [mL_nil]
  | cons t x ih => rw [mL_cons]; omega
theorem mL_app (x y : List Term) : mL (x ++ y) = max (mL x) (mL y) := by
  induction x with
  | nil => rw [mL_nil, List.nil_append]; have := mL_pos y; omega
  | cons t x ih => simp only [List.cons_append, mL_cons, ih]; omega
theorem mL_mem {x : List Term} {t : Term} (h : t ∈ x) : t.f0 ≤ mL x ∧ mL t.f1 ≤ mL x := by
  induction x with
  | nil => cases h
  | cons s x ih =>
    rw [mL_cons]
    rcases List.mem_cons.1 h with h | h
    · rw [h]; omega
    · have := ih h; omega
mutual
def cT : Term → Term → Int
  | ⟨c, e⟩, ⟨d, f⟩ => if cL e f = 0 then (if c < d then -1 else if c > d then 1 else 0) else cL e f
def cL : List Term → List Term → Int
  | [], [] => 0
  | [], _ :: _ => -1
  | _ :: _, [] => 1
  | a :: x, b :: y => if cT a b = 0 then cL x y else cT a b
end
theorem cT_eq (a b : Term) : cT a b = if cL a.f1 b.f1 = 0 then (if a.f0 < b.f0 then -1 else if a.f0 > b.f0 then 1 else 0) else cL a.f1 b.f1 := by cases a; cases b; rw [cT]
theorem cL_nn : cL [] [] = 0 := by rw [cL]
theorem cL_nc (b : Term) (y : List Term) : cL [] (b :: y) = -1 := by rw [cL]
theorem cL_cn (a : Term) (x : List Term) : cL (a :: x) [] = 1 := by rw [cL]
theorem cL_cc (a b : Term) (x y : List Term) : cL (a :: x) (b :: y) = if cT a b = 0 then cL x y else cT a b := by rw [cL]
/-- A property of trees, by their parts. -/
theorem tree_ind {P : List Term → Prop} (h0 : P []) (h1 : ∀ t x, P t.f1 → P x → P (t :: x)) : ∀ x, P x
  | [] => h0
  | ⟨c, e⟩ :: x => h1 ⟨c, e⟩ x (tree_ind h0 h1 e) (tree_ind h0 h1 x)
termination_by x => SizeOf.sizeOf x
theorem c_range (x : List Term) : ∀ y, cL x y = -1 ∨ cL x y = 0 ∨ cL x y = 1 := by
  refine tree_ind (P := fun x => ∀ y, cL x y = -1 ∨ cL x y = 0 ∨ cL x y = 1) ?_ ?_ x
  · intro y
    cases y with
    | nil => rw [cL_nn]; omega
    | cons b y => rw [cL_nc]; omega
  · intro t x h1 h2 y
    cases y with
    | nil => rw [cL_cn]; omega
    | cons b y =>
      rw [cL_cc, cT_eq]
      have a1 := h1 b.f1
      have a2 := h2 y
      by_cases e : cL t.f1 b.f1 = 0
      · rw [if_pos e]
        rcases Int.lt_trichotomy t.f0 b.f0 with h | h | h
        · simp [h]
        · simpa [h] using a2
        · have : ¬ t.f0 < b.f0 := by omega
          simp [h, this]
      · rw [if_neg e, if_neg e]
        exact a1
theorem c_refl (x : List Term) : cL x x = 0 := by
  refine tree_ind (P := fun x => cL x x = 0) cL_nn ?_ x
  intro t x h1 h2
  rw [cL_cc, cT_eq, h1, h2]
  simp
theorem c_eq (x : List Term) : ∀ y, cL x y = 0 → x = y := by
  refine tree_ind (P := fun x => ∀ y, cL x y = 0 → x = y) ?_ ?_ x
  · intro y h
    cases y with
    | nil => rfl
    | cons b y => rw [cL_nc] at h; omega
  · intro t x h1 h2 y h
    cases y with
    | nil => rw [cL_cn] at h; omega
    | cons b y =>
      rw [cL_cc, cT_eq] at h
      by_cases e : cL t.f1 b.f1 = 0
      · have e1 := h1 _ e
        rw [if_pos e] at h
        have : t.f0 = b.f0 := by
          apply Classical.byContradiction
          intro hc
          rcases Int.lt_or_gt_of_ne hc with hl | hl
          · simp [hl] at h
          · have : ¬ t.f0 < b.f0 := by omega
            simp [hl, this] at h
        have h3 : cL x y = 0 := by simpa [this] using h
        rw [h2 _ h3]
        cases t; cases b; simp_all
      · rw [if_neg e, if_neg e] at h
        exact absurd h e
theorem c_swap (x : List Term) : ∀ y, cL y x = - cL x y := by
  refine tree_ind (P := fun x => ∀ y, cL y x = - cL x y) ?_ ?_ x
  · intro y
    cases y with
    | nil => rw [cL_nn]; omega
    | cons b y => rw [cL_nc, cL_cn]; omega
  · intro t x h1 h2 y
    cases y with
    | nil => rw [cL_cn, cL_nc]
    | cons b y =>
      rw [cL_cc, cL_cc, cT_eq, cT_eq, h1 b.f1, h2 y]
      by_cases e : cL t.f1 b.f1 = 0
      · rw [if_pos (show - cL t.f1 b.f1 = 0 by omega), if_pos e]
        rcases Int.lt_trichotomy t.f0 b.f0 with h | h | h
        · have : ¬ b.f0 < t.f0 := by omega
          simp [h, this]
        · simp [h]
        · have : ¬ t.f0 < b.f0 := by omega
          simp [h, this]
      · rw [if_neg (show ¬ - cL t.f1 b.f1 = 0 by omega), if_neg e, if_neg (show ¬ - cL t.f1 b.f1 = 0 by omega), if_neg e]
/-- Less. -/
def Lt (x y : List Term) : Prop := cL x y = -1
theorem lt_cc {a b : Term} {x y : List Term} : Lt (a :: x) (b :: y) ↔ Lt a.f1 b.f1 ∨ (a.f1 = b.f1 ∧ (a.f0 < b.f0 ∨ (a.f0 = b.f0 ∧ Lt x y))) := by
  unfold Lt
  rw [cL_cc, cT_eq]
  by_cases e : cL a.f1 b.f1 = 0
  · have e1 := c_eq _ _ e
    rw [if_pos e]
    rcases Int.lt_trichotomy a.f0 b.f0 with h | h | h
    · simp [h, e1]
    · have := c_refl b.f1
      simp [h, e1, this]
    · have h' : ¬ a.f0 < b.f0 := by omega
      have h'' : ¬ a.f0 = b.f0 := by omega
      have := c_refl b.f1
      simp [h, h', h'', e1, this]
  · rw [if_neg e, if_neg e]
    have : a.f1 ≠ b.f1 := fun h => e (by rw [h]; exact c_refl _)
    simp [this]
theorem lt_irrefl (x : List Term) : ¬ Lt x x := by unfold Lt; rw [c_refl]; omega
theorem lt_trans (x : List Term) : ∀ y z, Lt x y → Lt y z → Lt x z := by
  refine tree_ind (P := fun x => ∀ y z, Lt x y → Lt y z → Lt x z) ?_ ?_ x
  · intro y z h1 h2
    cases z with
    | nil => cases y with
      | nil => exact h2
      | cons b y => unfold Lt at h2; rw [cL_cn] at h2; omega
    | cons c z => exact cL_nc _ _
  · intro t x i1 i2 y z h1 h2
    cases y with
    | nil => unfold Lt at h1; rw [cL_cn] at h1; omega
    | cons b y =>
      cases z with
      | nil => unfold Lt at h2; rw [cL_cn] at h2; omega
      | cons c z =>
        rw [lt_cc] at h1 h2 ⊢
        rcases h1 with h1 | ⟨h1, h1'⟩
        · rcases h2 with h2 | ⟨h2, _⟩
          · exact .inl (i1 _ _ h1 h2)
          · exact .inl (by rw [← h2]; exact h1)
        · rcases h2 with h2 | ⟨h2, h2'⟩
          · exact .inl (by rw [h1]; exact h2)
          · refine .inr ⟨h1.trans h2, ?_⟩
            rcases h1' with h1' | ⟨h1', h3⟩
            · rcases h2' with h2' | ⟨h2', h4⟩ <;> exact .inl (by omega)
            · rcases h2' with h2' | ⟨h2', h4⟩
              · exact .inl (by omega)
              · exact .inr ⟨by omega, i2 _ _ h3 h4⟩
theorem lt_asymm {x y : List Term} (h : Lt x y) : ¬ Lt y x := fun h2 => lt_irrefl x (lt_trans _ _ _ h h2)
theorem c_lt {x y : List Term} : cL x y = -1 ↔ Lt x y := Iff.rfl
theorem c_gt {x y : List Term} : cL x y = 1 ↔ Lt y x := by unfold Lt; rw [c_swap x y]; omega
theorem c_zero {x y : List Term} : cL x y = 0 ↔ x = y := ⟨c_eq x y, fun h => by rw [h]; exact c_refl _⟩
theorem c_cases (x y : List Term) : (cL x y = -1 ∧ Lt x y) ∨ (cL x y = 0 ∧ x = y) ∨ (cL x y = 1 ∧ Lt y x) := by
  rcases c_range x y with h | h | h
  · exact .inl ⟨h, h⟩
  · exact .inr (.inl ⟨h, c_eq _ _ h⟩)
  · exact .inr (.inr ⟨h, c_gt.1 h⟩)
theorem not_lt_nil (x : List Term) : ¬ Lt x [] := by
  unfold Lt
  cases x with
  | nil => rw [cL_nn]; omega
  | cons t x => rw [cL_cn]; omega
theorem nil_lt (t : Term) (x : List Term) : Lt [] (t :: x) := cL_nc _ _
/-! Ordinals in normal form. -/
mutual
def vT : Term → Prop
  | ⟨c, e⟩ => 1 ≤ c ∧ vL e
def vL : List Term → Prop
  | [] => True
  | t :: x => vT t ∧ (∀ u ∈ x, Lt u.f1 t.f1) ∧ vL x
end
theorem vT_eq (t : Term) : vT t ↔ 1 ≤ t.f0 ∧ vL t.f1 := by cases t; rw [vT]
theorem vL_nil : vL [] := by rw [vL]; trivial
theorem vL_cons (t : Term) (x : List Term) : vL (t :: x) ↔ (1 ≤ t.f0 ∧ vL t.f1) ∧ (∀ u ∈ x, Lt u.f1 t.f1) ∧ vL x := by rw [vL, vT_eq]
theorem vL_one (t : Term) : vL [t] ↔ 1 ≤ t.f0 ∧ vL t.f1 := by
  rw [vL_cons]
  exact ⟨fun h => h.1, fun h => ⟨h, (by intro u hu; cases hu), vL_nil⟩⟩
theorem vL_app (x y : List Term) : vL (x ++ y) ↔ vL x ∧ vL y ∧ (∀ t ∈ x, ∀ u ∈ y, Lt u.f1 t.f1) := by
  induction x with
  | nil => simp [vL_nil]
  | cons t x ih =>
    rw [List.cons_append, vL_cons, vL_cons, ih]
    constructor
    · rintro ⟨a, b, c, d, e⟩
      exact ⟨⟨a, fun u hu => b u (List.mem_append_left _ hu), c⟩, d, fun s hs u hu => by
        rcases List.mem_cons.1 hs with h | h
        · rw [h]; exact b u (List.mem_append_right _ hu)
        · exact e s h u hu⟩
    · rintro ⟨⟨a, b, c⟩, d, e⟩
      exact ⟨a, fun u hu => by
        rcases List.mem_append.1 hu with h | h
        · exact b u h
        · exact e t List.mem_cons_self u h, c, d, fun s hs u hu => e s (List.mem_cons_of_mem _ hs) u hu⟩
theorem vL_mem {x : List Term} (h : vL x) {t : Term} (ht : t ∈ x) : 1 ≤ t.f0 ∧ vL t.f1 := by
  induction x with
  | nil => cases ht
  | cons u x ih =>
    rw [vL_cons] at h
    rcases List.mem_cons.1 ht with h1 | h1
    · rw [h1]; exact h.1
    · exact ih h.2.2 h1
/-! Trees read off rows. -/
def pv (p : Option (List Term)) (e : List Term) : Bool := match p with
  | none => false
  | some q => decide (cL e q ≥ 0)
def tO : Nat → Nat → Option (List Term) → List Int → Option (List Term × List Int)
  | _, 0, _, l => some ([], l)
  | f + 1, n + 1, p, c :: m :: l => if c < 1 ∨ c > 9999 ∨ m < 0 ∨ m > 60 then none else match tO f m.toNat none l with
    | none => none
    | some (e, r) => if pv p e = true then none else match tO f n (some e) r with
      | none => none
      | some (x, r') => some (⟨c, e⟩ :: x, r')
  | _, _ + 1, _, _ => none
theorem tO_sound : ∀ (f n : Nat) (p : Option (List Term)) (l : List Int) {x : List Term} {r : List Int}, tO f n p l = some (x, r) →
    x.length = n ∧ l = fL x ++ r ∧ vL x ∧ mL x ≤ 9999 ∧ ∀ q, p = some q → ∀ t ∈ x, Lt t.f1 q
  | f, 0, p, l, x, r, h => by
    unfold tO at h
    simp only [Option.some.injEq, Prod.mk.injEq] at h
    obtain ⟨rfl, rfl⟩ := h
    exact ⟨rfl, by rw [fL_nil]; rfl, vL_nil, by rw [mL_nil]; omega, fun q _ t ht => by cases ht⟩
  | 0, n + 1, p, l, x, r, h => by cases l with
    | nil => simp [tO] at h
    | cons c l => cases l <;> simp [tO] at h
  | f + 1, n + 1, p, [], x, r, h => by simp [tO] at h
  | f + 1, n + 1, p, [c], x, r, h => by simp [tO] at h
  | f + 1, n + 1, p, c :: m :: l, x, r, h => by
    rw [tO] at h
    split at h
    · cases h
    · rename_i hb
      split at h
      · cases h
      · rename_i e r1 h1
        split at h
        · cases h
        · rename_i hq
          split at h
          · cases h
          · rename_i x' r2 h2
            simp only [Option.some.injEq, Prod.mk.injEq] at h
            obtain ⟨rfl, rfl⟩ := h
            obtain ⟨a1, a2, a3, a4, a5⟩ := tO_sound f _ _ l h1
            obtain ⟨b1, b2, b3, b4, b5⟩ := tO_sound f n _ r1 h2
            have hm : m = (e.length : Int) := by omega
            refine ⟨by simp [b1], ?_, ?_, ?_, ?_⟩
            · rw [fL_cons, a2, b2, hm]
              simp [row]
            · rw [vL_cons]
              exact ⟨⟨by show 1 ≤ c; omega, a3⟩, b5 e rfl, b3⟩
            · rw [mL_cons]
              show max (max c (mL e)) (mL x') ≤ 9999
              omega
            · intro q hp t ht
              subst hp
              have hlt : Lt e q := by
                have := c_range e q
                unfold Lt
                simp only [pv, decide_eq_true_eq] at hq
                omega
              rcases List.mem_cons.1 ht with h | h
              · rw [h]; exact hlt
              · exact lt_trans _ _ _ (b5 e rfl t h) hlt
theorem tO_complete : ∀ (f : Nat) (x : List Term) (p : Option (List Term)) (r : List Int), vL x → mL x ≤ 9999 → size x ≤ 61 → (∀ q, p = some q → ∀ t ∈ x, Lt t.f1 q) → (fL x).length ≤ f → tO f x.length p (fL x ++ r) = some (x, r)
  | f, [], p, r, _, _, _, _, _ => by simp [fL_nil, tO]
  | 0, t :: x, p, r, _, _, _, _, h => by rw [fL_cons] at h; simp at h
  | f + 1, t :: x, p, r, hv, hm, hs, hp, h => by
    rw [vL_cons] at hv
    rw [mL_cons] at hm
    rw [size_cons] at hs
    rw [fL_cons] at h ⊢
    have hz := size_pos x
    have hz2 := size_len t.f1
    have hz3 := size_eq t.f1
    have hz4 := size_eq x
    rw [List.length_cons, List.length_append] at h
    have hr : (row t.f1).length = size t.f1 := rfl
    simp only [row, List.cons_append, List.length_cons, List.append_assoc]
    rw [tO, if_neg (by omega), Int.toNat_natCast, tO_complete f t.f1 none (fL x ++ r) hv.1.2 (by omega) (by omega) (fun q h => by cases h) (by omega)]
    have hpp : ¬ pv p t.f1 = true := by
      cases p with
      | none => exact Bool.false_ne_true
      | some q =>
        have := hp q rfl t List.mem_cons_self
        unfold Lt at this
        simp only [pv, decide_eq_true_eq]
        omega
    simp only []
    rw [if_neg hpp, tO_complete f x (some t.f1) r hv.2.2 (by omega) (by omega) (fun q h => by cases h; exact hv.2.1) (by omega)]
    cases t
    rfl
theorem tO_fuel : ∀ (f g n : Nat) (p : Option (List Term)) (l : List Int), l.length ≤ f → l.length ≤ g → tO f n p l = tO g n p l
  | f, g, 0, p, l, _, _ => by simp [tO]
  | 0, 0, n + 1, p, l, _, _ => rfl
  | 0, g + 1, n + 1, p, l, h, _ => by
    obtain rfl : l = [] := List.eq_nil_of_length_eq_zero (by omega)
    simp [tO]
  | f + 1, 0, n + 1, p, l, _, h => by
    obtain rfl : l = [] := List.eq_nil_of_length_eq_zero (by omega)
    simp [tO]
  | f + 1, g + 1, n + 1, p, [], _, _ => by simp [tO]
  | f + 1, g + 1, n + 1, p, [c], _, _ => by simp [tO]
  | f + 1, g + 1, n + 1, p, c :: m :: l, hf, hg => by
    simp only [List.length_cons] at hf hg
    rw [tO, tO]
    split
    · rfl
    · rw [tO_fuel f g m.toNat none l (by omega) (by omega)]
      cases h : tO g m.toNat none l with
      | none => rfl
      | some q =>
        obtain ⟨e, r⟩ := q
        have := congrArg List.length (tO_sound g _ _ l h).2.1
        rw [List.length_append] at this
        simp only
        rw [tO_fuel f g n (some e) r (by omega) (by omega)]
def tO1 (l : List Int) : Option (List Term × List Int) := match l with
  | [] => none
  | m :: l' => if m < 0 ∨ m > 60 then none else tO l'.length m.toNat none l'
theorem tO1_sound {l : List Int} {x : List Term} {r : List Int} (h : tO1 l = some (x, r)) : l = row x ++ r ∧ vL x ∧ mL x ≤ 9999 := by
  cases l with
  | nil => simp [tO1] at h
  | cons m l =>
    simp only [tO1] at h
    split at h
    · cases h
    · obtain ⟨a1, a2, a3, a4, _⟩ := tO_sound _ _ _ l h
      refine ⟨?_, a3, a4⟩
      rw [a2, row, a1, List.cons_append]
      congr 1
      omega
theorem tO1_complete {x : List Term} (r : List Int) (hv : vL x) (hm : mL x ≤ 9999) (hs : size x ≤ 61) : tO1 (row x ++ r) = some (x, r) := by
  have := size_len x
  simp only [row, List.cons_append, tO1]
  rw [if_neg (by omega), Int.toNat_natCast]
  exact tO_complete _ x none r hv hm (by omega) (fun q h => by cases h) (by simp)
theorem tO_step {f n : Nat} {p : Option (List Term)} {c : Int} {l : List Int} (hf : l.length ≤ f) : tO (f + 1) (n + 1) p (c :: l) = if c < 1 ∨ c > 9999 then none else match tO1 l with
    | none => none
    | some (e, r) => if pv p e = true then none else match tO r.length n (some e) r with
      | none => none
      | some (x, r') => some (⟨c, e⟩ :: x, r') := by
  cases l with
  | nil => simp [tO, tO1]
  | cons m l =>
    simp only [List.length_cons] at hf
    rw [tO]
    simp only [tO1]
    by_cases h1 : c < 1 ∨ c > 9999
    · rw [if_pos (by omega), if_pos h1]
    · rw [if_neg h1]
      by_cases h2 : m < 0 ∨ m > 60
      · rw [if_pos (by omega), if_pos h2]
      · rw [if_neg (by omega), if_neg h2, tO_fuel f l.length m.toNat none l (by omega) (by omega)]
        cases h : tO l.length m.toNat none l with
        | none => rfl
        | some q =>
          obtain ⟨e, r⟩ := q
          have := congrArg List.length (tO_sound _ _ _ l h).2.1
          rw [List.length_append] at this
          simp only
          rw [tO_fuel f r.length n (some e) r (by omega) (by omega)]
/-- A valid row. -/
def OV (r : List Int) : Bool := decide (1 ≤ r.length ∧ r.length ≤ 60) && match tO1 r with
  | some (_, r') => r'.isEmpty
  | none => false
/-- A tree whose row is valid. -/
structure Fit (x : List Term) : Prop where
  v : vL x
  m : mL x ≤ 9999
  s : size x ≤ 60
theorem OV_row {x : List Term} (h : vL x) : OV (row x) = decide (mL x ≤ 9999 ∧ size x ≤ 60) := by
  have hz := size_pos x
  have hr : (row x).length = size x := rfl
  by_cases hf : mL x ≤ 9999 ∧ size x ≤ 60
  · rw [decide_eq_true hf]
    unfold OV
    have := tO1_complete [] h hf.1 (by omega)
    rw [List.append_nil] at this
    rw [this, hr, decide_eq_true (by omega)]
    rfl
  · rw [decide_eq_false hf]
    unfold OV
    by_cases hl : size x ≤ 60
    · rw [hr, decide_eq_true (by omega), Bool.true_and]
      cases ht : tO1 (row x) with
      | none => rfl
      | some q =>
        obtain ⟨y, r⟩ := q
        obtain ⟨a1, a2, a3⟩ := tO1_sound ht
        cases r with
        | cons _ _ => rfl
        | nil =>
          exfalso
          rw [List.append_nil] at a1
          have hys : size y = size x := by unfold size; rw [a1]
          have h1 := tO1_complete (x := y) [] a2 a3 (by omega)
          have h2 : mL x ≤ 9999 := by
            -- rows tell trees
            have : ∀ (x : List Term) (y : List Term) (r s : List Int), row x ++ r = row y ++ s → x = y ∧ r = s := by
              intro x
              refine tree_ind (P := fun x => ∀ y r s, row x ++ r = row y ++ s → x = y ∧ r = s) ?_ ?_ x
              · intro y r s h
                cases y with
                | nil => exact ⟨rfl, by simpa [row, fL_nil] using h⟩
                | cons b y => simp only [row, List.length_nil, List.length_cons, List.cons_append, List.cons.injEq] at h; omega
              · intro t x i1 i2 y r s h
                cases y with
                | nil => simp only [row, List.length_nil, List.length_cons, List.cons_append, List.cons.injEq] at h; omega
                | cons b y =>
                  simp only [row, List.length_cons, List.cons_append, List.cons.injEq, fL_cons, List.append_assoc] at h
                  obtain ⟨h0, h1, h2⟩ := h
                  have h3 := i1 b.f1 (fL x ++ r) (fL y ++ s) (by simp only [row, List.cons_append]; rw [h2.1, h2.2])
                  have h4 := i2 y r s (by simp only [row, List.cons_append]; rw [h3.2]; congr 1; omega)
                  refine ⟨?_, h4.2⟩
                  cases t; cases b; simp_all
            have := (this x y [] [] (by simpa using a1)).1
            rw [this]; exact a3
          exact hf ⟨h2, hl⟩
    · rw [hr, decide_eq_false (by omega), Bool.false_and]
theorem OV_tree {r : List Int} (h : OV r = true) : ∃ x, r = row x ∧ Fit x ∧ tO1 r = some (x, []) := by
  unfold OV at h
  rw [Bool.and_eq_true, decide_eq_true_eq] at h
  obtain ⟨h1, h2⟩ := h
  cases ht : tO1 r with
  | none => rw [ht] at h2; cases h2
  | some q =>
    obtain ⟨x, r'⟩ := q
    rw [ht] at h2
    obtain ⟨a1, a2, a3⟩ := tO1_sound ht
    cases r' with
    | cons _ _ => cases h2
    | nil =>
      rw [List.append_nil] at a1
      exact ⟨x, a1, ⟨a2, a3, by unfold size; rw [← a1]; exact h1.2⟩, rfl⟩
theorem Fit.ov {x : List Term} (h : Fit x) : OV (row x) = true := by rw [OV_row h.v]; exact decide_eq_true ⟨h.m, h.s⟩
/-! Natural sums. -/
def natO : List Term → List Term → List Term
  | [], y => y
  | a :: x, [] => a :: x
  | a :: x, b :: y => if cL a.f1 b.f1 = 1 then a :: natO x (b :: y) else if cL a.f1 b.f1 = -1 then b :: natO (a :: x) y else ⟨a.f0 + b.f0, a.f1⟩ :: natO x y
termination_by x y => x.length + y.length
theorem nat_nl (y : List Term) : natO [] y = y := by rw [natO]
theorem nat_nr (x : List Term) : natO x [] = x := by cases x <;> rw [natO]
/-- How often an exponent comes. -/
def co : List Term → List Term → Int
  | [], _ => 0
  | t :: x, e => (if cL t.f1 e = 0 then t.f0 else 0) + co x e
theorem co_app (x y e : List Term) : co (x ++ y) e = co x e + co y e := by
  induction x with
  | nil => simp [co]
  | cons t x ih => simp only [List.cons_append, co, ih]; omega
/-- How the two first terms lie decides. -/
theorem nat_ind {P : List Term → List Term → Prop} (h1 : ∀ y, P [] y) (h2 : ∀ x, P x []) (h3 : ∀ a x b y, Lt b.f1 a.f1 → P x (b :: y) → P (a :: x) (b :: y)) (h4 : ∀ a x b y, Lt a.f1 b.f1 → P (a :: x) y → P (a :: x) (b :: y)) (h5 : ∀ a x b y, a.f1 = b.f1 → P x y → P (a :: x) (b :: y)) : ∀ x y, P x y
  | [], y => h1 y
  | a :: x, [] => h2 _
  | a :: x, b :: y => by
    rcases c_cases a.f1 b.f1 with ⟨_, h⟩ | ⟨_, h⟩ | ⟨_, h⟩
    · exact h4 a x b y h (nat_ind h1 h2 h3 h4 h5 (a :: x) y)
    · exact h5 a x b y h (nat_ind h1 h2 h3 h4 h5 x y)
    · exact h3 a x b y h (nat_ind h1 h2 h3 h4 h5 x (b :: y))
termination_by x y => x.length + y.length
theorem nat_gt {a b : Term} (x y : List Term) (h : Lt b.f1 a.f1) : natO (a :: x) (b :: y) = a :: natO x (b :: y) := by
  rw [natO, if_pos (c_gt.2 h)]
theorem nat_lt {a b : Term} (x y : List Term) (h : Lt a.f1 b.f1) : natO (a :: x) (b :: y) = b :: natO (a :: x) y := by
  have := c_lt.2 h
  rw [natO, if_neg (by omega), if_pos this]
theorem nat_eq {a b : Term} (x y : List Term) (h : a.f1 = b.f1) : natO (a :: x) (b :: y) = ⟨a.f0 + b.f0, a.f1⟩ :: natO x y := by
  have := c_zero.2 h
  rw [natO, if_neg (by omega), if_neg (by omega)]
theorem co_nat (x y e : List Term) : co (natO x y) e = co x e + co y e := by
  refine nat_ind (P := fun x y => co (natO x y) e = co x e + co y e) ?_ ?_ ?_ ?_ ?_ x y
  · intro y; rw [nat_nl]; simp [co]
  · intro x; rw [nat_nr]; simp [co]
  · intro a x b y h ih; rw [nat_gt x y h]; simp only [co] at ih ⊢; omega
  · intro a x b y h ih; rw [nat_lt x y h]; simp only [co] at ih ⊢; omega
  · intro a x b y h ih
    rw [nat_eq x y h]
    simp only [co] at ih ⊢
    rw [ih, h]
    split <;> omega
theorem nat_mem (x y : List Term) : ∀ t ∈ natO x y, ∃ u, (u ∈ x ∨ u ∈ y) ∧ u.f1 = t.f1 := by
  refine nat_ind (P := fun x y => ∀ t ∈ natO x y, ∃ u, (u ∈ x ∨ u ∈ y) ∧ u.f1 = t.f1) ?_ ?_ ?_ ?_ ?_ x y
  · intro y t ht; rw [nat_nl] at ht; exact ⟨t, .inr ht, rfl⟩
  · intro x t ht; rw [nat_nr] at ht; exact ⟨t, .inl ht, rfl⟩
  · intro a x b y h ih t ht
    rw [nat_gt x y h] at ht
    rcases List.mem_cons.1 ht with h1 | h1
    · exact ⟨a, .inl List.mem_cons_self, by rw [h1]⟩
    · obtain ⟨u, hu, he⟩ := ih t h1
      exact ⟨u, hu.imp (List.mem_cons_of_mem _) id, he⟩
  · intro a x b y h ih t ht
    rw [nat_lt x y h] at ht
    rcases List.mem_cons.1 ht with h1 | h1
    · exact ⟨b, .inr List.mem_cons_self, by rw [h1]⟩
    · obtain ⟨u, hu, he⟩ := ih t h1
      exact ⟨u, hu.imp id (List.mem_cons_of_mem _), he⟩
  · intro a x b y h ih t ht
    rw [nat_eq x y h] at ht
    rcases List.mem_cons.1 ht with h1 | h1
    · exact ⟨a, .inl List.mem_cons_self, by rw [h1]⟩
    · obtain ⟨u, hu, he⟩ := ih t h1
      exact ⟨u, hu.imp (List.mem_cons_of_mem _) (List.mem_cons_of_mem _), he⟩
theorem nat_v (x y : List Term) : vL x → vL y → vL (natO x y) := by
  refine nat_ind (P := fun x y => vL x → vL y → vL (natO x y)) ?_ ?_ ?_ ?_ ?_ x y
  · intro y _ h; rw [nat_nl]; exact h
  · intro x h _; rw [nat_nr]; exact h
  · intro a x b y h ih hx hy
    rw [nat_gt x y h]
    rw [vL_cons] at hx ⊢
    refine ⟨hx.1, fun t ht => ?_, ih hx.2.2 hy⟩
    obtain ⟨u, hu, he⟩ := nat_mem _ _ t ht
    rw [← he]
    rcases hu with hu | hu
    · exact hx.2.1 u hu
    · rw [vL_cons] at hy
      rcases List.mem_cons.1 hu with hu | hu
      · rw [hu]; exact h
      · exact lt_trans _ _ _ (hy.2.1 u hu) h
  · intro a x b y h ih hx hy
    rw [nat_lt x y h]
    rw [vL_cons] at hy ⊢
    refine ⟨hy.1, fun t ht => ?_, ih hx hy.2.2⟩
    obtain ⟨u, hu, he⟩ := nat_mem _ _ t ht
    rw [← he]
    rcases hu with hu | hu
    · rw [vL_cons] at hx
      rcases List.mem_cons.1 hu with hu | hu
      · rw [hu]; exact h
      · exact lt_trans _ _ _ (hx.2.1 u hu) h
    · exact hy.2.1 u hu
  · intro a x b y h ih hx hy
    rw [nat_eq x y h]
    rw [vL_cons] at hx hy ⊢
    refine ⟨⟨by show 1 ≤ a.f0 + b.f0; omega, hx.1.2⟩, fun t ht => ?_, ih hx.2.2 hy.2.2⟩
    obtain ⟨u, hu, he⟩ := nat_mem _ _ t ht
    rw [← he]
    rcases hu with hu | hu
    · exact hx.2.1 u hu
    · show Lt u.f1 a.f1
      rw [h]; exact hy.2.1 u hu
theorem nat_size (x y : List Term) : size x ≤ size (natO x y) ∧ size y ≤ size (natO x y) ∧ size (natO x y) + 1 ≤ size x + size y := by
  refine nat_ind (P := fun x y => size x ≤ size (natO x y) ∧ size y ≤ size (natO x y) ∧ size (natO x y) + 1 ≤ size x + size y) ?_ ?_ ?_ ?_ ?_ x y
  · intro y; rw [nat_nl, size_nil]; have := size_pos y; omega
  · intro x; rw [nat_nr, size_nil]; have := size_pos x; omega
  · intro a x b y h ih; rw [nat_gt x y h, size_cons, size_cons]; have := size_cons b y; omega
  · intro a x b y h ih; rw [nat_lt x y h, size_cons, size_cons]; have := size_cons a x; have := size_cons b y; rw [size_cons] at ih; omega
  · intro a x b y h ih; rw [nat_eq x y h, size_cons, size_cons, size_cons, h]; omega
theorem nat_m (x y : List Term) : vL x → vL y → mL x ≤ mL (natO x y) ∧ mL y ≤ mL (natO x y) ∧ mL (natO x y) ≤ mL x + mL y := by
  refine nat_ind (P := fun x y => vL x → vL y → mL x ≤ mL (natO x y) ∧ mL y ≤ mL (natO x y) ∧ mL (natO x y) ≤ mL x + mL y) ?_ ?_ ?_ ?_ ?_ x y
  · intro y _ _; rw [nat_nl, mL_nil]; have := mL_pos y; omega
  · intro x _ _; rw [nat_nr, mL_nil]; have := mL_pos x; omega
  · intro a x b y h ih hx hy; rw [nat_gt x y h, mL_cons, mL_cons]; rw [vL_cons] at hx; have := ih hx.2.2 hy; have := mL_pos (b :: y); have := mL_pos a.f1; omega
  · intro a x b y h ih hx hy; rw [nat_lt x y h, mL_cons b, mL_cons b]; rw [vL_cons] at hy; have := ih hx hy.2.2; have := mL_pos (a :: x); have := mL_pos b.f1; omega
  · intro a x b y h ih hx hy
    rw [nat_eq x y h, mL_cons, mL_cons, mL_cons, ← h]
    rw [vL_cons] at hx hy
    have := ih hx.2.2 hy.2.2
    have := mL_pos a.f1
    show max (max a.f0 (mL a.f1)) (mL x) ≤ max (max (a.f0 + b.f0) (mL a.f1)) (mL (natO x y)) ∧ max (max b.f0 (mL a.f1)) (mL y) ≤ max (max (a.f0 + b.f0) (mL a.f1)) (mL (natO x y)) ∧ max (max (a.f0 + b.f0) (mL a.f1)) (mL (natO x y)) ≤ max (max a.f0 (mL a.f1)) (mL x) + max (max b.f0 (mL a.f1)) (mL y)
    omega
theorem co_zero {x e : List Term} (h : ∀ t ∈ x, t.f1 ≠ e) : co x e = 0 := by
  induction x with
  | nil => rfl
  | cons t x ih =>
    rw [co, ih (fun u hu => h u (List.mem_cons_of_mem _ hu)), if_neg (fun hc => h t List.mem_cons_self (c_eq _ _ hc))]
    rfl
theorem co_pos {x : List Term} (h : vL x) (e : List Term) : 0 ≤ co x e := by
  induction x with
  | nil => exact Int.le_refl _
  | cons t x ih =>
    rw [vL_cons] at h
    have := ih h.2.2
    rw [co]
    split <;> omega
theorem co_ne {x e : List Term} (h : co x e ≠ 0) : ∃ t ∈ x, t.f1 = e := by
  apply Classical.byContradiction
  intro hc
  exact h (co_zero fun t ht he => hc ⟨t, ht, he⟩)
theorem co_head {t : Term} {x : List Term} (h : vL (t :: x)) : co (t :: x) t.f1 = t.f0 := by
  rw [vL_cons] at h
  rw [co, if_pos (c_refl _), co_zero fun u hu he => lt_irrefl t.f1 (by have := h.2.1 u hu; rwa [he] at this)]
  omega
theorem co_above {t : Term} {x e : List Term} (h : vL (t :: x)) (he : Lt t.f1 e) : co (t :: x) e = 0 := by
  rw [vL_cons] at h
  refine co_zero fun u hu hc => ?_
  rcases List.mem_cons.1 hu with hu | hu
  · rw [hu] at hc; rw [hc] at he; exact lt_irrefl _ he
  · have := h.2.1 u hu
    rw [hc] at this
    exact lt_asymm he this
theorem lt_co1 : ∀ x y, vL x → vL y → Lt x y → ∃ e, co x e < co y e ∧ ∀ f, Lt e f → co x f = co y f
  | x, [], _, _, h => absurd h (not_lt_nil x)
  | [], b :: y, _, hy, _ => ⟨b.f1, by
      rw [co_head hy, co]
      rw [vL_cons] at hy
      omega, fun f hf => by rw [co_above hy hf]; rfl⟩
  | a :: x, b :: y, hx, hy, h => by
    rcases lt_cc.1 h with h | ⟨h1, h | ⟨h2, h3⟩⟩
    · refine ⟨b.f1, ?_, fun f hf => by rw [co_above hy hf, co_above hx (lt_trans _ _ _ h hf)]⟩
      rw [co_head hy, co_above hx h]
      rw [vL_cons] at hy
      omega
    · refine ⟨b.f1, ?_, fun f hf => by rw [co_above hy hf, co_above hx (by rw [h1]; exact hf)]⟩
      rw [co_head hy, ← h1, co_head hx]
      exact h
    · have hx' := hx
      have hy' := hy
      rw [vL_cons] at hx hy
      obtain ⟨e, e1, e2⟩ := lt_co1 x y hx.2.2 hy.2.2 h3
      refine ⟨e, by simp only [co, h1, h2]; omega, fun f hf => by simp only [co, h1, h2, e2 f hf]⟩
theorem co_lt {x y : List Term} (hx : vL x) (hy : vL y) {e : List Term} (h1 : co x e < co y e) (h2 : ∀ f, Lt e f → co x f = co y f) : Lt x y := by
  rcases c_cases x y with ⟨_, h⟩ | ⟨_, h⟩ | ⟨_, h⟩
  · exact h
  · rw [h] at h1; omega
  · exfalso
    obtain ⟨f, f1, f2⟩ := lt_co1 y x hy hx h
    rcases c_cases e f with ⟨_, h⟩ | ⟨_, h⟩ | ⟨_, h⟩
    · have := h2 f h; omega
    · rw [h] at h1; omega
    · have := f2 e h; omega
theorem co_ext {x y : List Term} (hx : vL x) (hy : vL y) (h : ∀ e, co x e = co y e) : x = y := by
  rcases c_cases x y with ⟨_, h1⟩ | ⟨_, h1⟩ | ⟨_, h1⟩
  · obtain ⟨e, h2, _⟩ := lt_co1 x y hx hy h1
    have := h e
    omega
  · exact h1
  · obtain ⟨e, h2, _⟩ := lt_co1 y x hy hx h1
    have := h e
    omega
theorem nat_mono {a b c : List Term} (ha : vL a) (hb : vL b) (hc : vL c) (h : Lt a b) : Lt (natO a c) (natO b c) := by
  obtain ⟨e, h1, h2⟩ := lt_co1 a b ha hb h
  exact co_lt (nat_v _ _ ha hc) (nat_v _ _ hb hc) (e := e) (by rw [co_nat, co_nat]; omega) (fun f hf => by rw [co_nat, co_nat, h2 f hf])
theorem nat_ge {a c : List Term} (ha : vL a) (hc : vL c) : ¬ Lt (natO a c) a := fun h => by
  obtain ⟨e, h1, _⟩ := lt_co1 _ _ (nat_v _ _ ha hc) ha h
  have := co_pos hc e
  rw [co_nat] at h1
  omega
theorem nat_comm {a b : List Term} (ha : vL a) (hb : vL b) : natO a b = natO b a :=
  co_ext (nat_v _ _ ha hb) (nat_v _ _ hb ha) fun e => by rw [co_nat, co_nat]; omega
theorem nat_assoc {a b c : List Term} (ha : vL a) (hb : vL b) (hc : vL c) : natO (natO a b) c = natO a (natO b c) :=
  co_ext (nat_v _ _ (nat_v _ _ ha hb) hc) (nat_v _ _ ha (nat_v _ _ hb hc)) fun e => by simp only [co_nat]; omega
/-! One less, and steps down. -/
def bef : List Term → List Term
  | [] => []
  | [t] => if t.f0 = 1 then [] else [⟨t.f0 - 1, t.f1⟩]
  | t :: u :: x => t :: bef (u :: x)
def kd : List Term → Int
  | [] => 0
  | [t] => if t.f1.isEmpty then 1 else 2
  | _ :: u :: x => kd (u :: x)
def stp (n : Int) : List Term → List Term
  | [] => []
  | [⟨c, e⟩] => (if c = 1 then [] else [⟨c - 1, e⟩]) ++ (if e.isEmpty then [] else if kd e = 2 then [⟨1, stp n e⟩] else if n > 0 then [⟨n, bef e⟩] else [])
  | t :: u :: x => t :: stp n (u :: x)
termination_by x => SizeOf.sizeOf x
theorem bef_app (l : List Term) (t : Term) : bef (l ++ [t]) = l ++ bef [t] := by
  induction l with
  | nil => rfl
  | cons s l ih =>
    cases l with
    | nil => rfl
    | cons u l => exact congrArg (s :: ·) ih
theorem kd_app (l : List Term) (t : Term) : kd (l ++ [t]) = if t.f1.isEmpty then 1 else 2 := by
  induction l with
  | nil => rfl
  | cons s l ih =>
    cases l with
    | nil => rfl
    | cons u l => simp only [List.cons_append] at ih ⊢; rw [kd, ih]
theorem stp_nil (n : Int) : stp n [] = [] := by rw [stp]
theorem stp_one (n : Int) (t : Term) : stp n [t] = bef [t] ++ (if t.f1.isEmpty then [] else if kd t.f1 = 2 then [⟨1, stp n t.f1⟩] else if n > 0 then [⟨n, bef t.f1⟩] else []) := by
  cases t
  rw [stp]
  rfl
theorem stp_app (n : Int) (l : List Term) (t : Term) : stp n (l ++ [t]) = l ++ stp n [t] := by
  induction l with
  | nil => rfl
  | cons s l ih =>
    cases l with
    | nil => simp only [List.cons_append, List.nil_append]; rw [stp]
    | cons u l => simp only [List.cons_append] at ih ⊢; rw [stp, ih]
theorem last_cases {P : List Term → Prop} (h0 : P []) (h1 : ∀ l t, P (l ++ [t])) (x : List Term) : P x := by
  rcases List.eq_nil_or_concat x with h | ⟨l, t, h⟩
  · rw [h]; exact h0
  · rw [h, List.concat_eq_append]; exact h1 l t
theorem kd_zero {x : List Term} : kd x = 0 ↔ x = [] := by
  refine last_cases (P := fun x => kd x = 0 ↔ x = []) (by simp [kd]) (fun l t => ?_) x
  rw [kd_app]
  constructor
  · intro h; split at h <;> omega
  · intro h; simp at h
theorem kd_range (x : List Term) : kd x = 0 ∨ kd x = 1 ∨ kd x = 2 := by
  refine last_cases (P := fun x => kd x = 0 ∨ kd x = 1 ∨ kd x = 2) (.inl rfl) (fun l t => ?_) x
  rw [kd_app]
  split <;> omega
theorem stp_bef {n : Int} {x : List Term} (h : kd x ≠ 2) : stp n x = bef x := by
  refine last_cases (P := fun x => kd x ≠ 2 → stp n x = bef x) (fun _ => stp_nil n) (fun l t h => ?_) x h
  rw [kd_app] at h
  rw [stp_app, bef_app, stp_one]
  have : t.f1.isEmpty = true := by
    cases hc : t.f1.isEmpty
    · rw [hc] at h; simp at h
    · rfl
  rw [if_pos this, List.append_nil]
theorem lt_app (l x y : List Term) : Lt (l ++ x) (l ++ y) ↔ Lt x y := by
  induction l with
  | nil => exact Iff.rfl
  | cons t l ih =>
    simp only [List.cons_append]
    rw [lt_cc]
    constructor
    · rintro (h | ⟨_, h | ⟨_, h⟩⟩)
      · exact absurd h (lt_irrefl _)
      · omega
      · exact ih.1 h
    · intro h; exact .inr ⟨rfl, .inr ⟨rfl, ih.2 h⟩⟩
theorem bef_lt (x : List Term) (h : x ≠ []) (hv : vL x) : Lt (bef x) x := by
  refine last_cases (P := fun x => x ≠ [] → vL x → Lt (bef x) x) (fun h _ => absurd rfl h) (fun l t _ hv => ?_) x h hv
  rw [bef_app, lt_app, bef]
  split
  · exact nil_lt _ _
  · rw [lt_cc]; exact .inr ⟨rfl, .inl (by show t.f0 - 1 < t.f0; omega)⟩
theorem bef_v (x : List Term) (hv : vL x) : vL (bef x) := by
  refine last_cases (P := fun x => vL x → vL (bef x)) (fun _ => vL_nil) (fun l t hv => ?_) x hv
  rw [bef_app]
  rw [vL_app] at hv ⊢
  obtain ⟨h1, h2, h3⟩ := hv
  rw [vL_cons] at h2
  rw [bef]
  split
  · exact ⟨h1, vL_nil, fun t _ u hu => by cases hu⟩
  · refine ⟨h1, ?_, fun s hs u hu => ?_⟩
    · rw [vL_one]; exact ⟨by show 1 ≤ t.f0 - 1; omega, h2.1.2⟩
    · rw [List.mem_singleton.1 hu]; exact h3 s hs t List.mem_cons_self
theorem stp_one_v (n : Int) (t : Term) (hn : 0 ≤ n) (ht : 1 ≤ t.f0 ∧ vL t.f1) (ih : t.f1 ≠ [] → vL (stp n t.f1) ∧ Lt (stp n t.f1) t.f1) : vL (stp n [t]) ∧ Lt (stp n [t]) [t] ∧ ∀ u ∈ stp n [t], u.f1 = t.f1 ∨ Lt u.f1 t.f1 := by
  have hb : vL (bef [t]) := bef_v _ ((vL_one t).2 ht)
  have hm : ∀ u ∈ bef [t], u.f1 = t.f1 := by
    intro u hu
    rw [bef] at hu
    split at hu
    · cases hu
    · rw [List.mem_singleton.1 hu]
  -- what is added has a less exponent
  have key : ∀ s : Term, 1 ≤ s.f0 → vL s.f1 → Lt s.f1 t.f1 → vL (bef [t] ++ [s]) ∧ Lt (bef [t] ++ [s]) [t] ∧ ∀ u ∈ bef [t] ++ [s], u.f1 = t.f1 ∨ Lt u.f1 t.f1 := by
    intro s s1 s2 s3
    refine ⟨?_, ?_, ?_⟩
    · rw [vL_app]
      refine ⟨hb, (vL_one s).2 ⟨s1, s2⟩, fun r hr u hu => ?_⟩
      rw [List.mem_singleton.1 hu, hm r hr]; exact s3
    · rw [bef]
      split
      · rw [List.nil_append, lt_cc]; exact .inl s3
      · rw [List.cons_append, lt_cc]; exact .inr ⟨rfl, .inl (by show t.f0 - 1 < t.f0; omega)⟩
    · intro u hu
      rcases List.mem_append.1 hu with hu | hu
      · exact .inl (hm u hu)
      · rw [List.mem_singleton.1 hu]; exact .inr s3
  have base : vL (bef [t] ++ []) ∧ Lt (bef [t] ++ []) [t] ∧ ∀ u ∈ bef [t] ++ [], u.f1 = t.f1 ∨ Lt u.f1 t.f1 := by
    rw [List.append_nil]
    exact ⟨hb, bef_lt _ (by simp) ((vL_one t).2 ht), fun u hu => .inl (hm u hu)⟩
  rw [stp_one]
  split
  · exact base
  · rename_i he
    have hne : t.f1 ≠ [] := fun h => he (by rw [h]; rfl)
    split
    · obtain ⟨i1, i2⟩ := ih hne
      exact key ⟨1, stp n t.f1⟩ (Int.le_refl 1) i1 i2
    · split
      · exact key ⟨n, bef t.f1⟩ (by show 1 ≤ n; omega) (bef_v _ ht.2) (bef_lt _ hne ht.2)
      · exact base
theorem stp_v (n : Int) (hn : 0 ≤ n) (x : List Term) : vL x → vL (stp n x) ∧ (x ≠ [] → Lt (stp n x) x) := by
  have main : ∀ x, (∀ t ∈ x, vL t.f1 → vL (stp n t.f1) ∧ (t.f1 ≠ [] → Lt (stp n t.f1) t.f1)) ∧ (vL x → vL (stp n x) ∧ (x ≠ [] → Lt (stp n x) x)) := by
    intro x
    refine tree_ind (P := fun x => (∀ t ∈ x, vL t.f1 → vL (stp n t.f1) ∧ (t.f1 ≠ [] → Lt (stp n t.f1) t.f1)) ∧ (vL x → vL (stp n x) ∧ (x ≠ [] → Lt (stp n x) x))) ?_ ?_ x
    · exact ⟨(by intro t ht; cases ht), fun _ => ⟨(by rw [stp_nil]; exact vL_nil), fun h => absurd rfl h⟩⟩
    · intro t x i1 i2
      have all : ∀ s ∈ t :: x, vL s.f1 → vL (stp n s.f1) ∧ (s.f1 ≠ [] → Lt (stp n s.f1) s.f1) := by
        intro s hs
        rcases List.mem_cons.1 hs with h | h
        · rw [h]; exact i1.2
        · exact i2.1 s h
      refine ⟨all, ?_⟩
      generalize t :: x = y at all
      refine last_cases (P := fun y => (∀ s ∈ y, vL s.f1 → vL (stp n s.f1) ∧ (s.f1 ≠ [] → Lt (stp n s.f1) s.f1)) → vL y → vL (stp n y) ∧ (y ≠ [] → Lt (stp n y) y)) ?_ ?_ y all
      · exact fun _ _ => ⟨by rw [stp_nil]; exact vL_nil, fun h => absurd rfl h⟩
      · intro l s hs hv
        rw [vL_app] at hv
        obtain ⟨v1, v2, v3⟩ := hv
        rw [vL_cons] at v2
        have hss := hs s (by simp) v2.1.2
        obtain ⟨a1, a2, a3⟩ := stp_one_v n s hn v2.1 (fun h => ⟨hss.1, hss.2 h⟩)
        rw [stp_app, lt_app, vL_app]
        refine ⟨⟨v1, a1, fun r hr u hu => ?_⟩, fun _ => a2⟩
        have := v3 r hr s List.mem_cons_self
        rcases a3 u hu with h | h
        · rw [h]; exact this
        · exact lt_trans _ _ _ h this
  exact (main x).2
/-! What the code makes of trees and their rows. -/
theorem tree_mem {P : List Term → Prop} (h : ∀ x, (∀ t ∈ x, P t.f1) → P x) (x : List Term) : P x := by
  have : (∀ t ∈ x, P t.f1) ∧ P x := by
    refine tree_ind (P := fun x => (∀ t ∈ x, P t.f1) ∧ P x) ⟨(by intro t ht; cases ht), h _ (by intro t ht; cases ht)⟩ ?_ x
    intro t x h1 h2
    have : ∀ s ∈ t :: x, P s.f1 := by
      intro s hs
      rcases List.mem_cons.1 hs with e | e
      · rw [e]; exact h1.2
      · exact h2.1 s e
    exact ⟨this, h _ this⟩
  exact this.2
theorem get_at {α : Type} {l : List α} {i : Nat} {d : α} (h : i < l.length) : l.getD (i : Int).toNat d = l[i] := by
  rw [Int.toNat_natCast, List.getD_eq_getElem?_getD, List.getElem?_eq_getElem h]
  rfl
theorem size_mem {x : List Term} {t : Term} (h : t ∈ x) : size t.f1 + 2 ≤ size x := by
  induction x with
  | nil => cases h
  | cons s x ih =>
    rw [size_cons]
    rcases List.mem_cons.1 h with h | h
    · rw [h]; have := size_pos x; omega
    · have := ih h; omega
theorem cmp_ev (a b : Int) : Ev (fun k => cmp_Compare_int.f k a b) (if a < b then -1 else if a > b then 1 else 0) := by
  have nn : ∀ a : Int, Ev (fun k => cmp_isNaN_int.f k a) false := fun a => ev_succ (fun k => cmp_isNaN_int.f_eq k a) (ev_some.2 (by simp))
  refine ev_succ (fun k => cmp_Compare_int.f_eq k a b) (ev_bind (nn a) (ev_bind (nn b) (ev_bf rfl (ev_bf rfl ?_))))
  by_cases h : a < b
  · rw [if_pos h]; exact ev_dt h (ev_some.2 rfl)
  · rw [if_neg h]
    by_cases h2 : a > b
    · rw [if_pos h2]; exact ev_df h (ev_dt h2 (ev_some.2 rfl))
    · rw [if_neg h2]; exact ev_df h (ev_df h2 (ev_some.2 rfl))
theorem cL_len (x y : List Term) (h : x = [] ∨ y = []) : cL x y = if (x.length : Int) < (y.length : Int) then -1 else if (x.length : Int) > (y.length : Int) then 1 else 0 := by
  rcases h with rfl | rfl
  · cases y with
    | nil => rw [cL_nn]; simp
    | cons b y => rw [cL_nc, if_pos (by simp <;> omega)]
  · cases x with
    | nil => rw [cL_nn]; simp
    | cons b y => rw [cL_cn, if_neg (by simp <;> omega), if_pos (by simp <;> omega)]
theorem compare_ev (x : List Term) : ∀ y, size x ≤ 1000000000 → size y ≤ 1000000000 → Ev (fun k => impl_compare.f k x y) (cL x y) := by
  refine tree_mem (P := fun x => ∀ y, size x ≤ 1000000000 → size y ≤ 1000000000 → Ev (fun k => impl_compare.f k x y) (cL x y)) (fun x ih y hx hy => ?_) x
  have lx := size_len x
  have ly := size_len y
  have loop : ∀ d i : Nat, i + d = min x.length y.length → Ev (fun k => impl_compare.l0 k x y (i : Int)) (cL (x.drop i) (y.drop i)) := by
    intro d
    induction d with
    | zero =>
      intro i hi
      have e : cL (x.drop i) (y.drop i) = if (x.length : Int) < (y.length : Int) then -1 else if (x.length : Int) > (y.length : Int) then 1 else 0 := by
        rw [cL_len _ _ (by
          rcases Nat.lt_or_ge i x.length with h | h
          · exact .inr (List.drop_eq_nil_of_le (by omega))
          · exact .inl (List.drop_eq_nil_of_le (by omega))), List.length_drop, List.length_drop]
        congr 1
        · simp only [eq_iff_iff]; omega
        · congr 1; simp only [eq_iff_iff]; omega
      rw [e]
      refine ev_succ (fun k => impl_compare.l0_eq k _ _ _) ?_
      by_cases h : (i : Int) < (x.length : Int)
      · exact ev_dt h (ev_df (by omega) (ev_bind (cmp_ev _ _) (ev_some.2 rfl)))
      · exact ev_df h (ev_bind (cmp_ev _ _) (ev_some.2 rfl))
    | succ d ihd =>
      intro i hi
      have h1 : i < x.length := by omega
      have h2 : i < y.length := by omega
      rw [List.drop_eq_getElem_cons h1, List.drop_eq_getElem_cons h2, cL_cc, cT_eq]
      have s1 := size_mem (List.getElem_mem h1)
      have s2 := size_mem (List.getElem_mem h2)
      refine ev_succ (fun k => impl_compare.l0_eq k _ _ _) (ev_dt (by first | omega | (simp only [List.length_append, List.length_cons, List.length_nil, List.length_map, List.length_take, List.length_drop, limE]; omega) | (simp [limE] <;> omega)) (ev_dt (by first | omega | (simp only [List.length_append, List.length_cons, List.length_nil, List.length_map, List.length_take, List.length_drop, limE]; omega) | (simp [limE] <;> omega)) (ev_gd (by first | omega | (simp only [List.length_append, List.length_cons, List.length_nil, List.length_map, List.length_take, List.length_drop, limE]; omega) | (simp [limE] <;> omega)) (ev_gd (by first | omega | (simp only [List.length_append, List.length_cons, List.length_nil, List.length_map, List.length_take, List.length_drop, limE]; omega) | (simp [limE] <;> omega)) ?_))))
      rw [get_at h1, get_at h2, w_succ (by omega)]
      refine ev_bind (ih _ (List.getElem_mem h1) _ (by omega) (by omega)) ?_
      by_cases hc : cL x[i].f1 y[i].f1 = 0
      · rw [if_pos hc]
        refine ev_nf (decide_eq_true hc) (ev_gd (by first | omega | (simp only [List.length_append, List.length_cons, List.length_nil, List.length_map, List.length_take, List.length_drop, limE]; omega) | (simp [limE] <;> omega)) (ev_gd (by first | omega | (simp only [List.length_append, List.length_cons, List.length_nil, List.length_map, List.length_take, List.length_drop, limE]; omega) | (simp [limE] <;> omega)) (ev_bind (cmp_ev _ _) ?_)))
        by_cases ht : (if x[i].f0 < y[i].f0 then (-1 : Int) else if x[i].f0 > y[i].f0 then 1 else 0) = 0
        · rw [if_pos ht]; exact ev_nf (decide_eq_true ht) (ihd (i + 1) (by omega))
        · rw [if_neg ht]; exact ev_nt (decide_eq_false ht) (ev_some.2 rfl)
      · rw [if_neg hc, if_neg hc]
        exact ev_nt (decide_eq_false hc) (ev_some.2 rfl)
  exact ev_succ (fun k => impl_compare.f_eq k _ _) (loop (min x.length y.length) 0 (by omega))
theorem fL_drop {x : List Term} {i : Nat} (h : i < x.length) : fL (x.drop i) = x[i].f0 :: (row x[i].f1 ++ fL (x.drop (i + 1))) := by
  rw [List.drop_eq_getElem_cons h, fL_cons]
theorem fL_len (x : List Term) (i : Nat) : (fL (x.drop i)).length ≤ (fL x).length := by
  have := fL_app (x.take i) (x.drop i)
  rw [List.take_append_drop] at this
  rw [this, List.length_append]
  omega
theorem rowOf_ev (x : List Term) : size x ≤ 1000000000 → Ev (fun k => impl_rowOf.f k x) (row x) := by
  refine tree_mem (P := fun x => size x ≤ 1000000000 → Ev (fun k => impl_rowOf.f k x) (row x)) (fun x ih hx => ?_) x
  have lx := size_len x
  have sx := size_eq x
  have loop : ∀ (d i : Nat) (acc : List Int), i + d = x.length → acc.length + (fL (x.drop i)).length ≤ 1000000000 → Ev (fun k => impl_rowOf.l0 k acc x (x.length : Int) (i : Int)) (acc ++ fL (x.drop i)) := by
    intro d
    induction d with
    | zero =>
      intro i acc hi ha
      refine ev_succ (fun k => impl_rowOf.l0_eq k _ _ _ _) (ev_df (by first | omega | (simp only [List.length_append, List.length_cons, List.length_nil, List.length_map, List.length_take, List.length_drop, limE]; omega) | (simp [limE] <;> omega)) (ev_some.2 ?_))
      rw [List.drop_eq_nil_of_le (by omega), fL_nil, List.append_nil]
    | succ d ihd =>
      intro i acc hi ha
      have h1 : i < x.length := by omega
      have s1 := size_mem (List.getElem_mem h1)
      rw [fL_drop h1] at ha ⊢
      simp only [List.length_cons, List.length_append] at ha
      refine ev_succ (fun k => impl_rowOf.l0_eq k _ _ _ _) (ev_dt (by first | omega | (simp only [List.length_append, List.length_cons, List.length_nil, List.length_map, List.length_take, List.length_drop, limE]; omega) | (simp [limE] <;> omega)) (ev_gd (by first | omega | (simp only [List.length_append, List.length_cons, List.length_nil, List.length_map, List.length_take, List.length_drop, limE]; omega) | (simp [limE] <;> omega)) (ev_gd (by first | omega | (simp only [List.length_append, List.length_cons, List.length_nil, List.length_map, List.length_take, List.length_drop, limE]; omega) | (simp [limE] <;> omega)) ?_)))
      rw [get_at h1, w_succ (by omega)]
      refine ev_bind (ih _ (List.getElem_mem h1) (by omega)) (ev_gd (by first | omega | (simp only [List.length_append, List.length_cons, List.length_nil, List.length_map, List.length_take, List.length_drop, limE]; omega) | (simp [limE] <;> omega)) ?_)
      have := ihd (i + 1) ((acc ++ [x[i].f0]) ++ row x[i].f1) (by omega) (by simp only [List.length_append, List.length_cons, List.length_nil]; omega)
      simpa using this
  refine ev_succ (fun k => impl_rowOf.f_eq k _) ?_
  have := loop x.length 0 [(x.length : Int)] (by omega) (by simp only [List.length_cons, List.length_nil, List.drop_zero]; omega)
  simpa [row] using this
theorem sizeOf_ev (x : List Term) : size x ≤ 1000000000 → Ev (fun k => impl_sizeOf.f k x) (size x : Int) := by
  refine tree_mem (P := fun x => size x ≤ 1000000000 → Ev (fun k => impl_sizeOf.f k x) (size x : Int)) (fun x ih hx => ?_) x
  have lx := size_len x
  have sx := size_eq x
  have loop : ∀ (d i : Nat) (acc : Int), i + d = x.length → 0 ≤ acc → acc + (fL (x.drop i)).length ≤ 1000000000 → Ev (fun k => impl_sizeOf.l0 k acc x (x.length : Int) (i : Int)) (acc + ((fL (x.drop i)).length : Int)) := by
    intro d
    induction d with
    | zero =>
      intro i acc hi h0 ha
      refine ev_succ (fun k => impl_sizeOf.l0_eq k _ _ _ _) (ev_df (by first | omega | (simp only [List.length_append, List.length_cons, List.length_nil, List.length_map, List.length_take, List.length_drop, limE]; omega) | (simp [limE] <;> omega)) (ev_some.2 ?_))
      rw [List.drop_eq_nil_of_le (by omega), fL_nil]; simp
    | succ d ihd =>
      intro i acc hi h0 ha
      have h1 : i < x.length := by omega
      have s1 := size_mem (List.getElem_mem h1)
      rw [fL_drop h1] at ha ⊢
      simp only [List.length_cons, List.length_append] at ha ⊢
      have hr : (row x[i].f1).length = size x[i].f1 := rfl
      refine ev_succ (fun k => impl_sizeOf.l0_eq k _ _ _ _) (ev_dt (by first | omega | (simp only [List.length_append, List.length_cons, List.length_nil, List.length_map, List.length_take, List.length_drop, limE]; omega) | (simp [limE] <;> omega)) (ev_gd (by first | omega | (simp only [List.length_append, List.length_cons, List.length_nil, List.length_map, List.length_take, List.length_drop, limE]; omega) | (simp [limE] <;> omega)) ?_))
      rw [get_at h1, w_succ (by omega)]
      refine ev_bind (ih _ (List.getElem_mem h1) (by omega)) ?_
      rw [w64 (x := 1 + (size x[i].f1 : Int)) (by omega) (by omega), w64 (by omega) (by omega)]
      have := ihd (i + 1) (acc + (1 + (size x[i].f1 : Int))) (by omega) (by omega) (by omega)
      rw [show acc + (((row x[i].f1).length + (fL (x.drop (i + 1))).length + 1 : Nat) : Int) = acc + (1 + (size x[i].f1 : Int)) + ((fL (x.drop (i + 1))).length : Int) by omega]
      exact this
  refine ev_succ (fun k => impl_sizeOf.f_eq k _) ?_
  have := loop x.length 0 1 (by omega) (by omega) (by simp only [List.drop_zero]; omega)
  rw [List.drop_zero, show (1 : Int) + ((fL x).length : Int) = (size x : Int) by omega] at this
  exact this
theorem most_ev (x : List Term) : size x ≤ 1000000000 → Ev (fun k => impl_most.f k x) (mL x) := by
  refine tree_mem (P := fun x => size x ≤ 1000000000 → Ev (fun k => impl_most.f k x) (mL x)) (fun x ih hx => ?_) x
  have lx := size_len x
  have loop : ∀ (d i : Nat) (acc : Int), i + d = x.length → 0 ≤ acc → Ev (fun k => impl_most.l0 k acc x (x.length : Int) (i : Int)) (max acc (mL (x.drop i))) := by
    intro d
    induction d with
    | zero =>
      intro i acc hi h0
      refine ev_succ (fun k => impl_most.l0_eq k _ _ _ _) (ev_df (by first | omega | (simp only [List.length_append, List.length_cons, List.length_nil, List.length_map, List.length_take, List.length_drop, limE]; omega) | (simp [limE] <;> omega)) (ev_some.2 ?_))
      rw [List.drop_eq_nil_of_le (by omega), mL_nil]; omega
    | succ d ihd =>
      intro i acc hi h0
      have h1 : i < x.length := by omega
      have s1 := size_mem (List.getElem_mem h1)
      rw [List.drop_eq_getElem_cons h1, mL_cons]
      refine ev_succ (fun k => impl_most.l0_eq k _ _ _ _) (ev_dt (by first | omega | (simp only [List.length_append, List.length_cons, List.length_nil, List.length_map, List.length_take, List.length_drop, limE]; omega) | (simp [limE] <;> omega)) (ev_gd (by first | omega | (simp only [List.length_append, List.length_cons, List.length_nil, List.length_map, List.length_take, List.length_drop, limE]; omega) | (simp [limE] <;> omega)) ?_))
      rw [get_at h1, w_succ (by omega)]
      refine ev_bind (ih _ (List.getElem_mem h1) (by omega)) ?_
      have := ihd (i + 1) (max (max acc x[i].f0) (mL x[i].f1)) (by omega) (by omega)
      rw [show max acc (max (max x[i].f0 (mL x[i].f1)) (mL (x.drop (i + 1)))) = max (max (max acc x[i].f0) (mL x[i].f1)) (mL (x.drop (i + 1))) by omega]
      exact this
  refine ev_succ (fun k => impl_most.f_eq k _) ?_
  have := loop x.length 0 0 (by omega) (by omega)
  have hp := mL_pos x
  rw [List.drop_zero, show max 0 (mL x) = mL x by omega] at this
  exact this
theorem clipI_ev (l : List Int) : Ev (fun k => slices_Clip_int_int.f k l) l :=
  ev_succ (fun k => slices_Clip_int_int.f_eq k l) (ev_gd (by first | omega | (simp only [List.length_append, List.length_cons, List.length_nil, List.length_map, List.length_take, List.length_drop, limE]; omega) | (simp [limE] <;> omega)) (ev_some.2 (by rw [Int.toNat_natCast, List.take_length])))
theorem told_ev (x : List Term) (hx : size x ≤ 1000000000) : Ev (fun k => impl_told.f k x) (if mL x ≤ 9999 ∧ size x ≤ 60 then (row x, true) else ([], false)) := by
  refine ev_succ (fun k => impl_told.f_eq k _) (ev_bind (sizeOf_ev x hx) ?_)
  by_cases h : (size x : Int) > 60
  · rw [if_neg (by omega)]; exact ev_dt h (ev_some.2 rfl)
  · refine ev_df h (ev_bind (most_ev x hx) ?_)
    by_cases h2 : mL x > 9999
    · rw [if_neg (by omega)]; exact ev_dt h2 (ev_some.2 rfl)
    · rw [if_pos (by omega)]; exact ev_df h2 (ev_bind (rowOf_ev x hx) (ev_bind (clipI_ev _) (ev_some.2 rfl)))
/-! Taken off rows. -/
def toR (acc : List Term) : Option (List Term × List Int) → List Term × List Int × Bool
  | some (x, r) => (acc ++ x, r, true)
  | none => ([], [], false)
theorem tO1_len {l : List Int} {x : List Term} {r : List Int} (h : tO1 l = some (x, r)) : r.length < l.length ∧ size x ≤ l.length ∧ r = l.drop (l.length - r.length) := by
  have h1 := (tO1_sound h).1
  have h2 := congrArg List.length h1
  rw [List.length_append] at h2
  have h3 : (row x).length = size x := rfl
  have h4 := size_pos x
  refine ⟨by omega, by omega, ?_⟩
  have : l.length - r.length = (row x).length := by omega
  rw [this, h1, List.drop_left]
theorem takeOrd_ev : ∀ (N : Nat) (l : List Int), l.length ≤ N → N ≤ 1000000 → Ev (fun k => impl_takeOrd.f k l) (toR [] (tO1 l)) := by
  intro N
  induction N with
  | zero =>
    intro l hl _
    obtain rfl : l = [] := List.eq_nil_of_length_eq_zero (by omega)
    exact ev_succ (fun k => impl_takeOrd.f_eq k _) (ev_dt (by simp) (ev_some.2 rfl))
  | succ N ih =>
    intro l hl hN
    have ih := fun l hl => ih l hl (by omega)
    have loop : ∀ (d i : Nat) (l : List Int) (acc : List Term), l.length ≤ N → i + d ≤ 60 → acc.length = i → (∀ t ∈ acc, size t.f1 ≤ 1000000) → Ev (fun k => impl_takeOrd.l0 k l acc ((i + d : Nat) : Int) (i : Int)) (toR acc (tO l.length d (acc.getLast?.map (·.f1)) l)) := by
      intro d
      induction d with
      | zero =>
        intro i l acc hl hi ha hs
        refine ev_succ (fun k => impl_takeOrd.l0_eq k _ _ _ _) (ev_df (by first | omega | (simp only [List.length_append, List.length_cons, List.length_nil, List.length_map, List.length_take, List.length_drop, limE]; omega) | (simp [limE] <;> omega)) (ev_some.2 ?_))
        simp [tO, toR]
      | succ d ihd =>
        intro i l acc hl hi ha hs
        refine ev_succ (fun k => impl_takeOrd.l0_eq k _ _ _ _) (ev_dt (by first | omega | (simp only [List.length_append, List.length_cons, List.length_nil, List.length_map, List.length_take, List.length_drop, limE]; omega) | (simp [limE] <;> omega)) ?_)
        cases l with
        | nil => exact ev_dt (by simp) (ev_some.2 (by simp [tO, toR]))
        | cons c l =>
          simp only [List.length_cons] at hl
          have hlim : ((c :: l).length : Int) = (l.length : Int) + 1 := by simp
          have hc : (c :: l).getD (0 : Int).toNat 0 = c := rfl
          have hd : ((c :: l).take ((c :: l).length : Int).toNat).drop (1 : Int).toNat = l := by
            rw [Int.toNat_natCast, List.take_length]; rfl
          have hT := tO_step (f := l.length) (n := d) (p := acc.getLast?.map (·.f1)) (c := c) (l := l) (Nat.le_refl _)
          rw [show tO (c :: l).length (d + 1) (acc.getLast?.map (·.f1)) (c :: l) = _ from hT]
          refine ev_df (by rw [hlim]; omega) (ev_gd (by rw [hlim]; omega) ?_)
          rw [hc, hd]
          by_cases h1 : c < 1
          · rw [if_pos (.inl h1)]; exact ev_dt h1 (ev_some.2 rfl)
          refine ev_df h1 (ev_gd (by rw [hlim]; omega) ?_)
          by_cases h2 : c > 9999
          · rw [if_pos (.inr h2)]; exact ev_dt h2 (ev_some.2 rfl)
          rw [if_neg (by omega)]
          refine ev_df h2 (ev_gd (by rw [hlim]; omega) (ev_bind (ih l (by omega)) ?_))
          cases ht : tO1 l with
          | none => exact ev_nt rfl (ev_some.2 rfl)
          | some q =>
            obtain ⟨e, r⟩ := q
            have hr := tO1_len ht
            simp only [toR, List.nil_append]
            have next : pv (acc.getLast?.map (·.f1)) e = false → Ev (fun k => impl_takeOrd.l0 k r (acc ++ [(⟨c, e⟩ : Term)]) ((i + (d + 1) : Nat) : Int) (wr ((i : Int) + 1))) (toR acc (if pv (acc.getLast?.map (·.f1)) e = true then none else match tO r.length d (some e) r with | none => none | some (x, r') => some (⟨c, e⟩ :: x, r'))) := by
              intro hp
              rw [hp, if_neg (by simp), w_succ (by omega)]
              have := ihd (i + 1) r (acc ++ [⟨c, e⟩]) (by omega) (by omega) (by simp [ha]) (fun t ht => by
                rcases List.mem_append.1 ht with ht | ht
                · exact hs t ht
                · rw [List.mem_singleton.1 ht]; show size e ≤ 1000000; omega)
              rw [show i + 1 + d = i + (d + 1) by omega, List.getLast?_append] at this
              simp only [List.getLast?_singleton, Option.some_or, Option.map_some] at this
              revert this
              cases tO r.length d (some e) r with
              | none => exact id
              | some q => intro this; simpa [toR] using this
            refine ev_nf rfl ?_
            by_cases h3 : (i : Int) > 0
            · have hne : acc ≠ [] := fun h => by rw [h] at ha; simp at ha; omega
              obtain ⟨l', s, rfl⟩ : ∃ l' s, acc = l' ++ [s] := by
                rcases List.eq_nil_or_concat acc with h | ⟨l', t, h⟩
                · exact absurd h hne
                · exact ⟨l', t, by rw [h, List.concat_eq_append]⟩
              rw [List.length_append, List.length_singleton] at ha
              have hw : wr ((i : Int) - 1) = (l'.length : Int) := by rw [w64 (by omega) (by omega)]; omega
              have hg : (l' ++ [s]).getD (l'.length : Int).toNat (⟨0, ([] : List Term)⟩ : Term) = s := by
                rw [get_at (by simp)]; simp
              refine ev_dt h3 (ev_gd (by rw [hw, List.length_append, List.length_singleton]; omega) ?_)
              rw [hw, hg]
              have hss := hs s (by simp)
              refine ev_bind (compare_ev e s.f1 (by omega) (by omega)) ?_
              have hpe : pv ((l' ++ [s]).getLast?.map (·.f1)) e = decide (cL e s.f1 ≥ 0) := by simp [pv]
              by_cases h4 : cL e s.f1 ≥ 0
              · refine ev_dt h4 (ev_some.2 ?_)
                rw [hpe, decide_eq_true h4]
                rfl
              · refine ev_df h4 (ev_gd (by rw [hlim]; omega) (ev_gd (by simp [limE]; omega) ?_))
                exact next (by rw [hpe, decide_eq_false h4])
            · obtain rfl : acc = [] := List.eq_nil_of_length_eq_zero (by omega)
              refine ev_df h3 (ev_gd (by rw [hlim]; omega) (ev_gd (by simp [limE]) ?_))
              exact next rfl
    refine ev_succ (fun k => impl_takeOrd.f_eq k _) ?_
    cases l with
    | nil => exact ev_dt (by simp) (ev_some.2 rfl)
    | cons m l =>
      have hlim : ((m :: l).length : Int) = (l.length : Int) + 1 := by simp
      have hc : (m :: l).getD (0 : Int).toNat 0 = m := rfl
      have hd : ((m :: l).take ((m :: l).length : Int).toNat).drop (1 : Int).toNat = l := by
        rw [Int.toNat_natCast, List.take_length]; rfl
      refine ev_df (by rw [hlim]; omega) (ev_gd (by rw [hlim]; omega) (ev_gd (by rw [hlim]; omega) ?_))
      rw [hc, hd]
      simp only [tO1]
      by_cases h1 : m < 0
      · rw [if_pos (.inl h1)]; exact ev_dt h1 (ev_some.2 rfl)
      refine ev_df h1 ?_
      by_cases h2 : m > 60
      · rw [if_pos (.inr h2)]; exact ev_dt h2 (ev_some.2 rfl)
      rw [if_neg (by omega)]
      refine ev_df h2 ?_
      have := loop m.toNat 0 l [] (by simp at hl; omega) (by omega) rfl (by intro t ht; cases ht)
      rw [show ((0 + m.toNat : Nat) : Int) = m by omega] at this
      exact this
/-- What a row gives: the tree of a valid row, or that it is not valid. -/
theorem ordOf_ev (l : List Int) : EvP (fun k => impl_ordOf.f k l) (fun x => x.2 = OV l ∧ (OV l = true → l = row x.1 ∧ Fit x.1)) := by
  refine evp_succ (fun k => impl_ordOf.f_eq k l) ?_
  by_cases h1 : (l.length : Int) < 1
  · have : OV l = false := by unfold OV; rw [decide_eq_false (by omega), Bool.false_and]
    refine evp_d (fun _ => evp_some ⟨this.symm, fun h => by rw [this] at h; cases h⟩) (fun h => absurd h1 h)
  refine evp_d (fun h => absurd h h1) (fun _ => ?_)
  by_cases h2 : (l.length : Int) > 60
  · have : OV l = false := by unfold OV; rw [decide_eq_false (by omega), Bool.false_and]
    refine evp_d (fun _ => evp_some ⟨this.symm, fun h => by rw [this] at h; cases h⟩) (fun h => absurd h2 h)
  refine evp_d (fun h => absurd h h2) (fun _ => evp_bindv (takeOrd_ev l.length l (Nat.le_refl _) (by omega)) ?_)
  have hd : decide (1 ≤ l.length ∧ l.length ≤ 60) = true := decide_eq_true ⟨by omega, by omega⟩
  cases ht : tO1 l with
  | none =>
    have : OV l = false := by unfold OV; rw [ht, Bool.and_false]
    exact evp_some ⟨this.symm, fun h => by rw [this] at h; cases h⟩
  | some q =>
    obtain ⟨x, r⟩ := q
    have hov : OV l = r.isEmpty := by unfold OV; rw [ht, hd, Bool.true_and]
    refine evp_some ⟨?_, fun h => ?_⟩
    · rw [hov]
      cases r with
      | nil => rfl
      | cons a r => exact decide_eq_false (by show ¬ (((a :: r).length : Nat) : Int) = 0; simp <;> omega)
    · rw [hov] at h
      obtain rfl : r = [] := List.isEmpty_iff.1 h
      obtain ⟨a1, a2, a3⟩ := tO1_sound ht
      rw [List.append_nil] at a1
      exact ⟨a1, a2, a3, by show (row x).length ≤ 60; rw [← a1]; omega⟩
/-! What the reference makes of rows. -/
theorem drop_at {α : Type} {l : List α} {i : Nat} {x : α} {r : List α} (h : l.drop i = x :: r) : i < l.length ∧ l.drop (i + 1) = r ∧ ∀ h : i < l.length, l[i] = x := by
  have hlt : i < l.length := by
    apply Classical.byContradiction
    intro hc
    rw [List.drop_eq_nil_of_le (by omega)] at h
    cases h
  have e := List.drop_eq_getElem_cons hlt
  rw [h] at e
  injection e with e1 e2
  exact ⟨hlt, e2.symm, fun _ => e1.symm⟩
theorem drop_more {α : Type} {l : List α} {i : Nat} {x r : List α} (h : l.drop i = x ++ r) : l.drop (i + x.length) = r := by
  rw [← List.drop_drop, h, List.drop_left]
theorem drop_fits {α : Type} {l : List α} {i : Nat} {x r : List α} (h : l.drop i = x ++ r) (hx : 0 < x.length) : i + x.length ≤ l.length := by
  have := congrArg List.length h
  rw [List.length_drop, List.length_append] at this
  omega
theorem slice_at {α : Type} {l : List α} {i : Nat} {x r : List α} (h : l.drop i = x ++ r) : (l.take (i + x.length)).drop i = x := by
  rw [List.drop_take, h, show i + x.length - i = x.length by omega, List.take_left]
theorem row_len (x : List Term) : (row x).length = size x := rfl
theorem span_ev (x : List Term) : ∀ (r rest : List Int) (a : Nat), r.length ≤ 1000000000 → r.drop a = row x ++ rest → Ev (fun k => spec_l1Span.f k r (a : Int)) ((a + size x : Nat) : Int) := by
  refine tree_mem (P := fun x => ∀ (r rest : List Int) (a : Nat), r.length ≤ 1000000000 → r.drop a = row x ++ rest → Ev (fun k => spec_l1Span.f k r (a : Int)) ((a + size x : Nat) : Int)) (fun x ih r rest a hr hd => ?_) x
  have sx := size_eq x
  have lx := size_len x
  have hfx := drop_fits hd (by rw [row_len]; omega)
  rw [row_len] at hfx
  rw [row, List.cons_append] at hd
  obtain ⟨h1, h2, h3⟩ := drop_at hd
  have loop : ∀ d i b : Nat, i + d = x.length → r.drop b = fL (x.drop i) ++ rest → b ≤ r.length → Ev (fun k => spec_l1Span.l0 k r (b : Int) (x.length : Int) (i : Int)) ((b + (fL (x.drop i)).length : Nat) : Int) := by
    intro d
    induction d with
    | zero =>
      intro i b hi hb hbl
      refine ev_succ (fun k => spec_l1Span.l0_eq k _ _ _ _) (ev_df (by first | omega | (simp only [List.length_append, List.length_cons, List.length_nil, List.length_map, List.length_take, List.length_drop, limE]; omega) | (simp [limE] <;> omega)) (ev_some.2 ?_))
      rw [List.drop_eq_nil_of_le (by omega), fL_nil]; simp
    | succ d ihd =>
      intro i b hi hb hbl
      have hlt : i < x.length := by omega
      rw [fL_drop hlt] at hb ⊢
      rw [List.cons_append, List.append_assoc] at hb
      obtain ⟨b1, b2, b3⟩ := drop_at hb
      have hp := size_pos x[i].f1
      have hf := drop_fits b2 (by rw [row_len]; omega)
      rw [row_len] at hf
      refine ev_succ (fun k => spec_l1Span.l0_eq k _ _ _ _) (ev_dt (by first | omega | (simp only [List.length_append, List.length_cons, List.length_nil, List.length_map, List.length_take, List.length_drop, limE]; omega) | (simp [limE] <;> omega)) ?_)
      rw [w_succ (by omega), w_succ (by omega)]
      refine ev_bind (ih _ (List.getElem_mem hlt) r _ (b + 1) hr b2) ?_
      have := ihd (i + 1) (b + 1 + size x[i].f1) (by omega) (by have := drop_more b2; rw [row_len] at this; exact this) hf
      simp only [List.length_cons, List.length_append, row_len]
      rw [show b + (size x[i].f1 + (fL (x.drop (i + 1))).length + 1) = b + 1 + size x[i].f1 + (fL (x.drop (i + 1))).length by omega]
      exact this
  have := loop x.length 0 (a + 1) (by omega) (by rw [List.drop_zero]; exact h2) (by omega)
  refine ev_succ (fun k => spec_l1Span.f_eq k _ _) (ev_gd (by first | omega | (simp only [List.length_append, List.length_cons, List.length_nil, List.length_map, List.length_take, List.length_drop, limE]; omega) | (simp [limE] <;> omega)) ?_)
  rw [get_at h1, h3 h1, w_succ (by omega), sx, show a + (1 + (fL x).length) = a + 1 + (fL x).length by omega]
  rw [List.drop_zero] at this
  exact this
theorem terms_ev (x : List Term) (hx : size x ≤ 1000000000) : Ev (fun k => spec_l1Terms.f k (row x)) (x.map (·.f0), x.map fun t => row t.f1) := by
  have lx := size_len x
  have loop : ∀ (d i b : Nat) (p : List Int) (q : List (List Int)), i + d = x.length → (row x).drop b = fL (x.drop i) → b ≤ size x → p.length = i → q.length = i →
      Ev (fun k => spec_l1Terms.l0 k (row x) p q (b : Int)) (p ++ (x.drop i).map (·.f0), q ++ (x.drop i).map fun t => row t.f1) := by
    intro d
    induction d with
    | zero =>
      intro i b p q hi hb hbl hp hq
      have hbb : size x ≤ b := by
        have := congrArg List.length hb
        rw [List.length_drop, List.drop_eq_nil_of_le (by omega), fL_nil, row_len] at this
        simp at this
        omega
      refine ev_succ (fun k => spec_l1Terms.l0_eq k _ _ _ _) (ev_df (by rw [row_len]; omega) (ev_some.2 ?_))
      rw [List.drop_eq_nil_of_le (by omega)]; simp
    | succ d ihd =>
      intro i b p q hi hb hbl hp hq
      have hlt : i < x.length := by omega
      rw [fL_drop hlt] at hb
      obtain ⟨b1, b2, b3⟩ := drop_at hb
      have hp1 := size_pos x[i].f1
      have hf := drop_fits b2 (by rw [row_len]; omega)
      rw [row_len, row_len] at hf
      have b1' := b1
      rw [row_len] at b1'
      refine ev_succ (fun k => spec_l1Terms.l0_eq k _ _ _ _) (ev_dt (by omega) ?_)
      rw [w_succ (by omega)]
      refine ev_bind (span_ev _ (row x) _ (b + 1) (by rw [row_len]; omega) b2) (ev_gd (by omega) (ev_gd (by first | omega | (simp only [List.length_append, List.length_cons, List.length_nil, List.length_map, List.length_take, List.length_drop, limE]; omega) | (simp [limE] <;> omega)) (ev_gd (by rw [row_len]; omega) (ev_gd (by first | omega | (simp only [List.length_append, List.length_cons, List.length_nil, List.length_map, List.length_take, List.length_drop, limE]; omega) | (simp [limE] <;> omega)) ?_))))
      have hsl := slice_at b2
      rw [row_len] at hsl
      rw [get_at b1, b3 b1, Int.toNat_natCast, Int.toNat_natCast, hsl]
      have := ihd (i + 1) (b + 1 + size x[i].f1) (p ++ [x[i].f0]) (q ++ [row x[i].f1]) (by omega) (by have := drop_more b2; rw [row_len] at this; exact this) (by omega) (by simp [hp]) (by simp [hq])
      rw [List.drop_eq_getElem_cons hlt]
      simp only [List.append_assoc, List.cons_append, List.nil_append] at this
      exact this
  refine ev_succ (fun k => spec_l1Terms.f_eq k _) ?_
  have := loop x.length 0 1 [] [] (by omega) rfl (size_pos x) rfl rfl
  simpa using this
theorem make_ev (x : List Term) (hx : size x ≤ 1000000000) : Ev (fun k => spec_l1Make.f k (x.map (·.f0)) (x.map fun t => row t.f1)) (row x) := by
  have lx := size_len x
  have sx := size_eq x
  have loop : ∀ (d i : Nat) (acc : List Int), i + d = x.length → acc.length + (fL (x.drop i)).length ≤ 1000000000 → Ev (fun k => spec_l1Make.l0 k (x.map (·.f0)) (x.map fun t => row t.f1) acc (i : Int)) (acc ++ fL (x.drop i)) := by
    intro d
    induction d with
    | zero =>
      intro i acc hi ha
      refine ev_succ (fun k => spec_l1Make.l0_eq k _ _ _ _) (ev_df (by rw [List.length_map]; omega) (ev_some.2 ?_))
      rw [List.drop_eq_nil_of_le (by omega), fL_nil, List.append_nil]
    | succ d ihd =>
      intro i acc hi ha
      have h1 : i < x.length := by omega
      rw [fL_drop h1] at ha ⊢
      simp only [List.length_cons, List.length_append] at ha
      have g1 : (x.map (·.f0)).getD (i : Int).toNat 0 = x[i].f0 := by rw [get_at (by rw [List.length_map]; exact h1), List.getElem_map]
      have g2 : (x.map fun t => row t.f1).getD (i : Int).toNat [] = row x[i].f1 := by rw [get_at (by rw [List.length_map]; exact h1), List.getElem_map]
      refine ev_succ (fun k => spec_l1Make.l0_eq k _ _ _ _) (ev_dt (by rw [List.length_map]; omega) (ev_gd (by rw [List.length_map]; omega) (ev_gd (by first | omega | (simp only [List.length_append, List.length_cons, List.length_nil, List.length_map, List.length_take, List.length_drop, limE]; omega) | (simp [limE] <;> omega)) (ev_gd (by rw [List.length_map]; omega) ?_))))
      rw [g1, g2, w_succ (by omega)]
      refine ev_gd (by first | omega | (simp only [List.length_append, List.length_cons, List.length_nil, List.length_map, List.length_take, List.length_drop, limE]; omega) | (simp [limE] <;> omega)) ?_
      have := ihd (i + 1) ((acc ++ [x[i].f0]) ++ row x[i].f1) (by omega) (by simp only [List.length_append, List.length_cons, List.length_nil]; omega)
      simpa using this
  refine ev_succ (fun k => spec_l1Make.f_eq k _ _) ?_
  have := loop x.length 0 [((x.map (·.f0)).length : Int)] (by omega) (by simp only [List.length_cons, List.length_nil, List.drop_zero]; omega)
  simpa [row] using this
theorem scompare_ev (x : List Term) : ∀ y, size x ≤ 1000000000 → size y ≤ 1000000000 → Ev (fun k => spec_l1Compare.f k (row x) (row y)) (cL x y) := by
  refine tree_mem (P := fun x => ∀ y, size x ≤ 1000000000 → size y ≤ 1000000000 → Ev (fun k => spec_l1Compare.f k (row x) (row y)) (cL x y)) (fun x ih y hx hy => ?_) x
  have lx := size_len x
  have ly := size_len y
  have loop : ∀ d i : Nat, i + d = min x.length y.length → Ev (fun k => spec_l1Compare.l0 k (x.map (·.f0)) (x.map fun t => row t.f1) (y.map (·.f0)) (y.map fun t => row t.f1) (i : Int)) (cL (x.drop i) (y.drop i)) := by
    intro d
    induction d with
    | zero =>
      intro i hi
      have e : cL (x.drop i) (y.drop i) = if (x.length : Int) < (y.length : Int) then -1 else if (x.length : Int) > (y.length : Int) then 1 else 0 := by
        rw [cL_len _ _ (by
          rcases Nat.lt_or_ge i x.length with h | h
          · exact .inr (List.drop_eq_nil_of_le (by omega))
          · exact .inl (List.drop_eq_nil_of_le (by omega))), List.length_drop, List.length_drop]
        congr 1
        · simp only [eq_iff_iff]; omega
        · congr 1; simp only [eq_iff_iff]; omega
      rw [e]
      have fin : Ev (fun k => br (decide (((x.map (·.f0)).length : Int) < ((y.map (·.f0)).length : Int))) (some (-1)) (br (decide (((x.map (·.f0)).length : Int) > ((y.map (·.f0)).length : Int))) (some 1) (some 0))) (if (x.length : Int) < (y.length : Int) then (-1 : Int) else if (x.length : Int) > (y.length : Int) then 1 else 0) := by
        rw [List.length_map, List.length_map]
        by_cases h1 : (x.length : Int) < (y.length : Int)
        · rw [if_pos h1]; exact ev_dt h1 (ev_some.2 rfl)
        · rw [if_neg h1]
          by_cases h2 : (x.length : Int) > (y.length : Int)
          · rw [if_pos h2]; exact ev_df h1 (ev_dt h2 (ev_some.2 rfl))
          · rw [if_neg h2]; exact ev_df h1 (ev_df h2 (ev_some.2 rfl))
      refine ev_succ (fun k => spec_l1Compare.l0_eq k _ _ _ _ _) ?_
      by_cases h : (i : Int) < (x.length : Int)
      · exact ev_dt (by rw [List.length_map]; exact h) (ev_df (by rw [List.length_map]; omega) fin)
      · exact ev_df (by rw [List.length_map]; exact h) fin
    | succ d ihd =>
      intro i hi
      have h1 : i < x.length := by omega
      have h2 : i < y.length := by omega
      rw [List.drop_eq_getElem_cons h1, List.drop_eq_getElem_cons h2, cL_cc, cT_eq]
      have s1 := size_mem (List.getElem_mem h1)
      have s2 := size_mem (List.getElem_mem h2)
      have g1 : (x.map (·.f0)).getD (i : Int).toNat 0 = x[i].f0 := by rw [get_at (by rw [List.length_map]; exact h1), List.getElem_map]
      have g2 : (x.map fun t => row t.f1).getD (i : Int).toNat [] = row x[i].f1 := by rw [get_at (by rw [List.length_map]; exact h1), List.getElem_map]
      have g3 : (y.map (·.f0)).getD (i : Int).toNat 0 = y[i].f0 := by rw [get_at (by rw [List.length_map]; exact h2), List.getElem_map]
      have g4 : (y.map fun t => row t.f1).getD (i : Int).toNat [] = row y[i].f1 := by rw [get_at (by rw [List.length_map]; exact h2), List.getElem_map]
      have l1 : (i : Int) < ((x.map (·.f0)).length : Int) := by rw [List.length_map]; omega
      have l2 : (i : Int) < ((y.map (·.f0)).length : Int) := by rw [List.length_map]; omega
      refine ev_succ (fun k => spec_l1Compare.l0_eq k _ _ _ _ _) (ev_dt l1 (ev_dt l2 (ev_gd (by rw [List.length_map]; omega) (ev_gd (by rw [List.length_map]; omega) ?_))))
      rw [g1, g2, g3, g4, w_succ (by omega)]
      refine ev_bind (ih _ (List.getElem_mem h1) _ (by omega) (by omega)) ?_
      by_cases hc : cL x[i].f1 y[i].f1 = 0
      · rw [if_pos hc]
        refine ev_nf (decide_eq_true hc) (ev_gd ⟨by omega, l1⟩ (ev_gd ⟨by omega, l2⟩ ?_))
        by_cases ht : x[i].f0 = y[i].f0
        · rw [if_neg (show ¬ x[i].f0 < y[i].f0 by omega), if_neg (show ¬ x[i].f0 > y[i].f0 by omega), if_pos rfl]
          exact ev_nf (decide_eq_true ht) (ihd (i + 1) (by omega))
        · refine ev_nt (decide_eq_false ht) (ev_gd ⟨by omega, l1⟩ (ev_gd ⟨by omega, l2⟩ ?_))
          by_cases hlt : x[i].f0 < y[i].f0
          · rw [if_pos hlt, if_neg (show ¬ (-1 : Int) = 0 by omega)]; exact ev_dt hlt (ev_some.2 rfl)
          · rw [if_neg hlt, if_pos (show x[i].f0 > y[i].f0 by omega), if_neg (show ¬ (1 : Int) = 0 by omega)]; exact ev_df hlt (ev_some.2 rfl)
      · rw [if_neg hc, if_neg hc]
        exact ev_nt (decide_eq_false hc) (ev_some.2 rfl)
  exact ev_succ (fun k => spec_l1Compare.f_eq k _ _) (ev_bind (terms_ev x hx) (ev_bind (terms_ev y hy) (loop (min x.length y.length) 0 (by omega))))
/-- Where an ordinal ends. -/
def eR (n : Nat) : Option (List Term × List Int) → Int
  | some (_, r) => (n : Int) - (r.length : Int)
  | none => -1
theorem end_ev (r : List Int) (hr : r.length ≤ 1000000) : ∀ (N a : Nat), r.length ≤ a + N → a ≤ r.length → Ev (fun k => spec_l1End.f k r (a : Int)) (eR r.length (tO1 (r.drop a))) := by
  intro N
  induction N with
  | zero =>
    intro a h1 h2
    refine ev_succ (fun k => spec_l1End.f_eq k _ _) (ev_dt (by omega) (ev_some.2 ?_))
    rw [List.drop_eq_nil_of_le (by omega)]
    rfl
  | succ N ih =>
    intro a h1 h2
    have loop : ∀ (d i b : Nat) (last : List Int) (p : Option (List Term)), r.length ≤ b + N → b ≤ r.length → i + d ≤ 60 → (i = 0 → p = none) → (0 < i → ∃ q, p = some q ∧ last = row q ∧ size q ≤ 1000000) →
        Ev (fun k => spec_l1End.l0 k r (b : Int) ((i + d : Nat) : Int) last (i : Int)) (eR r.length (tO (r.drop b).length d p (r.drop b))) := by
      intro d
      induction d with
      | zero =>
        intro i b last p hb hb2 hi hp0 hp1
        refine ev_succ (fun k => spec_l1End.l0_eq k _ _ _ _ _) (ev_df (by first | omega | (simp only [List.length_append, List.length_cons, List.length_nil, List.length_map, List.length_take, List.length_drop, limE]; omega) | (simp [limE] <;> omega)) (ev_some.2 ?_))
        simp only [tO, eR, List.length_drop]
        omega
      | succ d ihd =>
        intro i b last p hb hb2 hi hp0 hp1
        refine ev_succ (fun k => spec_l1End.l0_eq k _ _ _ _ _) (ev_dt (by first | omega | (simp only [List.length_append, List.length_cons, List.length_nil, List.length_map, List.length_take, List.length_drop, limE]; omega) | (simp [limE] <;> omega)) ?_)
        by_cases hlt : b < r.length
        · have hdr := List.drop_eq_getElem_cons hlt
          have hT := tO_step (f := (r.drop (b + 1)).length) (n := d) (p := p) (c := r[b]) (l := r.drop (b + 1)) (Nat.le_refl _)
          rw [hdr, show tO (r[b] :: r.drop (b + 1)).length (d + 1) p (r[b] :: r.drop (b + 1)) = _ from hT]
          refine ev_df (by omega) (ev_gd (by first | omega | (simp only [List.length_append, List.length_cons, List.length_nil, List.length_map, List.length_take, List.length_drop, limE]; omega) | (simp [limE] <;> omega)) (ev_bind (l1In_ev _ _ _) ?_))
          rw [get_at hlt]
          by_cases hc : r[b] < 1 ∨ r[b] > 9999
          · rw [if_pos hc]
            refine ev_nt ?_ (ev_some.2 rfl)
            rcases hc with hc | hc
            · simp; omega
            · simp; omega
          · rw [if_neg hc, w_succ (by omega)]
            refine ev_nf (by simp <;> omega) (ev_bind (ih (b + 1) (by omega) (by omega)) ?_)
            cases ht : tO1 (r.drop (b + 1)) with
            | none => exact ev_dt (by simp [eR]) (ev_some.2 rfl)
            | some q =>
              obtain ⟨e, r'⟩ := q
              have hl := tO1_len ht
              rw [List.length_drop] at hl
              obtain ⟨g1, g2, g3⟩ := tO1_sound ht
              have hsz : size e + r'.length = r.length - (b + 1) := by
                have := congrArg List.length g1
                rw [List.length_append, row_len, List.length_drop] at this
                omega
              have he : eR r.length (some (e, r')) = ((b + 1 + size e : Nat) : Int) := by simp only [eR]; omega
              have hsl : (r.take (b + 1 + size e)).drop (b + 1) = row e := by
                have := slice_at g1
                rw [row_len] at this
                exact this
              have hrest : r.drop (b + 1 + size e) = r' := by
                have := drop_more g1
                rw [row_len] at this
                exact this
              rw [he]
              refine ev_df (by omega) ?_
              rw [Int.toNat_natCast, Int.toNat_natCast, hsl]
              have next : pv p e = false → Ev (fun k => spec_l1End.l0 k r ((b + 1 + size e : Nat) : Int) ((i + (d + 1) : Nat) : Int) (row e) (wr ((i : Int) + 1))) (eR r.length (if pv p e = true then none else match tO r'.length d (some e) r' with | none => none | some (x, r'') => some (⟨r[b], e⟩ :: x, r''))) := by
                intro hp
                rw [hp, if_neg (by simp), w_succ (by omega)]
                have := ihd (i + 1) (b + 1 + size e) (row e) (some e) (by omega) (by omega) (by omega) (by omega) (fun _ => ⟨e, rfl, rfl, by omega⟩)
                rw [show i + 1 + d = i + (d + 1) by omega, hrest] at this
                revert this
                cases tO r'.length d (some e) r' with
                | none => exact id
                | some q => exact id
              by_cases h3 : (i : Int) > 0
              · obtain ⟨q, rfl, hq, hqs⟩ := hp1 (by omega)
                rw [hq]
                refine ev_dt h3 (ev_gd (by omega) (ev_bind (scompare_ev e q (by omega) (by omega)) ?_))
                by_cases h4 : cL e q ≥ 0
                · refine ev_dt h4 (ev_some.2 ?_)
                  have hpv : pv (some q) e = true := decide_eq_true h4
                  simp only [hpv, if_true, eR]
                · exact ev_df h4 (ev_gd (by omega) (next (decide_eq_false h4)))
              · obtain rfl := hp0 (by omega)
                exact ev_df h3 (ev_gd (by omega) (next rfl))
        · refine ev_dt (by omega) (ev_some.2 ?_)
          rw [List.drop_eq_nil_of_le (by omega)]
          simp [tO, eR]
    refine ev_succ (fun k => spec_l1End.f_eq k _ _) ?_
    by_cases hlt : a < r.length
    · have hdr := List.drop_eq_getElem_cons hlt
      refine ev_df (by omega) (ev_gd (by first | omega | (simp only [List.length_append, List.length_cons, List.length_nil, List.length_map, List.length_take, List.length_drop, limE]; omega) | (simp [limE] <;> omega)) (ev_bind (l1In_ev _ _ _) ?_))
      rw [get_at hlt, hdr]
      simp only [tO1]
      by_cases hc : r[a] < 0 ∨ r[a] > 60
      · rw [if_pos hc]
        refine ev_nt ?_ (ev_some.2 rfl)
        rcases hc with hc | hc
        · simp; omega
        · simp; omega
      · rw [if_neg hc, w_succ (by omega)]
        refine ev_nf (by simp <;> omega) (ev_gd (by first | omega | (simp only [List.length_append, List.length_cons, List.length_nil, List.length_map, List.length_take, List.length_drop, limE]; omega) | (simp [limE] <;> omega)) ?_)
        have := loop r[a].toNat 0 (a + 1) [] none (by omega) (by omega) (by omega) (fun _ => rfl) (fun h => by omega)
        rw [show ((0 + r[a].toNat : Nat) : Int) = r[a] by omega] at this
        exact this
    · refine ev_dt (by omega) (ev_some.2 ?_)
      rw [List.drop_eq_nil_of_le (by omega)]
      rfl
theorem valid_ev (r : List Int) : Ev (fun k => spec_OrdValid.f k r) (OV r) := by
  refine ev_succ (fun k => spec_OrdValid.f_eq k r) (ev_bind (l1In_ev _ _ _) ?_)
  by_cases hl : 1 ≤ r.length ∧ r.length ≤ 60
  · refine ev_bt (by simp <;> omega) (ev_bind (end_ev r (by omega) r.length 0 (by omega) (by omega)) (ev_some.2 ?_))
    unfold OV
    rw [decide_eq_true hl, Bool.true_and, List.drop_zero]
    cases h1 : tO1 r with
    | none => simp only [eR]; exact decide_eq_false (by omega)
    | some p =>
      obtain ⟨hs, r'⟩ := p
      simp only [eR]
      cases r' with
      | nil => simp
      | cons x r' => exact decide_eq_false (by simp only [List.length_cons]; omega)
  · refine ev_bf ?_ (ev_some.2 ?_)
    · simp <;> omega
    · unfold OV; rw [decide_eq_false hl, Bool.false_and]
theorem fit_ev (r : List Int) : Ev (fun k => spec_l2Fit.f k r) (if OV r = true then (r, true) else ([], false)) := by
  refine ev_succ (fun k => spec_l2Fit.f_eq k r) (ev_bind (valid_ev r) ?_)
  cases h : OV r with
  | true => exact ev_nf rfl (ev_some.2 rfl)
  | false => exact ev_nt rfl (ev_some.2 rfl)
/-! Rows and their trees. -/
theorem row_one (x : List Term) : ((row x).length : Int) = 1 ↔ x = [] := by
  rw [row_len]
  cases x with
  | nil => simp [size_nil]
  | cons t x => rw [size_cons]; have := size_pos t.f1; have := size_pos x; simp; omega
theorem map_get {α β : Type} (f : α → β) (x : List α) (i : Nat) (d : β) (h : i < x.length) : (x.map f).getD (i : Int).toNat d = f x[i] := by
  rw [get_at (by rw [List.length_map]; exact h), List.getElem_map]
/-- The tree of a row. -/
def tr (r : List Int) : List Term := match tO1 r with
  | some (x, _) => x
  | none => []
theorem tr_row {x : List Term} (h : Fit x) : tr (row x) = x := by
  have hs := h.s
  have := tO1_complete [] h.v h.m (by omega)
  rw [List.append_nil] at this
  simp only [tr, this]
theorem tr_fit {r : List Int} (h : OV r = true) : r = row (tr r) ∧ Fit (tr r) := by
  obtain ⟨x, h1, h2, h3⟩ := OV_tree h
  have : tr r = x := by rw [h1]; exact tr_row h2
  rw [this]
  exact ⟨h1, h2⟩
theorem ordOf_tr (r : List Int) : EvP (fun k => impl_ordOf.f k r) (fun x => x.2 = OV r ∧ (OV r = true → x.1 = tr r)) :=
  evp_mono (ordOf_ev r) fun x hx => ⟨hx.1, fun h => by
    obtain ⟨h1, h2⟩ := hx.2 h
    rw [h1, tr_row h2]⟩
/-! Numbers and powers as ordinals. -/
def nm (n : Int) : List Term := if n = 0 then [] else [⟨n, []⟩]
theorem nm_fit {n : Int} (h0 : 0 ≤ n) (h1 : n ≤ 9999) : Fit (nm n) := by
  unfold nm
  split
  · exact ⟨vL_nil, by rw [mL_nil]; omega, by rw [size_nil]; omega⟩
  · exact ⟨(vL_one _).2 ⟨by show 1 ≤ n; omega, vL_nil⟩, by rw [mL_cons, mL_nil]; show max (max n 0) 0 ≤ 9999; omega, by rw [size_cons, size_nil]; show 1 + size [] + 1 ≤ 60; rw [size_nil]; omega⟩
theorem number_ev (n : Int) : Ev (fun k => impl_number.f k n) (nm n) := by
  refine ev_succ (fun k => impl_number.f_eq k n) ?_
  unfold nm
  by_cases h : n = 0
  · rw [if_pos h]; exact ev_dt h (ev_some.2 rfl)
  · rw [if_neg h]; exact ev_df h (ev_some.2 rfl)
theorem implOrdOf_ev {n : Int} (h0 : 0 ≤ n) (h1 : n ≤ 9999) : Ev (fun k => impl_OrdOf.f k n) (row (nm n)) := by
  have hs := (nm_fit h0 h1).s
  exact ev_succ (fun k => impl_OrdOf.f_eq k n) (ev_df (by omega) (ev_df (by omega) (ev_bind (number_ev n) (ev_bind (rowOf_ev _ (by omega)) (ev_some.2 rfl)))))
/-! Ordinals drawn. -/
theorem sOrdOf_ev {n : Int} (h0 : 0 ≤ n) (h1 : n ≤ 9999) : Ev (fun k => spec_OrdOf.f k n) (row (nm n)) := by
  refine ev_succ (fun k => spec_OrdOf.f_eq k n) (ev_bind (l1In_ev _ _ _) (ev_nf (by simp <;> omega) ?_))
  unfold nm
  by_cases h : n = 0
  · rw [if_pos h]; exact ev_dt h (ev_some.2 (by simp [row, fL_nil]))
  · rw [if_neg h]; exact ev_df h (ev_some.2 (by simp [row, fL_nil, fL_cons]))
def SB : Nat → Nat
  | 0 => 3
  | n + 1 => 4 + 3 * SB n
def CB : Nat → Nat
  | 0 => 1
  | n + 1 => 13 + 3 * CB n
theorem SB_mono {m n : Nat} (h : m ≤ n) : SB m ≤ SB n := by
  induction h with
  | refl => exact Nat.le_refl _
  | step _ ih => simp only [SB]; omega
theorem CB_mono {m n : Nat} (h : m ≤ n) : CB m ≤ CB n := by
  induction h with
  | refl => exact Nat.le_refl _
  | step _ ih => simp only [CB]; omega
theorem size_bound {x : List Term} {B : Nat} (h : ∀ t ∈ x, size t.f1 ≤ B) : size x ≤ 1 + x.length * (1 + B) := by
  induction x with
  | nil => simp [size_nil]
  | cons t x ih =>
    have h1 := h t List.mem_cons_self
    have h2 := ih fun u hu => h u (List.mem_cons_of_mem _ hu)
    rw [size_cons, List.length_cons, Nat.add_mul (x.length) 1]
    omega
def RawOk (b : List Int) (p : Int) (S C : Nat) (x : List Int × Rd) : Prop := ∃ y, x.1 = row y ∧ size y ≤ S ∧ At b p (p + C) x.2
theorem raw_ev {b : List Int} (hb : BOK b) : ∀ (N n : Nat), n ≤ N → N ≤ 3 → ∀ p : Int, 0 ≤ p → p + 10000 * N ≤ 900000000000 → EvP (fun k => spec_l20Raw.f k b p (n : Int)) (RawOk b p (SB n) (CB n)) := by
  intro N
  induction N with
  | zero =>
    intro n hn _ p h0 h1
    obtain rfl : n = 0 := by omega
    refine evp_succ (fun k => spec_l20Raw.f_eq k _ _ _) (evp_d (fun _ => ?_) (fun h => absurd rfl h))
    refine evp_bind (pick_ev hb h0 (by omega) (by omega)) (fun a ⟨ha, a1, a2⟩ => ?_)
    refine evp_bindv (sOrdOf_ev a1 (by omega)) (evp_some ⟨nm a.1, rfl, ?_, ?_⟩)
    · show size (nm a.1) ≤ 3
      unfold nm
      split
      · rw [size_nil]; omega
      · rw [size_cons, size_nil]; show 1 + size [] + 1 ≤ 3; rw [size_nil]; omega
    · rw [ha]; exact ⟨rfl, by simp <;> omega, by simp [CB]⟩
  | succ N ih =>
    intro n hn hN p h0 h1
    cases n with
    | zero => exact ih 0 (by omega) (by omega) p h0 (by omega)
    | succ n =>
      have hSB : SB n ≤ 43 := by
        have : n = 0 ∨ n = 1 ∨ n = 2 := by omega
        rcases this with rfl | rfl | rfl <;> decide
      have hCB : CB n ≤ 61 := by
        have : n = 0 ∨ n = 1 ∨ n = 2 := by omega
        rcases this with rfl | rfl | rfl <;> decide
      have loop : ∀ (c : Nat) (ts : List Term) (p : Int), ts.length + c ≤ 3 → (∀ t ∈ ts, size t.f1 ≤ SB n) → 0 ≤ p → p + 10000 * N + 100 * c ≤ 899999999000 → EvP (fun k => spec_l20Raw.l0 k b p ((n + 1 : Nat) : Int) (ts.map (·.f0)) (ts.map fun t => row t.f1) (c : Int)) (RawOk b p (SB (n + 1)) (c * (4 + CB n))) := by
        intro c
        induction c with
        | zero =>
          intro ts p hc hs h0 h1
          have hsz := size_bound hs
          have : ts.length * (1 + SB n) ≤ 3 * (1 + SB n) := Nat.mul_le_mul_right _ (by omega)
          refine evp_succ (fun k => spec_l20Raw.l0_eq k _ _ _ _ _ _) (evp_d (fun h => by omega) (fun _ => ?_))
          exact evp_bindv (make_ev ts (by omega)) (evp_some ⟨ts, rfl, by simp only [SB]; omega, rfl, by simp, by simp⟩)
        | succ c ihc =>
          intro ts p hc hs h0 h1
          -- with an exponent
          have body : ∀ (e : List Term) (q : Int), size e ≤ SB n → p ≤ q → q ≤ p + 2 + CB n → EvP (fun k => spec_l20Raw.j0 k b q ((n + 1 : Nat) : Int) (ts.map (·.f0)) (ts.map fun t => row t.f1) ((c + 1 : Nat) : Int) (row e)) (RawOk b p (SB (n + 1)) ((c + 1) * (4 + CB n))) := by
            intro e q he hq1 hq2
            have next : ∀ (us : List Term) (q' : Int), us.length + c ≤ 3 → (∀ t ∈ us, size t.f1 ≤ SB n) → q ≤ q' → q' ≤ q + 2 → EvP (fun k => spec_l20Raw.l0 k b q' ((n + 1 : Nat) : Int) (us.map (·.f0)) (us.map fun t => row t.f1) (wr (((c + 1 : Nat) : Int) - 1))) (RawOk b p (SB (n + 1)) ((c + 1) * (4 + CB n))) := by
              intro us q' hu1 hu2 h3 h4
              rw [show wr (((c + 1 : Nat) : Int) - 1) = (c : Int) by rw [w64 (by omega) (by omega)]; omega]
              refine evp_mono (ihc us q' hu1 hu2 (by omega) (by omega)) (fun x ⟨y, y1, y2, y3, y4, y5⟩ => ⟨y, y1, y2, y3, by omega, ?_⟩)
              rw [Nat.add_mul]
              omega
            -- put in between
            have ins : ∀ at_ : Nat, at_ ≤ ts.length → EvP (fun k => gate (decide (0 ≤ (0 : Int) ∧ (0 : Int) ≤ (at_ : Int) ∧ (at_ : Int) ≤ ((ts.map (·.f0)).length : Int))) <| gate (decide (([] : List Int).length + (((ts.map (·.f0)).take (at_ : Int).toNat).drop ((0 : Int).toNat)).length < lim)) <| (spec_l20Rd__pick.f k b q 3).bind fun r10 => (spec_l20Rd__pick.f k r10.2.1 r10.2.2.1 60).bind fun r11 => gate (decide ((([] : List Int) ++ (((ts.map (·.f0)).take (at_ : Int).toNat).drop ((0 : Int).toNat))).length + ([(wr ((wr (1 + r10.1)) + (wr ((wr (r11.1.tdiv 59)) * 60))))] : List Int).length < lim)) <| gate (decide (0 ≤ (at_ : Int) ∧ (at_ : Int) ≤ ((ts.map (·.f0)).length : Int) ∧ ((ts.map (·.f0)).length : Int) ≤ ((ts.map (·.f0)).length : Int))) <| gate (decide (((([] : List Int) ++ (((ts.map (·.f0)).take (at_ : Int).toNat).drop ((0 : Int).toNat))) ++ ([(wr ((wr (1 + r10.1)) + (wr ((wr (r11.1.tdiv 59)) * 60))))] : List Int)).length + (((ts.map (·.f0)).take (((ts.map (·.f0)).length : Int).toNat)).drop (at_ : Int).toNat).length < lim)) <| gate (decide (0 ≤ (0 : Int) ∧ (0 : Int) ≤ (at_ : Int) ∧ (at_ : Int) ≤ ((ts.map fun t => row t.f1).length : Int))) <| gate (decide (([] : List (List Int)).length + (((ts.map fun t => row t.f1).take (at_ : Int).toNat).drop (0 : Int).toNat).length < lim)) <| gate (decide ((([] : List (List Int)) ++ (((ts.map fun t => row t.f1).take (at_ : Int).toNat).drop (0 : Int).toNat)).length + ([row e] : List (List Int)).length < lim)) <| gate (decide (0 ≤ (at_ : Int) ∧ (at_ : Int) ≤ ((ts.map fun t => row t.f1).length : Int) ∧ ((ts.map fun t => row t.f1).length : Int) ≤ ((ts.map fun t => row t.f1).length : Int))) <| gate (decide (((([] : List (List Int)) ++ (((ts.map fun t => row t.f1).take (at_ : Int).toNat).drop (0 : Int).toNat)) ++ ([row e] : List (List Int))).length + (((ts.map fun t => row t.f1).take ((ts.map fun t => row t.f1).length : Int).toNat).drop (at_ : Int).toNat).length < lim)) <| spec_l20Raw.l0 k r11.2.1 r11.2.2.1 ((n + 1 : Nat) : Int) (((([] : List Int) ++ (((ts.map (·.f0)).take (at_ : Int).toNat).drop ((0 : Int).toNat))) ++ ([(wr ((wr (1 + r10.1)) + (wr ((wr (r11.1.tdiv 59)) * 60))))] : List Int)) ++ (((ts.map (·.f0)).take (((ts.map (·.f0)).length : Int).toNat)).drop (at_ : Int).toNat)) (((([] : List (List Int)) ++ (((ts.map fun t => row t.f1).take (at_ : Int).toNat).drop (0 : Int).toNat)) ++ ([row e] : List (List Int))) ++ (((ts.map fun t => row t.f1).take ((ts.map fun t => row t.f1).length : Int).toNat).drop (at_ : Int).toNat)) (wr (((c + 1 : Nat) : Int) - 1))) (RawOk b p (SB (n + 1)) ((c + 1) * (4 + CB n))) := by
              intro at_ hat
              have L1 : (ts.map (·.f0)).length = ts.length := List.length_map _
              have L2 : (ts.map fun t => row t.f1).length = ts.length := List.length_map _
              have T1 : (ts.map (·.f0)).take ts.length = ts.map (·.f0) := List.take_of_length_le (by simp)
              have T2 : (ts.map fun t => row t.f1).take ts.length = ts.map fun t => row t.f1 := List.take_of_length_le (by simp)
              refine evp_gd (by rw [L1]; omega) (evp_gd (by simp [limE] <;> omega) ?_)
              refine evp_bind (pick_ev hb (by omega) (by omega) (by omega)) (fun a1 ⟨e1, _⟩ => ?_)
              rw [e1]
              refine evp_bind (pick_ev hb (by simp <;> omega) (by simp <;> omega) (by omega)) (fun a2 ⟨e2, _⟩ => ?_)
              rw [e2]
              refine evp_gd (by simp [limE] <;> omega) (evp_gd (by rw [L1]; omega) (evp_gd (by simp [limE] <;> omega) (evp_gd (by rw [L2]; omega) (evp_gd (by simp [limE] <;> omega) (evp_gd (by simp [limE] <;> omega) (evp_gd (by rw [L2]; omega) (evp_gd (by simp [limE] <;> omega) ?_)))))))
              have := next (ts.take at_ ++ [⟨wr (wr (1 + a1.1) + wr (wr (a2.1.tdiv 59) * 60)), e⟩] ++ ts.drop at_) (q + 1 + 1) (by simp <;> omega) (fun t ht => by
                rcases List.mem_append.1 ht with ht | ht
                · rcases List.mem_append.1 ht with ht | ht
                  · exact hs t (List.mem_of_mem_take ht)
                  · rw [List.mem_singleton.1 ht]; exact he
                · exact hs t (List.mem_of_mem_drop ht)) (by omega) (by omega)
              simpa [T1, T2] using this
            -- one more of a term
            have j1 : ∀ at_ : Nat, at_ < ts.length → EvP (fun k => spec_l20Raw.j1 k b q ((n + 1 : Nat) : Int) (ts.map (·.f0)) (ts.map fun t => row t.f1) ((c + 1 : Nat) : Int) (at_ : Int)) (RawOk b p (SB (n + 1)) ((c + 1) * (4 + CB n))) := by
              intro at_ hat
              have L1 : (ts.map (·.f0)).length = ts.length := List.length_map _
              refine evp_succ (fun k => spec_l20Raw.j1_eq k _ _ _ _ _ _ _) (evp_gd (by rw [L1]; omega) (evp_gd (by rw [L1]; omega) (evp_gd (by rw [L1]; omega) ?_)))
              rw [Int.toNat_natCast]
              have := next (ts.set at_ ⟨wr ((ts.map (·.f0)).getD at_ 0 + 1), ts[at_].f1⟩) q (by simp <;> omega) (fun t ht => by
                rcases List.mem_or_eq_of_mem_set ht with ht | ht
                · exact hs t ht
                · rw [ht]; show size ts[at_].f1 ≤ SB n; exact hs _ (List.getElem_mem hat)) (by omega) (by omega)
              rw [List.map_set, List.map_set] at this
              have e3 : (ts.map fun t => row t.f1).set at_ (row ts[at_].f1) = ts.map fun t => row t.f1 := by
                apply List.ext_getElem (by simp)
                intro i h1 h2
                rw [List.getElem_set]
                split
                · rename_i h; subst h; simp
                · rfl
              simp only [e3] at this
              exact this
            refine evp_succ (fun k => spec_l20Raw.j0_eq k _ _ _ _ _ _ _) ?_
            have l1 : ∀ d at_ : Nat, at_ + d = ts.length → EvP (fun k => spec_l20Raw.l1 k b q ((n + 1 : Nat) : Int) (ts.map (·.f0)) (ts.map fun t => row t.f1) ((c + 1 : Nat) : Int) (row e) (at_ : Int)) (RawOk b p (SB (n + 1)) ((c + 1) * (4 + CB n))) := by
              intro d
              have L2 : (ts.map fun t => row t.f1).length = ts.length := List.length_map _
              induction d with
              | zero =>
                intro at_ ha
                refine evp_succ (fun k => spec_l20Raw.l1_eq k _ _ _ _ _ _ _ _) (evp_d (fun h => by rw [L2] at h; omega) (fun _ => evp_d (fun h => by rw [L2] at h; omega) (fun _ => ?_)))
                exact ins at_ (by omega)
              | succ d ihd =>
                intro at_ ha
                have hlt : at_ < ts.length := by omega
                have hsz := hs _ (List.getElem_mem hlt)
                have hg : (ts.map fun t => row t.f1).getD (at_ : Int).toNat [] = row ts[at_].f1 := map_get _ _ _ _ hlt
                refine evp_succ (fun k => spec_l20Raw.l1_eq k _ _ _ _ _ _ _ _) (evp_d (fun _ => evp_gd (by rw [L2]; omega) ?_) (fun h => by rw [L2] at h; omega))
                rw [hg]
                refine evp_bindv (scompare_ev _ _ (by omega) (by omega)) (evp_d (fun _ => ?_) (fun _ => evp_d (fun _ => evp_gd (by rw [L2]; omega) (evp_bindv (scompare_ev _ _ (by omega) (by omega)) (evp_d (fun _ => j1 at_ hlt) (fun _ => ins at_ (by omega))))) (fun h => by rw [L2] at h; omega)))
                rw [w_succ (by omega)]
                exact ihd (at_ + 1) (by omega)
            exact l1 ts.length 0 (by omega)
          refine evp_succ (fun k => spec_l20Raw.l0_eq k _ _ _ _ _ _) (evp_d (fun _ => ?_) (fun h => by omega))
          refine evp_bind (pick_ev hb h0 (by omega) (by omega)) (fun a ⟨ha, a1, a2⟩ => ?_)
          rw [ha]
          refine evp_d (fun _ => ?_) (fun _ => ?_)
          · refine evp_bind (pick_ev hb (by simp <;> omega) (by simp <;> omega) (by omega)) (fun a' ⟨ha', a1', a2'⟩ => ?_)
            rw [ha']
            have hr := ih a'.1.toNat (by omega) (by omega) (p + 1 + 1) (by omega) (by omega)
            rw [show ((a'.1.toNat : Nat) : Int) = a'.1 by omega] at hr
            refine evp_bind hr (fun x ⟨y, y1, y2, y3, y4, y5⟩ => ?_)
            obtain ⟨r, b', q, u⟩ := x
            simp only at y1 y3 y4 y5
            subst y3
            subst y1
            have := SB_mono (show a'.1.toNat ≤ n by omega)
            have := CB_mono (show a'.1.toNat ≤ n by omega)
            exact body y q (by omega) (by omega) (by omega)
          · have e0 : ([0] : List Int) = row [] := by simp [row, fL_nil]
            rw [e0]
            refine body [] (p + 1) ?_ (by omega) (by omega)
            rw [size_nil]
            have := SB_mono (Nat.zero_le n)
            simp only [SB] at this
            omega
      refine evp_succ (fun k => spec_l20Raw.f_eq k _ _ _) (evp_d (fun h => by omega) (fun _ => ?_))
      refine evp_bind (pick_ev hb h0 (by omega) (by omega)) (fun a ⟨ha, a1, a2⟩ => ?_)
      rw [ha]
      have := loop a.1.toNat [] (p + 1) (by simp <;> omega) (by intro t ht; cases ht) (by omega) (by omega)
      rw [show ((a.1.toNat : Nat) : Int) = a.1 by omega] at this
      refine evp_mono this (fun x ⟨y, y1, y2, y3, y4, y5⟩ => ⟨y, y1, y2, y3, by omega, ?_⟩)
      have h3 : a.1.toNat * (4 + CB n) ≤ 3 * (4 + CB n) := Nat.mul_le_mul_right _ (by omega)
      simp only [CB]
      omega
/-- A row of some numbers, and the reader not far on. -/
def Drawn (b : List Int) (p : Int) (S C : Nat) (x : List Int × Rd) : Prop := x.1.length ≤ S ∧ At b p (p + C) x.2
theorem ord_l0 {b : List Int} (hb : BOK b) (m : Int) (hm : m < 9223372036854775807) : ∀ (d i : Nat) (p : Int) (o : List Int), i + d = 4 → 0 ≤ p → p ≤ 800000000000 + 1000 * i → o.length ≤ 500 → EvP (fun k => spec_l20Ord.l0 k b p m o (i : Int)) (Drawn b p 501 (500 * (d + 1))) := by
  intro d
  have fin : ∀ (p : Int) (o : List Int), 0 ≤ p → p ≤ 900000000000 → o.length ≤ 500 → EvP (fun k => (spec_l20Rd__odd.f k b p m).bind fun r3 => br (r3.1) ((spec_l20Rd__pick.f k r3.2.1 r3.2.2.1 5).bind fun r4 => br (decide (r4.1 = 0)) (some (([] : List Int), r4.2)) (br (decide (r4.1 = 1)) (gate (decide (([] : List Int).length + o.length < lim)) <| gate (decide ((([] : List Int) ++ o).length + ([0] : List Int).length < lim)) <| some (((([] : List Int) ++ o) ++ ([0] : List Int)), r4.2)) (br (decide (r4.1 = 2)) (some (([2, 1, 0, 1, 1, 1, 0] : List Int), r4.2)) (br (decide (r4.1 = 3)) (some (([1, 0, 0] : List Int), r4.2)) (some (([1, 10000, 0] : List Int), r4.2)))))) (some (o, r3.2))) (Drawn b p 501 2) := by
    intro p o h0 h1 ho
    refine evp_bind (odd_ev hb h0 (by omega) hm) (fun a ⟨a1, a2, a3⟩ => ?_)
    obtain ⟨c, b', q, u⟩ := a
    simp only at a1 a2 a3
    subst a1
    dsimp only
    refine evp_b (fun _ => evp_bind (pick_ev hb (by omega) (by omega) (by omega)) (fun e ⟨e1, e2, e3⟩ => ?_)) (fun _ => evp_some ⟨by show o.length ≤ 501; omega, rfl, by simp <;> omega, by simp <;> omega⟩)
    rw [e1]
    refine evp_d (fun _ => evp_some ⟨by simp, rfl, by simp <;> omega, by simp <;> omega⟩) (fun _ => evp_d (fun _ => evp_gd (by simp [limE]; omega) (evp_gd (by simp [limE]; omega) (evp_some ⟨by simp <;> omega, rfl, by simp <;> omega, by simp <;> omega⟩))) (fun _ => evp_d (fun _ => ?_) (fun _ => evp_d (fun _ => ?_) (fun _ => ?_))))
    · exact evp_some ⟨by simp, rfl, by simp <;> omega, by simp <;> omega⟩
    · exact evp_some ⟨by simp, rfl, by simp <;> omega, by simp <;> omega⟩
    · exact evp_some ⟨by simp, rfl, by simp <;> omega, by simp <;> omega⟩
  induction d with
  | zero =>
    intro i p o hi h0 h1 ho
    refine evp_succ (fun k => spec_l20Ord.l0_eq k _ _ _ _ _) (evp_d (fun h => by omega) (fun _ => ?_))
    exact evp_mono (fin p o h0 (by omega) ho) (fun x ⟨a, b, c, d⟩ => ⟨a, b, c, by omega⟩)
  | succ d ih =>
    intro i p o hi h0 h1 ho
    refine evp_succ (fun k => spec_l20Ord.l0_eq k _ _ _ _ _) (evp_d (fun _ => evp_d (fun _ => ?_) (fun _ => ?_)) (fun h => by omega))
    · refine evp_bind (raw_ev hb 2 2 (by omega) (by omega) p h0 (by omega)) (fun x ⟨y, y1, y2, y3, y4, y5⟩ => ?_)
      obtain ⟨r, b', q, u⟩ := x
      simp only at y1 y3 y4 y5
      subst y3
      have e1 : SB 2 = 43 := by decide
      have e2 : CB 2 = 61 := by decide
      rw [w_succ (by omega)]
      refine evp_mono (ih (i + 1) q r (by omega) (by omega) (by omega) (by rw [y1, row_len]; omega)) (fun x ⟨x1, x2, x3, x4⟩ => ⟨x1, x2, by omega, by omega⟩)
    · exact evp_mono (fin p o h0 (by omega) ho) (fun x ⟨a, b, c, d⟩ => ⟨a, b, c, by omega⟩)
theorem ord_ev {b : List Int} (hb : BOK b) (m : Int) (hm : m < 9223372036854775807) (p : Int) (h0 : 0 ≤ p) (h1 : p ≤ 700000000000) : EvP (fun k => spec_l20Ord.f k b p m) (Drawn b p 501 3000) := by
  refine evp_succ (fun k => spec_l20Ord.f_eq k _ _ _) (evp_bind (raw_ev hb 3 3 (by omega) (by omega) p h0 (by omega)) (fun x ⟨y, y1, y2, y3, y4, y5⟩ => ?_))
  obtain ⟨r, b', q, u⟩ := x
  simp only at y1 y3 y4 y5
  subst y3
  have e1 : SB 3 = 133 := by decide
  have e2 : CB 3 = 196 := by decide
  exact evp_mono (ord_l0 hb m hm 4 0 q r (by omega) (by omega) (by omega) (by rw [y1, row_len]; omega)) (fun x ⟨x1, x2, x3, x4⟩ => ⟨x1, x2, by omega, by omega⟩)
theorem little_l0 {b : List Int} (hb : BOK b) : ∀ (d i : Nat) (p : Int) (o : List Int), i + d = 4 → 0 ≤ p → p ≤ 800000000000 + 1000 * i → o.length ≤ 500 → EvP (fun k => spec_l20Little.l0 k b p o (i : Int)) (Drawn b p 501 (500 * (d + 1))) := by
  intro d
  induction d with
  | zero =>
    intro i p o hi h0 h1 ho
    exact evp_succ (fun k => spec_l20Little.l0_eq k _ _ _ _) (evp_d (fun h => by omega) (fun _ => evp_some ⟨by show o.length ≤ 501; omega, rfl, by simp, by simp <;> omega⟩))
  | succ d ih =>
    intro i p o hi h0 h1 ho
    refine evp_succ (fun k => spec_l20Little.l0_eq k _ _ _ _) (evp_d (fun _ => evp_d (fun _ => ?_) (fun _ => ?_)) (fun h => by omega))
    · refine evp_bind (raw_ev hb 1 1 (by omega) (by omega) p h0 (by omega)) (fun x ⟨y, y1, y2, y3, y4, y5⟩ => ?_)
      obtain ⟨r, b', q, u⟩ := x
      simp only at y1 y3 y4 y5
      subst y3
      have e1 : SB 1 = 13 := by decide
      have e2 : CB 1 = 16 := by decide
      rw [w_succ (by omega)]
      refine evp_mono (ih (i + 1) q r (by omega) (by omega) (by omega) (by rw [y1, row_len]; omega)) (fun x ⟨x1, x2, x3, x4⟩ => ⟨x1, x2, by omega, by omega⟩)
    · exact evp_some ⟨by show o.length ≤ 501; omega, rfl, by simp, by simp <;> omega⟩
theorem little_ev {b : List Int} (hb : BOK b) (m : Int) (hm : m < 9223372036854775807) (p : Int) (h0 : 0 ≤ p) (h1 : p ≤ 600000000000) : EvP (fun k => spec_l20Little.f k b p m) (Drawn b p 501 4000) := by
  refine evp_succ (fun k => spec_l20Little.f_eq k _ _ _) (evp_bind (odd_ev hb h0 (by omega) hm) (fun a ⟨a1, a2, a3⟩ => ?_))
  obtain ⟨c, b', q, u⟩ := a
  simp only at a1 a2 a3
  subst a1
  dsimp only
  refine evp_b (fun _ => ?_) (fun _ => ?_)
  · exact evp_bind (ord_ev hb 1 (by omega) q (by omega) (by omega)) (fun x ⟨x1, x2, x3, x4⟩ => evp_some ⟨x1, x2, by show p ≤ x.2.2.1; omega, by show x.2.2.1 ≤ _; omega⟩)
  · refine evp_bind (raw_ev hb 2 2 (by omega) (by omega) q (by omega) (by omega)) (fun x ⟨y, y1, y2, y3, y4, y5⟩ => ?_)
    obtain ⟨r, b', q', u⟩ := x
    simp only at y1 y3 y4 y5
    subst y3
    have e1 : SB 2 = 43 := by decide
    have e2 : CB 2 = 61 := by decide
    exact evp_mono (little_l0 hb 4 0 q' r (by omega) (by omega) (by omega) (by rw [y1, row_len]; omega)) (fun x ⟨x1, x2, x3, x4⟩ => ⟨x1, x2, by omega, by omega⟩)
/-! Steps down. -/
theorem last_at {α : Type} (l : List α) (t d : α) (h : l.length < 4000000000000) : (l ++ [t]).getD (wr (((l ++ [t]).length : Int) - 1)).toNat d = t := by
  rw [List.length_append, List.length_singleton, w64 (by omega) (by omega), show (((l.length + 1 : Nat) : Int) - 1) = (l.length : Int) by omega, get_at (by simp)]
  simp
theorem size_app2 (l : List Term) (t : Term) : size (l ++ [t]) = size l + 1 + size t.f1 := by
  have := size_app l [t]
  rw [size_cons, size_nil] at this
  omega
theorem kind_ev (x : List Term) (h : size x ≤ 1000000000) : Ev (fun k => impl_kind.f k x) (kd x) := by
  refine last_cases (P := fun x => size x ≤ 1000000000 → Ev (fun k => impl_kind.f k x) (kd x)) ?_ ?_ x h
  · intro _; exact ev_succ (fun k => impl_kind.f_eq k _) (ev_dt (by simp) (ev_some.2 rfl))
  · intro l t h
    have hl := size_len (l ++ [t])
    rw [List.length_append, List.length_singleton] at hl
    refine ev_succ (fun k => impl_kind.f_eq k _) (ev_df (by simp <;> omega) (ev_gd (by rw [List.length_append, List.length_singleton, w64 (by omega) (by omega)]; omega) ?_))
    rw [last_at l t _ (by omega), kd_app]
    cases t.f1 with
    | nil => exact ev_dt (by simp) (ev_some.2 rfl)
    | cons a y => exact ev_df (by simp <;> omega) (ev_some.2 rfl)
theorem cloneT_ev (l : List Term) (h : l.length < 1000000000000) : Ev (fun k => slices_Clone_ord_term.f k l) l := by
  have : (fun k => slices_Clone_ord_term.f k l) = fun k => gate (decide (0 + l.length < lim)) (some l) := funext fun k => slices_Clone_ord_term.f_eq k l
  rw [this]
  exact ev_gd (by rw [limE]; omega) (ev_some.2 rfl)
theorem clipT_ev (l : List Term) : Ev (fun k => slices_Clip_ord_term.f k l) l :=
  ev_succ (fun k => slices_Clip_ord_term.f_eq k l) (ev_gd (by omega) (ev_some.2 (by rw [Int.toNat_natCast, List.take_length])))
theorem before_ev (us : List Term) (t : Term) (h : us.length < 1000000000) (h1 : 1 ≤ t.f0) (h2 : t.f0 ≤ 1000000000) : Ev (fun k => impl_before.f k (us ++ [t])) (bef (us ++ [t])) := by
  obtain ⟨c, x⟩ := t
  simp only at h1 h2
  have hw : wr (((us ++ [(⟨c, x⟩ : Term)]).length : Int) - 1) = (us.length : Int) := by
    rw [List.length_append, List.length_singleton, w64 (by omega) (by omega)]
    omega
  have hg : (us ++ [(⟨c, x⟩ : Term)]).getD us.length (⟨0, ([] : List Term)⟩ : Term) = ⟨c, x⟩ := by simp [List.getD_eq_getElem?_getD]
  have hs : (us ++ [(⟨c, x⟩ : Term)]).set us.length (⟨c - 1, x⟩ : Term) = us ++ [⟨c - 1, x⟩] := by simp
  have hg2 : (us ++ [(⟨c - 1, x⟩ : Term)]).getD us.length (⟨0, ([] : List Term)⟩ : Term) = ⟨c - 1, x⟩ := by simp [List.getD_eq_getElem?_getD]
  rw [bef_app, bef]
  simp only
  refine ev_succ (fun k => impl_before.f_eq k _) (ev_bind (cloneT_ev _ (by simp; omega)) ?_)
  simp only [hw, Int.toNat_natCast, hg, w64 (x := c - 1) (by omega) (by omega), hs, hg2]
  refine ev_gd (by simp; omega) (ev_gd (by simp; omega) (ev_gd (by simp) (ev_gd (by simp; omega) ?_)))
  by_cases hc : c = 1
  · rw [if_pos hc]
    exact ev_dt (by omega) (ev_gd (by simp <;> omega) (ev_some.2 (by simp)))
  · rw [if_neg hc]
    exact ev_df (by omega) (ev_some.2 rfl)
theorem beforeX (x : List Term) (h : size x ≤ 1000000000) (hv : vL x) (hm : mL x ≤ 1000000000) (hne : x ≠ []) : Ev (fun k => impl_before.f k x) (bef x) := by
  rcases List.eq_nil_or_concat x with e | ⟨l, t, e⟩
  · exact absurd e hne
  · rw [List.concat_eq_append] at e
    subst e
    have hl := size_len (l ++ [t])
    rw [List.length_append, List.length_singleton] at hl
    rw [mL_app, mL_cons] at hm
    exact before_ev l t (by omega) (vL_mem hv (t := t) (by simp)).1 (by omega)
theorem bef_size (x : List Term) : size (bef x) ≤ size x := by
  refine last_cases (P := fun x => size (bef x) ≤ size x) (Nat.le_refl _) (fun l t => ?_) x
  rw [bef_app, size_app2]
  have h1 := size_app l (bef [t])
  have h2 : size (bef [t]) ≤ 2 + size t.f1 := by
    rw [bef]
    split
    · rw [size_nil]; omega
    · rw [size_cons, size_nil]; show 1 + size t.f1 + 1 ≤ _; omega
  omega
theorem stp_size (n : Int) (x : List Term) : size (stp n x) ≤ size x * size x := by
  refine tree_mem (P := fun x => size (stp n x) ≤ size x * size x) (fun x => ?_) x
  refine last_cases (P := fun x => (∀ t ∈ x, size (stp n t.f1) ≤ size t.f1 * size t.f1) → size (stp n x) ≤ size x * size x) ?_ ?_ x
  · intro _; rw [stp_nil, size_nil]; exact Nat.le_refl _
  · intro l t ih
    have ih := ih t (by simp)
    rw [stp_app, stp_one, size_app2]
    have e1 := size_app l (bef [t] ++ if t.f1.isEmpty then [] else if kd t.f1 = 2 then [⟨1, stp n t.f1⟩] else if n > 0 then [⟨n, bef t.f1⟩] else [])
    have e2 := size_app (bef [t]) (if t.f1.isEmpty then [] else if kd t.f1 = 2 then [⟨1, stp n t.f1⟩] else if n > 0 then [⟨n, bef t.f1⟩] else [])
    have e3 := bef_size [t]
    rw [size_cons, size_nil] at e3
    have e4 : size (if t.f1.isEmpty then [] else if kd t.f1 = 2 then [(⟨1, stp n t.f1⟩ : Term)] else if n > 0 then [⟨n, bef t.f1⟩] else []) ≤ 2 + size t.f1 * size t.f1 := by
      have hb := bef_size t.f1
      have hp := size_pos t.f1
      have hq : size t.f1 ≤ size t.f1 * size t.f1 := Nat.le_mul_of_pos_left _ hp
      split
      · rw [size_nil]; omega
      · split
        · rw [size_cons, size_nil]; show 1 + size (stp n t.f1) + 1 ≤ _; omega
        · split
          · rw [size_cons, size_nil]; show 1 + size (bef t.f1) + 1 ≤ _; omega
          · rw [size_nil]; omega
    have hl := size_pos l
    have : (size l + 1 + size t.f1) * (size l + 1 + size t.f1) = size l * size l + size t.f1 * size t.f1 + 1 + 2 * size l + 2 * size t.f1 + 2 * (size l * size t.f1) := by
      simp only [Nat.add_mul, Nat.mul_add, Nat.mul_comm (size t.f1) (size l)]
      omega
    have h3 : size l ≤ size l * size l := Nat.le_mul_of_pos_left _ hl
    have h4 : size t.f1 ≤ size l * size t.f1 := Nat.le_mul_of_pos_left _ hl
    omega
theorem step_ev (n : Int) (h0 : 0 ≤ n) (x : List Term) : size x ≤ 10000 → vL x → mL x ≤ 1000000000 → Ev (fun k => impl_step.f k x n) (stp n x) := by
  refine tree_mem (P := fun x => size x ≤ 10000 → vL x → mL x ≤ 1000000000 → Ev (fun k => impl_step.f k x n) (stp n x)) (fun x => ?_) x
  refine last_cases (P := fun x => (∀ t ∈ x, size t.f1 ≤ 10000 → vL t.f1 → mL t.f1 ≤ 1000000000 → Ev (fun k => impl_step.f k t.f1 n) (stp n t.f1)) → size x ≤ 10000 → vL x → mL x ≤ 1000000000 → Ev (fun k => impl_step.f k x n) (stp n x)) ?_ ?_ x
  · intro _ _ _ _
    exact ev_succ (fun k => impl_step.f_eq k _ _) (ev_bind (kind_ev [] (by rw [size_nil]; omega)) (ev_dt rfl (ev_some.2 (stp_nil n).symm)))
  · intro l t ih hs hv hm
    have hl := size_len (l ++ [t])
    rw [List.length_append, List.length_singleton] at hl
    have hst := size_mem (x := l ++ [t]) (t := t) (by simp)
    have hvt := vL_mem hv (t := t) (by simp)
    have hmt := mL_mem (x := l ++ [t]) (t := t) (by simp)
    refine ev_succ (fun k => impl_step.f_eq k _ _) (ev_bind (kind_ev _ (by omega)) ?_)
    rw [kd_app, stp_app, stp_one, last_at l t _ (by omega)]
    cases he : t.f1.isEmpty with
    | true =>
      refine ev_df (by simp) (ev_dt (by simp) (ev_bind (beforeX _ (by omega) hv hm (by simp)) (ev_some.2 ?_)))
      rw [bef_app, if_pos rfl, List.append_nil]
    | false =>
      have hne : t.f1 ≠ [] := fun h => by rw [h] at he; cases he
      refine ev_df (by simp) (ev_df (by simp) (ev_gd (by rw [List.length_append, List.length_singleton, w64 (by omega) (by omega)]; omega) (ev_bind (beforeX _ (by omega) hv hm (by simp)) (ev_bind (kind_ev _ (by omega)) ?_))))
      have hbl := size_len (bef (l ++ [t]))
      have hbs := bef_size (l ++ [t])
      simp only [Bool.false_eq_true, if_false]
      by_cases hk : kd t.f1 = 2
      · rw [if_pos hk]
        refine ev_dt hk (ev_bind (clipT_ev _) (ev_bind (ih t (by simp) (by omega) hvt.2 (by omega)) (ev_gd (by simp [limE]; omega) (ev_some.2 ?_))))
        rw [bef_app, List.append_assoc]
      · rw [if_neg hk]
        refine ev_df hk ?_
        by_cases hn : n > 0
        · rw [if_pos hn]
          refine ev_dt hn (ev_bind (clipT_ev _) (ev_bind (beforeX _ (by omega) hvt.2 (by omega) hne) (ev_gd (by simp [limE]; omega) (ev_some.2 ?_))))
          rw [bef_app, List.append_assoc]
        · rw [if_neg hn]
          refine ev_df hn (ev_some.2 ?_)
          rw [bef_app, List.append_nil]
/-! Growth along ordinals. -/
instance fitDec (x : List Term) : Decidable (mL x ≤ 9999 ∧ size x ≤ 60) := inferInstance
def gN (x : List Term) (n : Int) : Int := if kd x = 1 then n + 1 else n
def GR : Nat → List Term → Int → Option (Int × Int)
  | _, [], n => some (n, 0)
  | 0, _ :: _, _ => none
  | f + 1, t :: x, n => if (mL (stp (gN (t :: x) n) (t :: x)) ≤ 9999 ∧ size (stp (gN (t :: x) n) (t :: x)) ≤ 60) ∧ gN (t :: x) n ≤ 90 then
      (GR f (stp (gN (t :: x) n) (t :: x)) (gN (t :: x) n)).map fun r => (r.1, r.2 + 1) else none
theorem GR_nil (f : Nat) (n : Int) : GR f [] n = some (n, 0) := by cases f <;> rfl
theorem GR_some {f : Nat} {x : List Term} {n : Int} {r : Int × Int} (h : GR f x n = some r) (hx : x ≠ []) : ∃ g, f = g + 1 ∧ ((mL (stp (gN x n) x) ≤ 9999 ∧ size (stp (gN x n) x) ≤ 60) ∧ gN x n ≤ 90) ∧ GR g (stp (gN x n) x) (gN x n) = some (r.1, r.2 - 1) := by
  cases x with
  | nil => exact absurd rfl hx
  | cons t x =>
    cases f with
    | zero => simp [GR] at h
    | succ f =>
      rw [GR] at h
      split at h
      · rename_i hc
        refine ⟨f, rfl, hc, ?_⟩
        cases hg : GR f (stp (gN (t :: x) n) (t :: x)) (gN (t :: x) n) with
        | none => rw [hg] at h; cases h
        | some q =>
          rw [hg] at h
          simp only [Option.map_some, Option.some.injEq] at h
          rw [← h]
          simp
      · cases h
theorem GR_same : ∀ (f g : Nat) (x : List Term) (n : Int) {r s : Int × Int}, GR f x n = some r → GR g x n = some s → r = s
  | f, g, [], n, r, s, h1, h2 => by
    rw [GR_nil] at h1 h2
    cases h1; cases h2; rfl
  | 0, g, t :: x, n, r, s, h1, h2 => by simp [GR] at h1
  | f + 1, 0, t :: x, n, r, s, h1, h2 => by simp [GR] at h2
  | f + 1, g + 1, t :: x, n, r, s, h1, h2 => by
    obtain ⟨f', e1, _, h3⟩ := GR_some h1 (by simp)
    obtain ⟨g', e2, _, h4⟩ := GR_some h2 (by simp)
    cases e1; cases e2
    have := GR_same f g _ _ h3 h4
    simp only [Prod.mk.injEq] at this
    ext <;> omega
theorem gN_le (x : List Term) (n : Int) : n ≤ gN x n ∧ gN x n ≤ n + 1 := by unfold gN; split <;> omega
theorem GR_bound : ∀ (f : Nat) (x : List Term) (n : Int) {r : Int × Int}, GR f x n = some r → n ≤ 90 → n ≤ r.1 ∧ r.1 ≤ 90 ∧ 0 ≤ r.2 ∧ r.2 ≤ f
  | f, [], n, r, h, hn => by
    rw [GR_nil] at h
    cases h
    exact ⟨Int.le_refl _, hn, Int.le_refl _, by show (0 : Int) ≤ f; omega⟩
  | 0, t :: x, n, r, h, hn => by simp [GR] at h
  | f + 1, t :: x, n, r, h, hn => by
    obtain ⟨g, e, hc, h1⟩ := GR_some h (by simp)
    cases e
    have := gN_le (t :: x) n
    have := GR_bound f _ _ h1 hc.2
    simp only at this
    omega
/-! Two ordinals, one behind the other. -/
def mrg : List Term → List Term → List Term
  | [], b => b
  | [s], [] => [s]
  | [s], t :: b => if cL s.f1 t.f1 = 0 then ⟨s.f0 + t.f0, s.f1⟩ :: b else s :: t :: b
  | s :: u :: o, b => s :: mrg (u :: o) b
theorem mrg_app (l : List Term) (s : Term) (b : List Term) : mrg (l ++ [s]) b = l ++ mrg [s] b := by
  induction l with
  | nil => rfl
  | cons r l ih =>
    cases l with
    | nil => rfl
    | cons u l => exact congrArg (r :: ·) ih
theorem mrg_nil (o : List Term) : mrg o [] = o := by
  refine last_cases (P := fun o => mrg o [] = o) rfl (fun l t => ?_) o
  rw [mrg_app]; rfl
theorem mrg_ne {s : Term} {b : List Term} (h : ∀ t ∈ b, Lt t.f1 s.f1) : mrg [s] b = s :: b := by
  cases b with
  | nil => rfl
  | cons t b =>
    have := h t List.mem_cons_self
    have h2 : ¬ cL s.f1 t.f1 = 0 := fun hc => by
      rw [c_eq _ _ hc] at this
      exact lt_irrefl _ this
    rw [mrg, if_neg h2]
theorem stp_tail (n : Int) (t : Term) (hn : 0 ≤ n) (hv : vL [t]) : ∃ tl : List Term, (∀ u ∈ tl, Lt u.f1 t.f1) ∧ ∀ c : Int, stp n [⟨c, t.f1⟩] = bef [⟨c, t.f1⟩] ++ tl := by
  rw [vL_one] at hv
  refine ⟨if t.f1.isEmpty then [] else if kd t.f1 = 2 then [⟨1, stp n t.f1⟩] else if n > 0 then [⟨n, bef t.f1⟩] else [], ?_, fun c => stp_one n _⟩
  intro u hu
  split at hu
  · cases hu
  · rename_i he
    have hne : t.f1 ≠ [] := fun h => he (by rw [h]; rfl)
    split at hu
    · rw [List.mem_singleton.1 hu]
      exact (stp_v n hn _ hv.2).2 hne
    · split at hu
      · rw [List.mem_singleton.1 hu]
        exact bef_lt _ hne hv.2
      · cases hu
/-- The last exponent of the first one is not less than those of the second one. -/
def Over (o b : List Term) : Prop := ∀ l s, o = l ++ [s] → ∀ t ∈ b, ¬ Lt s.f1 t.f1
theorem mrg_step {n : Int} (hn : 0 ≤ n) {o b : List Term} (ho : vL o) (hb : vL b) (h : Over o b) (hne : b ≠ []) : kd (mrg o b) = kd b ∧ stp n (mrg o b) = mrg o (stp n b) := by
  refine last_cases (P := fun o => vL o → Over o b → kd (mrg o b) = kd b ∧ stp n (mrg o b) = mrg o (stp n b)) ?_ ?_ o ho h
  · intro _ _; exact ⟨rfl, rfl⟩
  · intro l s ho h
    have hs := h l s rfl
    have hsv : 1 ≤ s.f0 := (vL_mem ho (t := s) (by simp)).1
    rw [mrg_app, mrg_app]
    -- the end decides
    revert hb hne hs
    refine last_cases (P := fun b => vL b → b ≠ [] → (∀ t ∈ b, ¬ Lt s.f1 t.f1) → kd (l ++ mrg [s] b) = kd b ∧ stp n (l ++ mrg [s] b) = l ++ mrg [s] (stp n b)) (fun _ h => absurd rfl h) (fun q t hb _ hs => ?_) b
    have hst := hs t (by simp)
    cases q with
    | nil =>
      simp only [List.nil_append] at hb ⊢
      have ht := (vL_one t).1 hb
      obtain ⟨tl, t1, t2⟩ := stp_tail n t hn hb
      by_cases he : cL s.f1 t.f1 = 0
      · have ee := c_eq _ _ he
        rw [mrg, if_pos he, stp_app, kd_app]
        refine ⟨by simp only [kd, ee], ?_⟩
        have hh := t2 (s.f0 + t.f0)
        rw [← ee] at hh
        have ht2 : stp n [t] = bef [t] ++ tl := by have := t2 t.f0; cases t; exact this
        rw [hh, ht2]
        congr 1
        rw [bef, bef, if_neg (by show ¬ s.f0 + t.f0 = 1; omega)]
        by_cases h1 : t.f0 = 1
        · rw [if_pos h1, List.nil_append, mrg_ne (by rw [ee]; exact t1)]
          have : s.f0 + t.f0 - 1 = s.f0 := by omega
          cases s
          simp only [this, List.cons_append, List.nil_append]
        · rw [if_neg h1]
          simp only [List.cons_append, List.nil_append]
          rw [mrg, if_pos he]
          have : s.f0 + t.f0 - 1 = s.f0 + (t.f0 - 1) := by omega
          simp only [this]
      · have hlt : Lt t.f1 s.f1 := by
          rcases c_cases s.f1 t.f1 with ⟨_, h⟩ | ⟨h, _⟩ | ⟨_, h⟩
          · exact absurd h hst
          · exact absurd h he
          · exact h
        rw [mrg, if_neg he]
        have e1 : l ++ [s, t] = (l ++ [s]) ++ [t] := by simp
        rw [e1, stp_app, kd_app]
        refine ⟨rfl, ?_⟩
        rw [mrg_ne, List.append_assoc]
        · rfl
        · intro u hu
          rcases (stp_one_v n t hn ht (fun hh => ⟨(stp_v n hn _ ht.2).1, (stp_v n hn _ ht.2).2 hh⟩)).2.2 u hu with h | h
          · rw [h]; exact hlt
          · exact lt_trans _ _ _ h hlt
    | cons r q =>
      have key : ∀ w : List Term, mrg [s] (r :: w) = mrg [s] [r] ++ w := by
        intro w
        rw [mrg, mrg]
        split <;> rfl
      simp only [List.cons_append]
      rw [key, show r :: (q ++ [t]) = (r :: q) ++ [t] from rfl, stp_app]
      rw [show l ++ (mrg [s] [r] ++ (q ++ [t])) = (l ++ mrg [s] [r] ++ q) ++ [t] by simp, kd_app, stp_app]
      refine ⟨by rw [kd_app], ?_⟩
      simp only [List.cons_append]
      rw [key (q ++ stp n [t])]
      simp only [List.append_assoc]
theorem gN_pos (x : List Term) {n : Int} (h : 0 ≤ n) : 0 ≤ gN x n := by have := gN_le x n; omega
theorem Over.step {n : Int} (hn : 0 ≤ n) {o b : List Term} (hb : vL b) (hne : b ≠ []) (h : Over o b) : Over o (stp n b) := by
  intro l s hl u hu hc
  -- the new exponents are not greater than some old one
  have : ∃ t ∈ b, u.f1 = t.f1 ∨ Lt u.f1 t.f1 := by
    clear hl hc h
    revert hne hb hu
    refine last_cases (P := fun b => vL b → b ≠ [] → u ∈ stp n b → ∃ t ∈ b, u.f1 = t.f1 ∨ Lt u.f1 t.f1) (fun _ h => absurd rfl h) (fun q t hb _ hu => ?_) b
    rw [stp_app] at hu
    rcases List.mem_append.1 hu with hu | hu
    · exact ⟨u, by simp [hu], .inl rfl⟩
    · have ht := vL_mem hb (t := t) (by simp)
      exact ⟨t, by simp, (stp_one_v n t hn ht (fun hh => ⟨(stp_v n hn _ ht.2).1, (stp_v n hn _ ht.2).2 hh⟩)).2.2 u hu⟩
  obtain ⟨t, t1, t2⟩ := this
  rcases t2 with t2 | t2
  · exact h l s hl t t1 (by rw [← t2]; exact hc)
  · exact h l s hl t t1 (lt_trans _ _ _ hc t2)
theorem GR_mrg : ∀ (f1 f2 f3 : Nat) (o b : List Term) (n : Int) {r1 r2 r3 : Int × Int}, 0 ≤ n → vL o → vL b → Over o b → GR f1 b n = some r1 → GR f2 o r1.1 = some r2 → GR f3 (mrg o b) n = some r3 → r3.1 = r2.1 ∧ r3.2 = r1.2 + r2.2
  | f1, f2, f3, o, [], n, r1, r2, r3, hn, ho, hb, h, h1, h2, h3 => by
    rw [GR_nil] at h1
    rw [mrg_nil] at h3
    cases h1
    have := GR_same _ _ _ _ h3 h2
    rw [this]
    simp
  | 0, f2, f3, o, t :: b, n, r1, r2, r3, hn, ho, hb, h, h1, h2, h3 => by simp [GR] at h1
  | f1 + 1, f2, f3, o, t :: b, n, r1, r2, r3, hn, ho, hb, h, h1, h2, h3 => by
    obtain ⟨g, e, hc, h4⟩ := GR_some h1 (by simp)
    cases e
    obtain ⟨k1, k2⟩ := mrg_step (n := gN (t :: b) n) (gN_pos _ hn) ho hb h (by simp)
    have hg : gN (mrg o (t :: b)) n = gN (t :: b) n := by unfold gN; rw [k1]
    have hne : mrg o (t :: b) ≠ [] := fun hc => by
      have := kd_zero.2 hc
      rw [k1] at this
      exact absurd (kd_zero.1 this) (by simp)
    obtain ⟨g3, e3, hc3, h5⟩ := GR_some h3 hne
    cases e3
    rw [hg, k2] at h5
    have := GR_mrg f1 f2 g3 o _ _ (gN_pos _ hn) ho (stp_v _ (gN_pos _ hn) _ hb).1 (Over.step (gN_pos _ hn) hb (by simp) h) h4 h2 h5
    simp only at this
    omega
/-! Sums. -/
def addO (x : List Term) : List Term → List Term
  | [] => x
  | b :: y => x.filter (fun t => decide (cL t.f1 b.f1 > 0)) ++ ⟨b.f0 + co x b.f1, b.f1⟩ :: y
theorem add_v {x y : List Term} (hx : vL x) (hy : vL y) : vL (addO x y) := by
  cases y with
  | nil => exact hx
  | cons b y =>
    rw [vL_cons] at hy
    have hco := co_pos hx b.f1
    have filt : ∀ x : List Term, vL x → vL (x.filter (fun t => decide (cL t.f1 b.f1 > 0))) := by
      intro x
      induction x with
      | nil => exact id
      | cons t x ih =>
        intro h
        rw [vL_cons] at h
        rw [List.filter_cons]
        split
        · rw [vL_cons]; exact ⟨h.1, fun u hu => h.2.1 u (List.mem_filter.1 hu).1, ih h.2.2⟩
        · exact ih h.2.2
    rw [addO, vL_app]
    refine ⟨filt x hx, ?_, ?_⟩
    · rw [vL_cons]; exact ⟨⟨by show 1 ≤ b.f0 + co x b.f1; omega, hy.1.2⟩, hy.2.1, hy.2.2⟩
    · intro t ht u hu
      have h1 := (List.mem_filter.1 ht).2
      rw [decide_eq_true_eq] at h1
      have h2 : Lt b.f1 t.f1 := by
        have := c_range t.f1 b.f1
        exact c_gt.1 (by omega)
      rcases List.mem_cons.1 hu with hu | hu
      · rw [hu]; exact h2
      · exact lt_trans _ _ _ (hy.2.1 u hu) h2
theorem add_over {x y : List Term} {b : Term} (hx : vL x) (over : ∀ s ∈ x, ¬ Lt s.f1 b.f1) : addO x (b :: y) = mrg x (b :: y) := by
  refine last_cases (P := fun x => vL x → (∀ s ∈ x, ¬ Lt s.f1 b.f1) → addO x (b :: y) = mrg x (b :: y)) ?_ ?_ x hx over
  · intro _ _
    cases b
    simp [addO, mrg, co]
  · intro l s hx over
    rw [vL_app] at hx
    have hs := over s (by simp)
    have gt : ∀ t ∈ l, cL t.f1 b.f1 > 0 := by
      intro t ht
      have h1 := hx.2.2 t ht s List.mem_cons_self
      rcases c_cases s.f1 b.f1 with ⟨_, h⟩ | ⟨_, h⟩ | ⟨_, h⟩
      · exact absurd h hs
      · rw [h] at h1; have := c_gt.2 h1; omega
      · have := c_gt.2 (lt_trans _ _ _ h h1); omega
    rw [addO, mrg_app, List.filter_append, co_app, List.filter_eq_self.2 (fun t ht => decide_eq_true (gt t ht)), co_zero (x := l) (e := b.f1) (fun t ht he => by have := gt t ht; rw [he, c_refl] at this; omega)]
    simp only [co]
    by_cases he : cL s.f1 b.f1 = 0
    · have ee := c_eq _ _ he
      rw [List.filter_cons, if_neg (by simp [he]), List.filter_nil, List.append_nil, mrg, if_pos he, if_pos he]
      rw [show b.f0 + (0 + (s.f0 + 0)) = s.f0 + b.f0 by omega, ee]
    · have hg : cL s.f1 b.f1 > 0 := by
        have := c_range s.f1 b.f1
        have : ¬ cL s.f1 b.f1 = -1 := fun h => hs h
        omega
      rw [List.filter_cons, if_pos (by simp [hg]), List.filter_nil, mrg, if_neg he, if_neg he]
      cases b
      simp
/-- A sum that is the natural sum, too, is one behind the other. -/
theorem add_nat {x y : List Term} (hx : vL x) (hy : vL y) (h : addO x y = natO x y) : Over x y ∧ addO x y = mrg x y := by
  cases y with
  | nil => exact ⟨(by intro l s _ t ht; cases ht), (by rw [mrg_nil]; rfl)⟩
  | cons b y =>
    have hy' := (vL_cons b y).1 hy
    have over : ∀ s ∈ x, ¬ Lt s.f1 b.f1 := by
      intro s hs hc
      have h1 := co_nat x (b :: y) s.f1
      rw [← h, addO, co_app] at h1
      simp only [co] at h1
      have h2 : co (x.filter (fun t => decide (cL t.f1 b.f1 > 0))) s.f1 = 0 := by
        refine co_zero fun t ht he => ?_
        have := (List.mem_filter.1 ht).2
        rw [decide_eq_true_eq, he] at this
        have := c_lt.2 hc
        omega
      have h3 : ¬ cL b.f1 s.f1 = 0 := fun h => by
        rw [c_eq _ _ h] at hc; exact lt_irrefl _ hc
      rw [if_neg h3, if_neg h3] at h1
      have h4 : ∀ x : List Term, vL x → s ∈ x → 1 ≤ co x s.f1 := by
        intro x
        induction x with
        | nil => intro _ h; cases h
        | cons t x ih =>
          intro hv hm
          rw [vL_cons] at hv
          have := co_pos hv.2.2 s.f1
          rw [co]
          rcases List.mem_cons.1 hm with hm | hm
          · rw [hm, c_refl]
            have := hv.1.1
            rw [← hm] at this ⊢
            simp only [if_pos]
            omega
          · have := ih hv.2.2 hm
            split <;> omega
      have := h4 x hx hs
      omega
    refine ⟨fun l s hl t ht hc => ?_, ?_⟩
    · have := over s (by rw [hl]; simp)
      rcases List.mem_cons.1 ht with ht | ht
      · rw [ht] at hc; exact this hc
      · exact this (lt_trans _ _ _ hc (hy'.2.1 t ht))
    · exact add_over hx over
/-- Along a number as ordinal. -/
theorem GR_num : ∀ (f : Nat) (c n : Int) {r : Int × Int}, 1 ≤ c → GR f [⟨c, []⟩] n = some r → r.1 = n + c
  | 0, c, n, r, hc, h => by simp [GR] at h
  | f + 1, c, n, r, hc, h => by
    obtain ⟨g, e, _, h1⟩ := GR_some h (by simp)
    cases e
    have hg : gN [⟨c, []⟩] n = n + 1 := by simp [gN, kd]
    rw [hg, stp_one] at h1
    simp only [List.isEmpty_nil, if_true, List.append_nil, bef] at h1
    by_cases h2 : c = 1
    · rw [if_pos h2, GR_nil] at h1
      simp only [Option.some.injEq, Prod.mk.injEq] at h1
      omega
    · rw [if_neg h2] at h1
      have := GR_num f (c - 1) (n + 1) (by omega) h1
      simp only at this
      omega
/-! Steps of the reference, and growth. -/
theorem skind_ev (x : List Term) (h : Fit x) : Ev (fun k => spec_OrdKind.f k (row x)) (kd x) := by
  have hs := h.s
  refine ev_succ (fun k => spec_OrdKind.f_eq k _) (ev_bind (valid_ev _) ?_)
  rw [h.ov]
  refine ev_nf rfl (ev_bind (terms_ev x (by omega)) ?_)
  refine last_cases (P := fun x => size x ≤ 60 → Ev (fun k => br (decide (((x.map fun t => row t.f1).length : Int) = 0)) (some 0) (gate (decide (0 ≤ (wr (((x.map fun t => row t.f1).length : Int) - 1)) ∧ (wr (((x.map fun t => row t.f1).length : Int) - 1)) < ((x.map fun t => row t.f1).length : Int))) <| br (decide ((((x.map fun t => row t.f1).getD (wr (((x.map fun t => row t.f1).length : Int) - 1)).toNat ([] : List Int)).length : Int) = 1)) (some 1) (some 2))) (kd x)) ?_ ?_ x hs
  · intro _; exact ev_dt (by simp) (ev_some.2 rfl)
  · intro l t hs
    have hl := size_len (l ++ [t])
    rw [List.length_append, List.length_singleton] at hl
    rw [List.map_append, List.map_cons, List.map_nil]
    refine ev_df (by simp <;> omega) (ev_gd (by rw [List.length_append, List.length_singleton, List.length_map, w64 (by omega) (by omega)]; omega) ?_)
    rw [last_at _ _ _ (by rw [List.length_map]; omega), kd_app]
    have := row_one t.f1
    cases ht : t.f1 with
    | nil => rw [ht] at this; exact ev_dt (this.2 rfl) (ev_some.2 rfl)
    | cons a y => rw [ht] at this; exact ev_df (fun h => by cases this.1 h) (ev_some.2 rfl)
theorem sstep_ev (n : Int) (h0 : 0 ≤ n) (x : List Term) : size x ≤ 10000 → vL x → mL x ≤ 1000000000 → Ev (fun k => spec_l3Step.f k (row x) n) (row (stp n x)) := by
  refine tree_mem (P := fun x => size x ≤ 10000 → vL x → mL x ≤ 1000000000 → Ev (fun k => spec_l3Step.f k (row x) n) (row (stp n x))) (fun x => ?_) x
  refine last_cases (P := fun x => (∀ t ∈ x, size t.f1 ≤ 10000 → vL t.f1 → mL t.f1 ≤ 1000000000 → Ev (fun k => spec_l3Step.f k (row t.f1) n) (row (stp n t.f1))) → size x ≤ 10000 → vL x → mL x ≤ 1000000000 → Ev (fun k => spec_l3Step.f k (row x) n) (row (stp n x))) ?_ ?_ x
  · intro _ _ _ _
    refine ev_succ (fun k => spec_l3Step.f_eq k _ _) (ev_bind (terms_ev [] (by rw [size_nil]; omega)) (ev_dt (by decide) (ev_some.2 ?_)))
    rw [stp_nil]; rfl
  · intro l t ih hs hv hm
    have hl := size_len (l ++ [t])
    rw [List.length_append, List.length_singleton] at hl
    have hst := size_mem (x := l ++ [t]) (t := t) (by simp)
    have hvt := vL_mem hv (t := t) (by simp)
    have hmt := mL_mem (x := l ++ [t]) (t := t) (by simp)
    have hsq := stp_size n (l ++ [t])
    have hsq2 : size (l ++ [t]) * size (l ++ [t]) ≤ 10000 * 10000 := Nat.mul_le_mul hs hs
    have hN1 : ((l ++ [t]).map (·.f0)).length = l.length + 1 := by simp
    have hN2 : ((l ++ [t]).map fun t => row t.f1).length = l.length + 1 := by simp
    have hw : wr ((((l ++ [t]).map (·.f0)).length : Int) - 1) = (l.length : Int) := by rw [hN1, w64 (by omega) (by omega)]; omega
    have g1 : ((l ++ [t]).map (·.f0)).getD (l.length : Int).toNat 0 = t.f0 := by rw [map_get _ _ _ _ (by simp)]; simp
    have g2 : ((l ++ [t]).map fun t => row t.f1).getD (l.length : Int).toNat [] = row t.f1 := by rw [map_get _ _ _ _ (by simp)]; simp
    have k1 : (((l ++ [t]).map (·.f0)).take (l.length : Int).toNat).drop (0 : Int).toNat = l.map (·.f0) := by
      rw [Int.toNat_natCast, List.map_append, List.take_left' (by simp)]; rfl
    have k2 : (((l ++ [t]).map fun t => row t.f1).take (l.length : Int).toNat).drop (0 : Int).toNat = l.map fun t => row t.f1 := by
      rw [Int.toNat_natCast, List.map_append, List.take_left' (by simp)]; rfl
    -- the part behind the head
    have tail : Ev (fun k => spec_l3Step.j0 k n ((l ++ [t]).map fun t => row t.f1) (l.length : Int) ((l ++ bef [t]).map (·.f0)) ((l ++ bef [t]).map fun t => row t.f1)) (row (stp n (l ++ [t]))) := by
      have hbl : (l ++ bef [t]).length ≤ 5001 := by
        rw [List.length_append, bef]
        split <;> simp <;> omega
      have hbb : (bef [t]).length ≤ 1 := by rw [bef]; split <;> simp
      have hb1 : ((l ++ bef [t]).map (·.f0)).length ≤ 5001 := by rw [List.length_map]; exact hbl
      have hb2 : ((l ++ bef [t]).map fun t => row t.f1).length ≤ 5001 := by rw [List.length_map]; exact hbl
      rw [stp_app, stp_one] at hsq ⊢
      refine ev_succ (fun k => spec_l3Step.j0_eq k _ _ _ _ _) (ev_gd (by rw [hN2]; omega) ?_)
      rw [g2]
      cases ht : t.f1 with
      | nil =>
        rw [ht] at hsq
        refine ev_dt ((row_one _).2 rfl) (ev_bind (make_ev _ ?_) (ev_some.2 ?_))
        · have := hsq
          simp only [List.isEmpty_nil, if_true, List.append_nil] at this
          omega
        · simp
      | cons a y =>
        rw [← ht]
        have hne : t.f1 ≠ [] := by rw [ht]; simp
        have hem : t.f1.isEmpty = false := by rw [ht]; rfl
        rw [hem] at hsq ⊢
        simp only [Bool.false_eq_true, if_false] at hsq ⊢
        refine ev_df (fun h => hne ((row_one _).1 h)) (ev_bind (terms_ev t.f1 (by omega)) ?_)
        -- the last exponent's last exponent
        have hend : Ev (fun k => spec_l3Step.f k (row t.f1) n) (row (stp n t.f1)) := ih t (by simp) (by omega) hvt.2 (by omega)
        have hrow : kd t.f1 ≠ 0 := fun h => hne (kd_zero.1 h)
        rcases List.eq_nil_or_concat t.f1 with e | ⟨l', s, e⟩
        · exact absurd e hne
        · rw [List.concat_eq_append] at e
          have hl2 := size_len t.f1
          have hM : (t.f1.map fun t => row t.f1) = (l'.map fun t => row t.f1) ++ [row s.f1] := by rw [e]; simp
          have hkd : kd t.f1 = if s.f1.isEmpty then 1 else 2 := by rw [e, kd_app]
          have hll : l'.length + 1 = t.f1.length := by rw [e]; simp
          refine ev_gd (by rw [hM, List.length_append, List.length_singleton, List.length_map, w64 (by omega) (by omega)]; omega) ?_
          rw [hM, last_at _ _ _ (by rw [List.length_map]; omega)]
          by_cases hs0 : s.f1 = []
          · have hk : kd t.f1 = 1 := by rw [hkd, hs0]; rfl
            rw [if_neg (by omega)] at hsq ⊢
            refine ev_dt ((row_one _).2 hs0) ?_
            by_cases hn : n > 0
            · rw [if_pos hn] at hsq ⊢
              rw [stp_bef (by omega)] at hend
              refine ev_dt hn (ev_gd (by first | omega | (simp only [List.length_append, List.length_cons, List.length_nil, List.length_map, List.length_take, List.length_drop, limE]; omega) | (simp [limE] <;> omega)) (ev_bind hend (ev_gd (by first | omega | (simp only [List.length_append, List.length_cons, List.length_nil, List.length_map, List.length_take, List.length_drop, limE]; omega) | (simp [limE] <;> omega)) (ev_succ (fun k => spec_l3Step.j1_eq k _ _) ?_))))
              have := make_ev (l ++ (bef [t] ++ [⟨n, bef t.f1⟩])) (by omega)
              simp only [List.map_append, List.map_cons, List.map_nil, ← List.append_assoc] at this ⊢
              exact ev_bind this (ev_some.2 rfl)
            · rw [if_neg hn] at hsq ⊢
              refine ev_df hn (ev_succ (fun k => spec_l3Step.j1_eq k _ _) ?_)
              rw [List.append_nil] at hsq ⊢
              exact ev_bind (make_ev _ (by omega)) (ev_some.2 rfl)
          · have hk : kd t.f1 = 2 := by
              rw [hkd]
              cases h : s.f1 with
              | nil => exact absurd h hs0
              | cons a y => rfl
            rw [if_pos hk] at hsq ⊢
            refine ev_df (fun h => hs0 ((row_one _).1 h)) (ev_gd (by first | omega | (simp only [List.length_append, List.length_cons, List.length_nil, List.length_map, List.length_take, List.length_drop, limE]; omega) | (simp [limE] <;> omega)) (ev_bind hend (ev_gd (by first | omega | (simp only [List.length_append, List.length_cons, List.length_nil, List.length_map, List.length_take, List.length_drop, limE]; omega) | (simp [limE] <;> omega)) ?_)))
            have := make_ev (l ++ (bef [t] ++ [⟨1, stp n t.f1⟩])) (by omega)
            simp only [List.map_append, List.map_cons, List.map_nil, ← List.append_assoc] at this ⊢
            exact ev_bind this (ev_some.2 rfl)
    refine ev_succ (fun k => spec_l3Step.f_eq k _ _) (ev_bind (terms_ev _ (by omega)) ?_)
    rw [hw]
    refine ev_df (by omega) (ev_gd (by rw [hN1]; omega) ?_)
    rw [g1, g2, k1, k2]
    refine ev_gd (by first | omega | (simp only [List.length_append, List.length_cons, List.length_nil, List.length_map, List.length_take, List.length_drop, limE]; omega) | (simp [limE] <;> omega)) (ev_gd (by rw [hN2]; omega) (ev_gd (by first | omega | (simp only [List.length_append, List.length_cons, List.length_nil, List.length_map, List.length_take, List.length_drop, limE]; omega) | (simp [limE] <;> omega)) (ev_gd (by rw [hN1]; omega) ?_)))
    rw [bef] at tail
    by_cases h1 : t.f0 > 1
    · rw [if_neg (show ¬ t.f0 = 1 by omega)] at tail
      refine ev_dt h1 (ev_gd (by rw [hN1]; omega) (ev_gd (by first | omega | (simp only [List.length_append, List.length_cons, List.length_nil, List.length_map, List.length_take, List.length_drop, limE]; omega) | (simp [limE] <;> omega)) (ev_gd (by rw [hN2]; omega) (ev_gd (by first | omega | (simp only [List.length_append, List.length_cons, List.length_nil, List.length_map, List.length_take, List.length_drop, limE]; omega) | (simp [limE] <;> omega)) ?_))))
      rw [w64 (x := t.f0 - 1) (by omega) (by omega)]
      simpa using tail
    · rw [if_pos (show t.f0 = 1 by omega)] at tail
      exact ev_df h1 (by simpa using tail)
theorem sostep_ev (n : Int) (h0 : 0 ≤ n) (h1 : n ≤ 99) (x : List Term) (h : Fit x) : Ev (fun k => spec_OrdStep.f k (row x) n) (if mL (stp n x) ≤ 9999 ∧ size (stp n x) ≤ 60 then (row (stp n x), true) else ([], false)) := by
  have hs := h.s
  have hm := h.m
  refine ev_succ (fun k => spec_OrdStep.f_eq k _ _) (ev_bind (valid_ev _) ?_)
  rw [h.ov]
  refine ev_nf rfl (ev_bind (l1In_ev _ _ _) (ev_nf (by simp <;> omega) (ev_bind (sstep_ev n h0 x (by omega) h.v (by omega)) (ev_bind (fit_ev _) ?_))))
  rw [OV_row (stp_v n h0 x h.v).1]
  by_cases hf : mL (stp n x) ≤ 9999 ∧ size (stp n x) ≤ 60
  · rw [decide_eq_true hf, if_pos hf]; exact ev_some.2 rfl
  · rw [decide_eq_false hf, if_neg hf]; exact ev_some.2 rfl
theorem stp_gN (x : List Term) (n : Int) : stp n x = stp (gN x n) x := by
  unfold gN
  split
  · rename_i h; rw [stp_bef (by omega), stp_bef (by omega)]
  · rfl
def up (n m : Int) : List Int := (List.range (m - n).toNat).map fun (i : Nat) => n + 1 + (i : Int)
theorem up_self (n : Int) : up n n = [] := by simp [up]
theorem up_next {n m : Int} (h : n + 1 ≤ m) : up n m = (n + 1) :: up (n + 1) m := by
  unfold up
  obtain ⟨d, hd⟩ : ∃ d : Nat, (m - n).toNat = d + 1 := ⟨(m - n).toNat - 1, by omega⟩
  have hd2 : (m - (n + 1)).toNat = d := by omega
  rw [hd, hd2, List.range_succ_eq_map, List.map_cons, List.map_map]
  simp only [List.cons.injEq]
  refine ⟨by simp, List.map_congr_left fun i _ => ?_⟩
  simp only [Function.comp]
  omega
def grR (path : List Int) (steps : Int) (n : Int) : Option (Int × Int) → List Int × Int
  | some (m, s) => (path ++ up n m, steps + s)
  | none => ([], -1)
theorem grow_l0 : ∀ (f : Nat) (x : List Term) (n : Int) (path : List Int) (steps : Int), steps + f = 3000 → 0 ≤ steps → Fit x → 1 ≤ n → n ≤ 90 → path ≠ [] → path.length ≤ steps + 1 →
    Ev (fun k => impl_grow.l0 k x n path steps) (grR path steps n (GR f x n)) := by
  intro f
  induction f with
  | zero =>
    intro x n path steps hs hs0 hx h1 h2 hp hpl
    cases x with
    | nil =>
      refine ev_succ (fun k => impl_grow.l0_eq k _ _ _ _) (ev_df (by simp) (ev_gate ?_ (ev_some.2 ?_)))
      · cases path with
        | nil => exact absurd rfl hp
        | cons a l => rfl
      · rw [GR_nil, grR, up_self]; simp
    | cons t x =>
      have hxs := hx.s
      have hxm := hx.m
      have hg := gN_le (t :: x) n
      have j0 : ∀ (m : Int) (path : List Int), 0 ≤ m → Ev (fun k => impl_grow.j0 k (t :: x) m path steps) ([], -1) := by
        intro m path hm
        have hq := stp_size m (t :: x)
        have : size (t :: x) * size (t :: x) ≤ 60 * 60 := Nat.mul_le_mul hxs hxs
        refine ev_succ (fun k => impl_grow.j0_eq k _ _ _ _) (ev_bind (step_ev m hm _ (by omega) hx.v (by omega)) (ev_bind (told_ev _ (by omega)) ?_))
        by_cases hf : mL (stp m (t :: x)) ≤ 9999 ∧ size (stp m (t :: x)) ≤ 60
        · rw [if_pos hf]
          refine ev_nf rfl ?_
          by_cases hm90 : m > 90
          · exact ev_dt hm90 (ev_some.2 rfl)
          · refine ev_df hm90 (ev_dt (by rw [w64 (by omega) (by omega)]; omega) (ev_some.2 rfl))
        · rw [if_neg hf]; exact ev_nt rfl (ev_some.2 rfl)
      refine ev_succ (fun k => impl_grow.l0_eq k _ _ _ _) (ev_dt (by simp <;> omega) (ev_bind (kind_ev _ (by omega)) ?_))
      by_cases hk : kd (t :: x) = 1
      · refine ev_dt hk (ev_gd (by first | omega | (simp only [List.length_append, List.length_cons, List.length_nil, List.length_map, List.length_take, List.length_drop, limE]; omega) | (simp [limE] <;> omega)) ?_)
        rw [w64 (x := n + 1) (by omega) (by omega)]
        exact j0 _ _ (by omega)
      · exact ev_df hk (j0 _ _ (by omega))
  | succ f ih =>
    intro x n path steps hs hs0 hx h1 h2 hp hpl
    cases x with
    | nil =>
      refine ev_succ (fun k => impl_grow.l0_eq k _ _ _ _) (ev_df (by simp) (ev_gate ?_ (ev_some.2 ?_)))
      · cases path with
        | nil => exact absurd rfl hp
        | cons a l => rfl
      · rw [GR_nil, grR, up_self]; simp
    | cons t x =>
      have hxs := hx.s
      have hxm := hx.m
      have hg := gN_le (t :: x) n
      have j0 : ∀ (path' : List Int), path' ≠ [] → path'.length ≤ steps + 2 → path ++ up n (gN (t :: x) n) = path' → Ev (fun k => impl_grow.j0 k (t :: x) (gN (t :: x) n) path' steps) (grR path steps n (GR (f + 1) (t :: x) n)) := by
        intro path' hp' hpl' hpp
        have hq := stp_size (gN (t :: x) n) (t :: x)
        have : size (t :: x) * size (t :: x) ≤ 60 * 60 := Nat.mul_le_mul hxs hxs
        refine ev_succ (fun k => impl_grow.j0_eq k _ _ _ _) (ev_bind (step_ev _ (by omega) _ (by omega) hx.v (by omega)) (ev_bind (told_ev _ (by omega)) ?_))
        rw [GR]
        by_cases hf : mL (stp (gN (t :: x) n) (t :: x)) ≤ 9999 ∧ size (stp (gN (t :: x) n) (t :: x)) ≤ 60
        · rw [if_pos hf]
          refine ev_nf rfl ?_
          by_cases hm90 : gN (t :: x) n > 90
          · rw [if_neg (by omega)]
            exact ev_dt hm90 (ev_some.2 rfl)
          · rw [if_pos ⟨hf, by omega⟩]
            refine ev_df hm90 (ev_df (by rw [w64 (by omega) (by omega)]; omega) ?_)
            rw [w64 (by omega) (by omega)]
            have := ih (stp (gN (t :: x) n) (t :: x)) (gN (t :: x) n) path' (steps + 1) (by omega) (by omega) ⟨(stp_v _ (by omega) _ hx.v).1, hf.1, hf.2⟩ (by omega) (by omega) hp' (by omega)
            cases hr : GR f (stp (gN (t :: x) n) (t :: x)) (gN (t :: x) n) with
            | none => rw [hr] at this; exact this
            | some q =>
              rw [hr] at this
              obtain ⟨m, s⟩ := q
              have hb := GR_bound _ _ _ hr (by omega)
              simp only at hb
              have e : grR path steps n ((some (m, s)).map fun r => (r.1, r.2 + 1)) = grR path' (steps + 1) (gN (t :: x) n) (some (m, s)) := by
                simp only [grR, Option.map_some, Prod.mk.injEq]
                refine ⟨?_, by omega⟩
                rw [← hpp, List.append_assoc]
                congr 1
                rcases (show gN (t :: x) n = n ∨ gN (t :: x) n = n + 1 by omega) with e | e
                · rw [e, up_self, List.nil_append]
                · rw [e, up_next (n := n) (m := n + 1) (by omega), up_self, up_next (n := n) (m := m) (by omega)]; rfl
              rw [e]
              exact this
        · rw [if_neg hf, if_neg (fun h => hf h.1)]; exact ev_nt rfl (ev_some.2 rfl)
      refine ev_succ (fun k => impl_grow.l0_eq k _ _ _ _) (ev_dt (by simp <;> omega) (ev_bind (kind_ev _ (by omega)) ?_))
      by_cases hk : kd (t :: x) = 1
      · have e : gN (t :: x) n = n + 1 := by unfold gN; rw [if_pos hk]
        refine ev_dt hk (ev_gd (by first | omega | (simp only [List.length_append, List.length_cons, List.length_nil, List.length_map, List.length_take, List.length_drop, limE]; omega) | (simp [limE] <;> omega)) ?_)
        rw [w64 (x := n + 1) (by omega) (by omega), ← e]
        refine j0 _ (by simp) (by simp <;> omega) ?_
        rw [e, up_next (n := n) (m := n + 1) (by omega), up_self]
      · have e : gN (t :: x) n = n := by unfold gN; rw [if_neg hk]
        refine ev_df hk ?_
        have := j0 path hp (by omega) (by rw [e, up_self, List.append_nil])
        rw [e] at this
        exact this
theorem grow_ev (x : List Term) (n : Int) (hx : Fit x) (h1 : 1 ≤ n) (h2 : n ≤ 90) : Ev (fun k => impl_grow.f k x n) (grR [n] 0 n (GR 3000 x n)) :=
  ev_succ (fun k => impl_grow.f_eq k _ _) (grow_l0 3000 x n [n] 0 (by omega) (by omega) hx h1 h2 (by simp) (by simp))
def growV (r : List Int) (n : Int) : Option (Int × Int) := if OV r = true ∧ 1 ≤ n ∧ n ≤ 90 then GR 3000 (tr r) n else none
def two (q : Option (Int × Int)) : Int × Int := q.getD (-1, -1)
theorem last_up (n m : Int) (h : n ≤ m) : ([n] ++ up n m).length = (m - n).toNat + 1 ∧ ∀ i : Nat, i < (m - n).toNat + 1 → ([n] ++ up n m).getD (i : Int).toNat 0 = n + i := by
  refine ⟨by simp [up], fun i hi => ?_⟩
  rw [Int.toNat_natCast, List.getD_eq_getElem?_getD]
  cases i with
  | zero => simp
  | succ i =>
    simp only [List.cons_append, List.nil_append, List.getElem?_cons_succ, up, List.getElem?_map]
    rw [List.getElem?_range (by omega)]
    simp
    omega
theorem implGrow_ev (r : List Int) (n : Int) : Ev (fun k => impl_Grow.f k r n) (two (growV r n)) := by
  obtain ⟨⟨x, b⟩, h1, h2, h3⟩ := ordOf_tr r
  simp only at h2 h3
  subst h2
  refine ev_succ (fun k => impl_Grow.f_eq k _ _) (ev_bind h1 ?_)
  unfold growV
  cases hv : OV r with
  | false => exact ev_nt rfl (ev_some.2 (by simp [two]))
  | true =>
    refine ev_nf rfl ?_
    by_cases n1 : n < 1
    · exact ev_dt n1 (ev_some.2 (by rw [if_neg (by omega)]; rfl))
    refine ev_df n1 ?_
    by_cases n2 : n > 90
    · exact ev_dt n2 (ev_some.2 (by rw [if_neg (by omega)]; rfl))
    refine ev_df n2 ?_
    rw [if_pos ⟨rfl, by omega, by omega⟩]
    obtain ⟨_, hf⟩ := tr_fit hv
    rw [h3 hv]
    refine ev_bind (grow_ev _ n hf (by omega) (by omega)) ?_
    cases hr : GR 3000 (tr r) n with
    | none => exact ev_bt rfl (ev_some.2 rfl)
    | some q =>
      obtain ⟨m, s⟩ := q
      have hb := GR_bound _ _ _ hr (by omega)
      simp only at hb
      obtain ⟨u1, u2⟩ := last_up n m (by omega)
      simp only [grR]
      have hw : wr ((([n] ++ up n m).length : Int) - 1) = (((m - n).toNat : Nat) : Int) := by rw [u1, w64 (by omega) (by omega)]; omega
      refine ev_bf rfl (ev_gd (by rw [hw, u1]; omega) (ev_some.2 ?_))
      rw [hw, u2 _ (by omega)]
      simp only [two, Option.getD_some, Prod.mk.injEq]
      omega
theorem sgrow_l0 : ∀ (f : Nat) (x : List Term) (n steps : Int), steps + f = 3000 → 0 ≤ steps → Fit x → 1 ≤ n → n ≤ 90 → Ev (fun k => spec_Grow.l0 k (row x) n steps) (two ((GR f x n).map fun r => (r.1, steps + r.2))) := by
  intro f
  induction f with
  | zero =>
    intro x n steps hs hs0 hx h1 h2
    refine ev_succ (fun k => spec_Grow.l0_eq k _ _ _) (ev_dt (by omega) ?_)
    by_cases he : x = []
    · refine ev_dt ((row_one _).2 he) (ev_some.2 ?_)
      rw [he, GR_nil]; simp [two]
    · refine ev_df (fun h => he ((row_one _).1 h)) (ev_bind (skind_ev x hx) (ev_bind (sostep_ev n (by omega) (by omega) x hx) ?_))
      have hG : GR 0 x n = none := by
        cases x with
        | nil => exact absurd rfl he
        | cons t x => rfl
      rw [hG]
      by_cases hf : mL (stp n x) ≤ 9999 ∧ size (stp n x) ≤ 60
      · rw [if_pos hf]
        refine ev_nf rfl ?_
        have j0 : ∀ m : Int, m ≤ 100 → Ev (fun k => spec_Grow.j0 k (row (stp n x)) m steps) (two none) := by
          intro m hm
          refine ev_succ (fun k => spec_Grow.j0_eq k _ _ _) ?_
          by_cases hm90 : m > 90
          · exact ev_dt hm90 (ev_some.2 rfl)
          · refine ev_df hm90 (ev_succ (fun k => spec_Grow.l0_eq k _ _ _) (ev_df ?_ (ev_some.2 rfl)))
            rw [w64 (by omega) (by omega)]; omega
        by_cases hk : kd x = 1
        · refine ev_dt hk ?_
          rw [w64 (x := n + 1) (by omega) (by omega)]
          exact j0 _ (by omega)
        · exact ev_df hk (j0 _ (by omega))
      · rw [if_neg hf]; exact ev_nt rfl (ev_some.2 rfl)
  | succ f ih =>
    intro x n steps hs hs0 hx h1 h2
    refine ev_succ (fun k => spec_Grow.l0_eq k _ _ _) (ev_dt (by omega) ?_)
    cases x with
    | nil =>
      refine ev_dt ((row_one _).2 rfl) (ev_some.2 ?_)
      rw [GR_nil]; simp [two]
    | cons t x =>
      have hg := gN_le (t :: x) n
      refine ev_df (fun h => by cases (row_one _).1 h) (ev_bind (skind_ev _ hx) (ev_bind (sostep_ev n (by omega) (by omega) _ hx) ?_))
      have hst := stp_gN (t :: x) n
      rw [GR]
      rw [← hst]
      by_cases hf : mL (stp n (t :: x)) ≤ 9999 ∧ size (stp n (t :: x)) ≤ 60
      · rw [if_pos hf]
        refine ev_nf rfl ?_
        have j0 : Ev (fun k => spec_Grow.j0 k (row (stp n (t :: x))) (gN (t :: x) n) steps) (two ((if (mL (stp n (t :: x)) ≤ 9999 ∧ size (stp n (t :: x)) ≤ 60) ∧ gN (t :: x) n ≤ 90 then (GR f (stp n (t :: x)) (gN (t :: x) n)).map fun r => (r.1, r.2 + 1) else none).map fun r => (r.1, steps + r.2))) := by
          refine ev_succ (fun k => spec_Grow.j0_eq k _ _ _) ?_
          by_cases hm90 : gN (t :: x) n > 90
          · rw [if_neg (by omega)]
            exact ev_dt hm90 (ev_some.2 rfl)
          · rw [if_pos ⟨hf, by omega⟩]
            refine ev_df hm90 ?_
            rw [w64 (by omega) (by omega)]
            have := ih (stp n (t :: x)) (gN (t :: x) n) (steps + 1) (by omega) (by omega) ⟨(stp_v n (by omega) _ hx.v).1, hf.1, hf.2⟩ (by omega) (by omega)
            rw [Option.map_map]
            have e : (fun r : Int × Int => (r.1, steps + 1 + r.2)) = (fun r => (r.1, steps + r.2)) ∘ (fun r : Int × Int => (r.1, r.2 + 1)) := by
              funext r
              simp only [Function.comp, Prod.mk.injEq, true_and]
              omega
            rw [e] at this
            exact this
        by_cases hk : kd (t :: x) = 1
        · have e : gN (t :: x) n = n + 1 := by unfold gN; rw [if_pos hk]
          refine ev_dt hk ?_
          rw [w64 (x := n + 1) (by omega) (by omega)]
          rw [e] at j0 ⊢
          exact j0
        · have e : gN (t :: x) n = n := by unfold gN; rw [if_neg hk]
          rw [e] at j0 ⊢
          exact ev_df hk j0
      · rw [if_neg hf, if_neg (fun h => hf h.1)]; exact ev_nt rfl (ev_some.2 rfl)
theorem specGrow_ev (r : List Int) (n : Int) : Ev (fun k => spec_Grow.f k r n) (two (growV r n)) := by
  refine ev_succ (fun k => spec_Grow.f_eq k _ _) (ev_bind (valid_ev r) ?_)
  unfold growV
  cases hv : OV r with
  | false => exact ev_nt rfl (ev_some.2 (by simp [two]))
  | true =>
    refine ev_nf rfl (ev_bind (l1In_ev _ _ _) ?_)
    by_cases hn : 1 ≤ n ∧ n ≤ 90
    · rw [if_pos ⟨rfl, hn⟩]
      obtain ⟨hr, hf⟩ := tr_fit hv
      refine ev_nf (by simp <;> omega) ?_
      have := sgrow_l0 3000 (tr r) n 0 (by omega) (by omega) hf (by omega) (by omega)
      rw [← hr] at this
      have e : (fun r : Int × Int => (r.1, 0 + r.2)) = id := by
        funext r
        simp
      rw [e, Option.map_id] at this
      exact this
    · rw [if_neg (fun h => hn h.2)]
      exact ev_nt (by simp <;> omega) (ev_some.2 rfl)
/-! Natural sums, as the code makes them. -/
theorem co_le {x : List Term} (h : vL x) (e : List Term) : co x e ≤ mL x := by
  induction x with
  | nil => exact mL_pos []
  | cons t x ih =>
    have hx := (vL_cons t x).1 h
    rw [co, mL_cons]
    by_cases hc : cL t.f1 e = 0
    · rw [if_pos hc, co_zero fun u hu he => lt_irrefl t.f1 (by have := hx.2.1 u hu; rwa [he, ← c_eq _ _ hc] at this)]
      omega
    · rw [if_neg hc]
      have := ih hx.2.2
      omega
theorem take_v {x : List Term} (h : vL x) (i : Nat) : vL (x.take i) := by
  rw [← List.take_append_drop i x, vL_app] at h
  exact h.1
theorem take_m (x : List Term) (i : Nat) : mL (x.take i) ≤ mL x := by
  have := mL_app (x.take i) (x.drop i)
  rw [List.take_append_drop] at this
  omega
theorem co_take {x e : List Term} {i : Nat} (h : i < x.length) : co (x.take (i + 1)) e = co (x.take i) e + if cL x[i].f1 e = 0 then x[i].f0 else 0 := by
  rw [← List.take_append_getElem h, co_app]
  simp only [co]
  omega
theorem natural_ev (x y : List Term) : ∀ acc : List Term, size x ≤ 1000000 → size y ≤ 1000000 → vL x → vL y → mL x ≤ 1000000000 → mL y ≤ 1000000000 → acc.length + size x + size y ≤ 100000000 → Ev (fun k => impl_natural.l0 k x y acc) (acc ++ natO x y) := by
  refine nat_ind (P := fun x y => ∀ acc : List Term, size x ≤ 1000000 → size y ≤ 1000000 → vL x → vL y → mL x ≤ 1000000000 → mL y ≤ 1000000000 → acc.length + size x + size y ≤ 100000000 → Ev (fun k => impl_natural.l0 k x y acc) (acc ++ natO x y)) ?_ ?_ ?_ ?_ ?_ x y
  · intro y acc hx hy _ _ _ _ ha
    have ly := size_len y
    rw [nat_nl]
    exact ev_succ (fun k => impl_natural.l0_eq k _ _ _) (ev_df (by simp) (ev_gd (by simp [limE]; omega) (ev_gd (by simp [limE]; omega) (ev_some.2 (by simp)))))
  · intro x acc hx hy _ _ _ _ ha
    have lx := size_len x
    rw [nat_nr]
    refine ev_succ (fun k => impl_natural.l0_eq k _ _ _) ?_
    by_cases h : (x.length : Int) > 0
    · exact ev_dt h (ev_df (by simp) (ev_gd (by simp [limE]; omega) (ev_gd (by simp [limE]; omega) (ev_some.2 (by simp)))))
    · exact ev_df h (ev_gd (by simp [limE]; omega) (ev_gd (by simp [limE]; omega) (ev_some.2 (by simp))))
  all_goals
    intro a x b y h ih acc hx hy vx vy mx my ha
    have lx := size_len (a :: x)
    have ly := size_len (b :: y)
    rw [size_cons] at hx hy
    have vx' := (vL_cons a x).1 vx
    have vy' := (vL_cons b y).1 vy
    rw [mL_cons] at mx my
    have px := size_pos x
    have py := size_pos y
    have sx := size_cons a x
    have sy := size_cons b y
    rw [List.length_cons] at lx ly
    refine ev_succ (fun k => impl_natural.l0_eq k _ _ _) (ev_dt (by simp <;> omega) (ev_dt (by simp <;> omega) (ev_gd (by simp <;> omega) (ev_gd (by simp <;> omega) ?_))))
    have g1 : (a :: x).getD (0 : Int).toNat (⟨0, ([] : List Term)⟩ : Term) = a := rfl
    have g2 : (b :: y).getD (0 : Int).toNat (⟨0, ([] : List Term)⟩ : Term) = b := rfl
    have d1 : ((a :: x).take ((a :: x).length : Int).toNat).drop (1 : Int).toNat = x := by rw [Int.toNat_natCast, List.take_length]; rfl
    have d2 : ((b :: y).take ((b :: y).length : Int).toNat).drop (1 : Int).toNat = y := by rw [Int.toNat_natCast, List.take_length]; rfl
    rw [g1, g2, d1, d2]
    refine ev_bind (compare_ev _ _ (by omega) (by omega)) ?_
  · have hc := c_gt.2 h
    refine ev_dt (by omega) (ev_gd (by simp <;> omega) (ev_gd (by simp [limE]; omega) (ev_gd (by simp <;> omega) ?_)))
    have := ih (acc ++ [a]) (by omega) (by omega) vx'.2.2 vy (by omega) (by rw [mL_cons]; omega) (by simp; omega)
    rw [nat_gt x y h]
    simpa using this
  · have hc := c_lt.2 h
    refine ev_df (by omega) (ev_dt (by omega) (ev_gd (by simp <;> omega) (ev_gd (by simp [limE]; omega) (ev_gd (by simp <;> omega) ?_))))
    have := ih (acc ++ [b]) (by omega) (by omega) vx vy'.2.2 (by rw [mL_cons]; omega) (by omega) (by simp; omega)
    rw [nat_lt x y h]
    simpa using this
  · have hc := c_zero.2 h
    refine ev_df (by omega) (ev_df (by omega) (ev_gd (by simp <;> omega) (ev_gd (by simp <;> omega) (ev_gd (by simp <;> omega) (ev_gd (by simp [limE]; omega) (ev_gd (by simp <;> omega) (ev_gd (by simp <;> omega) ?_)))))))
    rw [w64 (x := a.f0 + b.f0) (by omega) (by omega)]
    have := ih (acc ++ [⟨a.f0 + b.f0, a.f1⟩]) (by omega) (by omega) vx'.2.2 vy'.2.2 (by omega) (by omega) (by simp; omega)
    rw [nat_eq x y h]
    simpa using this
theorem nat_ev (x y : List Term) (hx : size x ≤ 1000000) (hy : size y ≤ 1000000) (vx : vL x) (vy : vL y) (mx : mL x ≤ 1000000000) (my : mL y ≤ 1000000000) : Ev (fun k => impl_natural.f k x y) (natO x y) := by
  have := natural_ev x y [] hx hy vx vy mx my (by simp; omega)
  exact ev_succ (fun k => impl_natural.f_eq k x y) this
/-! Sums, as the code makes them. -/
theorem add_ev (x y : List Term) (hx : size x ≤ 1000000) (hy : size y ≤ 1000000) (vx : vL x) (vy : vL y) (mx : mL x ≤ 1000000000) (my : mL y ≤ 1000000000) : Ev (fun k => impl_add.f k x y) (addO x y) := by
  have lx := size_len x
  have ly := size_len y
  cases y with
  | nil => exact ev_succ (fun k => impl_add.f_eq k _ _) (ev_dt (by simp) (ev_some.2 rfl))
  | cons b y =>
    have vb := (vL_cons b y).1 vy
    have sb := size_cons b y
    rw [mL_cons] at my
    have loop : ∀ d i : Nat, i + d = x.length → Ev (fun k => impl_add.l0 k (b :: y) ((x.take i).filter (fun t => decide (cL t.f1 b.f1 > 0))) (⟨b.f0 + co (x.take i) b.f1, b.f1⟩ : Term) x (x.length : Int) (i : Int)) (addO x (b :: y)) := by
      intro d
      induction d with
      | zero =>
        intro i hi
        rw [List.take_of_length_le (by omega)]
        have hf := List.length_filter_le (fun t => decide (cL t.f1 b.f1 > 0)) x
        refine ev_succ (fun k => impl_add.l0_eq k _ _ _ _ _ _) (ev_df (by first | omega | (simp only [List.length_append, List.length_cons, List.length_nil, List.length_map, List.length_take, List.length_drop, limE]; omega) | (simp [limE] <;> omega)) (ev_gd (by first | omega | (simp only [List.length_append, List.length_cons, List.length_nil, List.length_map, List.length_take, List.length_drop, limE]; omega) | (simp [limE] <;> omega)) (ev_gd (by simp <;> omega) ?_)))
        have hd : ((b :: y).take ((b :: y).length : Int).toNat).drop (1 : Int).toNat = y := by rw [Int.toNat_natCast, List.take_length]; rfl
        rw [List.length_cons] at ly
        rw [hd]
        refine ev_gd (by first | omega | (simp only [List.length_append, List.length_cons, List.length_nil, List.length_map, List.length_take, List.length_drop, limE]; omega) | (simp [limE] <;> omega)) (ev_some.2 ?_)
        rw [addO, List.append_assoc]
        rfl
      | succ d ih =>
        intro i hi
        have hlt : i < x.length := by omega
        have sm := size_mem (List.getElem_mem hlt)
        have hf := List.length_filter_le (fun t => decide (cL t.f1 b.f1 > 0)) (x.take i)
        rw [List.length_take] at hf
        have c1 := co_le (take_v vx i) b.f1
        have c2 := co_pos (take_v vx i) b.f1
        have c3 := take_m x i
        have c4 := (mL_mem (List.getElem_mem hlt)).1
        have c5 := (vL_mem vx (List.getElem_mem hlt)).1
        have next := ih (i + 1) (by omega)
        rw [← List.take_append_getElem hlt, List.filter_append, List.filter_cons, List.filter_nil, List.take_append_getElem hlt, co_take hlt] at next
        refine ev_succ (fun k => impl_add.l0_eq k _ _ _ _ _ _) (ev_dt (by first | omega | (simp only [List.length_append, List.length_cons, List.length_nil, List.length_map, List.length_take, List.length_drop, limE]; omega) | (simp [limE] <;> omega)) (ev_gd (by first | omega | (simp only [List.length_append, List.length_cons, List.length_nil, List.length_map, List.length_take, List.length_drop, limE]; omega) | (simp [limE] <;> omega)) ?_))
        rw [get_at hlt]
        refine ev_bind (compare_ev x[i].f1 b.f1 (by omega) (by omega)) ?_
        have j0 : ∀ acc : List Term, Ev (fun k => impl_add.l0 k (b :: y) acc (⟨b.f0 + (co (x.take i) b.f1 + if cL x[i].f1 b.f1 = 0 then x[i].f0 else 0), b.f1⟩ : Term) x (x.length : Int) ((i + 1 : Nat) : Int)) (addO x (b :: y)) → Ev (fun k => impl_add.j0 k (b :: y) acc (⟨b.f0 + co (x.take i) b.f1, b.f1⟩ : Term) x[i] (cL x[i].f1 b.f1) x (x.length : Int) (i : Int)) (addO x (b :: y)) := by
          intro acc h
          refine ev_succ (fun k => impl_add.j0_eq k _ _ _ _ _ _ _ _) ?_
          rw [w_succ (by omega)]
          by_cases h0 : cL x[i].f1 b.f1 = 0
          · rw [if_pos h0] at h
            refine ev_dt h0 ?_
            rw [show wr ((⟨b.f0 + co (x.take i) b.f1, b.f1⟩ : Term).f0 + x[i].f0) = b.f0 + (co (x.take i) b.f1 + x[i].f0) from by
              show wr (b.f0 + co (x.take i) b.f1 + x[i].f0) = _
              rw [w64 (by omega) (by omega)]; omega]
            exact h
          · rw [if_neg h0] at h
            refine ev_df h0 ?_
            rw [show b.f0 + (co (x.take i) b.f1 + 0) = b.f0 + co (x.take i) b.f1 by omega] at h
            exact h
        by_cases hp : cL x[i].f1 b.f1 > 0
        · rw [decide_eq_true hp] at next
          refine ev_dt hp (ev_gd (by first | omega | (simp only [List.length_append, List.length_cons, List.length_nil, List.length_map, List.length_take, List.length_drop, limE]; omega) | (simp [limE] <;> omega)) (j0 _ ?_))
          exact next
        · rw [decide_eq_false hp] at next
          refine ev_df hp (j0 _ ?_)
          simpa using next
    refine ev_succ (fun k => impl_add.f_eq k _ _) (ev_df (by simp <;> omega) (ev_gd (by simp <;> omega) ?_))
    have := loop x.length 0 (by omega)
    have g0 : (b :: y).getD (0 : Int).toNat (⟨0, ([] : List Term)⟩ : Term) = ⟨b.f0 + co (x.take 0) b.f1, b.f1⟩ := by
      show b = _
      cases b
      simp [co]
    rw [g0]
    exact this
theorem both_ev (a b : List Int) : EvP (fun k => impl_both.f k a b) (fun x => x.2.2 = (OV a && OV b) ∧ (OV a = true → x.1 = tr a) ∧ (OV b = true → x.2.1 = tr b)) := by
  refine evp_succ (fun k => impl_both.f_eq k a b) (evp_bind (ordOf_tr a) (fun x ⟨x1, x2⟩ => evp_bind (ordOf_tr b) (fun y ⟨y1, y2⟩ => evp_b (fun h => evp_some ⟨?_, x2, y2⟩) (fun h => evp_some ⟨?_, x2, y2⟩))))
  · rw [← x1, h, ← y1]; rfl
  · rw [← x1, h]; rfl
/-- What a sum tells: nothing, or the row of the sum. -/
def Told (a b : List Int) (z : List Term) (x : List Int × Bool) : Prop := (x.2 = true → OV a = true ∧ OV b = true ∧ x.1 = row z ∧ mL z ≤ 9999 ∧ size z ≤ 60)
theorem add_size (x y : List Term) : size (addO x y) ≤ size x + size y := by
  cases y with
  | nil => show size x ≤ _; omega
  | cons b y =>
    rw [addO]
    have h1 := size_app (x.filter (fun t => decide (cL t.f1 b.f1 > 0))) (⟨b.f0 + co x b.f1, b.f1⟩ :: y)
    rw [size_cons] at h1 ⊢
    have h2 : ∀ x : List Term, size (x.filter (fun t => decide (cL t.f1 b.f1 > 0))) ≤ size x := by
      intro x
      induction x with
      | nil => exact Nat.le_refl _
      | cons t x ih =>
        rw [List.filter_cons]
        split
        · rw [size_cons, size_cons]; omega
        · rw [size_cons]; omega
    have h3 := h2 x
    have : size (⟨b.f0 + co x b.f1, b.f1⟩ : Term).f1 = size b.f1 := rfl
    omega
theorem ordAdd_ev (a b : List Int) : EvP (fun k => impl_OrdAdd.f k a b) (Told a b (addO (tr a) (tr b))) := by
  refine evp_succ (fun k => impl_OrdAdd.f_eq k a b) (evp_bind (both_ev a b) (fun x ⟨x1, x2, x3⟩ => ?_))
  rw [x1]
  cases ha : OV a with
  | false => exact evp_b (fun _ => evp_some (by intro h; cases h)) (fun h => by simp at h)
  | true =>
    cases hb : OV b with
    | false => exact evp_b (fun _ => evp_some (by intro h; cases h)) (fun h => by simp at h)
    | true =>
      refine evp_b (fun h => by simp at h) (fun _ => ?_)
      rw [x2 ha, x3 hb]
      have fa := (tr_fit ha).2
      have fb := (tr_fit hb).2
      have := fa.s
      have := fb.s
      have := fa.m
      have := fb.m
      have hz := add_size (tr a) (tr b)
      refine evp_bindv (add_ev _ _ (by omega) (by omega) fa.v fb.v (by omega) (by omega)) (evp_bindv (told_ev _ (by omega)) (evp_some fun h => ?_))
      by_cases hf : mL (addO (tr a) (tr b)) ≤ 9999 ∧ size (addO (tr a) (tr b)) ≤ 60
      · rw [if_pos hf]; exact ⟨ha, hb, rfl, hf⟩
      · rw [if_neg hf] at h; cases h
theorem ordNat_ev (a b : List Int) : EvP (fun k => impl_OrdNatural.f k a b) (Told a b (natO (tr a) (tr b))) := by
  refine evp_succ (fun k => impl_OrdNatural.f_eq k a b) (evp_bind (both_ev a b) (fun x ⟨x1, x2, x3⟩ => ?_))
  rw [x1]
  cases ha : OV a with
  | false => exact evp_b (fun _ => evp_some (by intro h; cases h)) (fun h => by simp at h)
  | true =>
    cases hb : OV b with
    | false => exact evp_b (fun _ => evp_some (by intro h; cases h)) (fun h => by simp at h)
    | true =>
      refine evp_b (fun h => by simp at h) (fun _ => ?_)
      rw [x2 ha, x3 hb]
      have fa := (tr_fit ha).2
      have fb := (tr_fit hb).2
      have := fa.s
      have := fb.s
      have := fa.m
      have := fb.m
      have hz := nat_size (tr a) (tr b)
      refine evp_bindv (nat_ev _ _ (by omega) (by omega) fa.v fb.v (by omega) (by omega)) (evp_bindv (told_ev _ (by omega)) (evp_some fun h => ?_))
      by_cases hf : mL (natO (tr a) (tr b)) ≤ 9999 ∧ size (natO (tr a) (tr b)) ≤ 60
      · rw [if_pos hf]; exact ⟨ha, hb, rfl, hf⟩
      · rw [if_neg hf] at h; cases h
/-- The number of an ordinal that is one. -/
theorem ordNumber_ev (a : List Int) : EvP (fun k => impl_OrdNumber.f k a) (fun n => n ≥ 0 → OV a = true ∧ tr a = nm n ∧ n ≤ 9999) := by
  refine evp_succ (fun k => impl_OrdNumber.f_eq k a) (evp_bind (ordOf_tr a) (fun x ⟨x1, x2⟩ => ?_))
  rw [x1]
  cases ha : OV a with
  | false => exact evp_b (fun _ => evp_some (by intro h; omega)) (fun h => by cases h)
  | true =>
    refine evp_b (fun h => by cases h) (fun _ => ?_)
    rw [x2 ha]
    have fa := (tr_fit ha).2
    cases ht : tr a with
    | nil => exact evp_d (fun _ => evp_some fun _ => ⟨rfl, rfl, by omega⟩) (fun h => absurd (by simp) h)
    | cons t y =>
      refine evp_d (fun h => by simp at h; omega) (fun _ => evp_d (fun h => ?_) (fun _ => evp_some (by intro h; omega)))
      have hy : y = [] := by simp at h; exact List.eq_nil_of_length_eq_zero (by omega)
      subst hy
      refine evp_gd (by simp) (evp_d (fun h2 => evp_gd (by simp) (evp_some fun _ => ?_)) (fun _ => evp_some (by intro h; omega)))
      have h3 : t.f1 = [] := by
        have : ((t.f1).length : Int) = 0 := h2
        exact List.eq_nil_of_length_eq_zero (by omega)
      rw [ht] at fa
      have v := (vL_one t).1 fa.v
      have m := fa.m
      rw [mL_cons] at m
      refine ⟨rfl, ?_, ?_⟩
      · show [t] = nm t.f0
        unfold nm
        rw [if_neg (by omega)]
        cases t
        simp only at h3
        rw [h3]
      · show t.f0 ≤ 9999
        omega
/-! Sums, as the reference makes them. -/
theorem add_take {x y : List Term} {b : Term} {i : Nat} (h : ∀ t ∈ x.drop i, Lt t.f1 b.f1) : addO x (b :: y) = addO (x.take i) (b :: y) := by
  have h1 : (x.drop i).filter (fun t => decide (cL t.f1 b.f1 > 0)) = [] := by
    rw [List.filter_eq_nil_iff]
    intro t ht
    have := c_lt.2 (h t ht)
    simp only [decide_eq_true_eq]
    omega
  have h2 : co (x.drop i) b.f1 = 0 := co_zero fun t ht he => by
    have := h t ht
    rw [he] at this
    exact lt_irrefl _ this
  have h3 := co_app (x.take i) (x.drop i) b.f1
  rw [List.take_append_drop, h2] at h3
  have h4 := List.filter_append (p := fun t => decide (cL t.f1 b.f1 > 0)) (x.take i) (x.drop i)
  rw [List.take_append_drop, h1, List.append_nil] at h4
  rw [addO, addO, h4, h3, Int.add_zero]
theorem sadd_ev (x y : List Term) (hx : size x ≤ 1000000) (hy : size y ≤ 1000000) (vx : vL x) (vy : vL y) (mx : mL x ≤ 1000000000) (my : mL y ≤ 1000000000) : Ev (fun k => spec_l2Add.f k (row x) (row y)) (row (addO x y)) := by
  have lx := size_len x
  have ly := size_len y
  refine ev_succ (fun k => spec_l2Add.f_eq k _ _) (ev_bind (terms_ev y (by omega)) ?_)
  cases y with
  | nil => exact ev_dt (by simp) (ev_gd (by rw [row_len, limE]; simp; omega) (ev_some.2 rfl))
  | cons b y =>
    have sb := size_cons b y
    have my' := my
    rw [mL_cons] at my'
    rw [List.length_cons] at ly
    have vb := (vL_cons b y).1 vy
    refine ev_df (by simp <;> omega) (ev_bind (terms_ev x (by omega)) ?_)
    have gb : ((b :: y).map fun t => row t.f1).getD (0 : Int).toNat [] = row b.f1 := rfl
    have gb0 : ((b :: y).map (·.f0)).getD (0 : Int).toNat 0 = b.f0 := rfl
    have Lb : ((b :: y).map fun t => row t.f1).length = y.length + 1 := by simp
    have Lb0 : ((b :: y).map (·.f0)).length = y.length + 1 := by simp
    have sAll := add_size x (b :: y)
    -- the end, behind the first terms
    have j1 : ∀ (l : List Term) (from_ : Nat), from_ ≤ 1 → l.length ≤ 1000000 → size (l ++ (b :: y).drop from_) ≤ 1000000000 → Ev (fun k => spec_l2Add.j1 k ((b :: y).map (·.f0)) ((b :: y).map fun t => row t.f1) (l.map (·.f0)) (l.map fun t => row t.f1) (from_ : Int)) (row (l ++ (b :: y).drop from_)) := by
      intro l from_ hf hl hs
      have t1 : ((b :: y).map (·.f0)).take (((b :: y).map (·.f0)).length : Int).toNat = (b :: y).map (·.f0) := by rw [Int.toNat_natCast, List.take_length]
      have t2 : ((b :: y).map fun t => row t.f1).take (((b :: y).map fun t => row t.f1).length : Int).toNat = (b :: y).map fun t => row t.f1 := by rw [Int.toNat_natCast, List.take_length]
      refine ev_succ (fun k => spec_l2Add.j1_eq k _ _ _ _ _) (ev_gd (by rw [Lb0]; omega) ?_)
      rw [t1, t2, Int.toNat_natCast]
      refine ev_gd (by rw [List.length_map, List.length_drop, Lb0, limE]; omega) (ev_gd (by rw [Lb]; omega) (ev_gd (by rw [List.length_map, List.length_drop, Lb, limE]; omega) ?_))
      have := make_ev (l ++ (b :: y).drop from_) hs
      rw [List.map_append, List.map_append, List.map_drop, List.map_drop] at this
      exact ev_bind this (ev_some.2 rfl)
    have stop : ∀ i : Nat, i ≤ x.length → (∀ t ∈ x.take i, ¬ Lt t.f1 b.f1) → (∀ t ∈ x.drop i, Lt t.f1 b.f1) → Ev (fun k => br (decide ((wr ((((x.take i).map (·.f0)).length : Int) - 1)) ≥ 0)) (gate (decide (0 ≤ (wr ((((x.take i).map (·.f0)).length : Int) - 1)) ∧ (wr ((((x.take i).map (·.f0)).length : Int) - 1)) < (((x.take i).map fun t => row t.f1).length : Int))) <| gate (decide (0 ≤ (0 : Int) ∧ (0 : Int) < (((b :: y).map fun t => row t.f1).length : Int))) <| (spec_l1Compare.f k (((x.take i).map fun t => row t.f1).getD ((wr ((((x.take i).map (·.f0)).length : Int) - 1)).toNat) ([] : List Int)) (((b :: y).map fun t => row t.f1).getD (0 : Int).toNat ([] : List Int))).bind fun r5 => br (decide (r5 = 0)) (spec_l2Add.j0 k ((b :: y).map (·.f0)) ((b :: y).map fun t => row t.f1) ((x.take i).map (·.f0)) ((x.take i).map fun t => row t.f1) (wr ((((x.take i).map (·.f0)).length : Int) - 1))) (spec_l2Add.j1 k ((b :: y).map (·.f0)) ((b :: y).map fun t => row t.f1) ((x.take i).map (·.f0)) ((x.take i).map fun t => row t.f1) 0)) (spec_l2Add.j1 k ((b :: y).map (·.f0)) ((b :: y).map fun t => row t.f1) ((x.take i).map (·.f0)) ((x.take i).map fun t => row t.f1) 0)) (row (addO x (b :: y))) := by
      intro i hi h1 h2
      rw [add_take h2] at sAll ⊢
      rw [add_over (take_v vx i) h1] at sAll ⊢
      have hil : (x.take i).length = i := by rw [List.length_take]; omega
      cases i with
      | zero =>
        refine ev_df (by rw [List.length_map, hil, w64 (by omega) (by omega)]; omega) ?_
        have := j1 [] 0 (by omega) (by simp) (by simp; omega)
        exact this
      | succ i =>
        have hlt : i < x.length := by omega
        have hw : wr ((((x.take (i + 1)).map (·.f0)).length : Int) - 1) = (i : Int) := by rw [List.length_map, hil, w64 (by omega) (by omega)]; omega
        have ht := List.take_append_getElem hlt
        have sm := size_mem (List.getElem_mem hlt)
        have hm := mL_mem (List.getElem_mem hlt)
        have hv := vL_mem vx (List.getElem_mem hlt)
        have hil2 : (x.take i).length = i := by rw [List.length_take]; omega
        have g1 : ((x.take (i + 1)).map fun t => row t.f1).getD (i : Int).toNat [] = row x[i].f1 := by rw [map_get _ _ _ _ (by omega), List.getElem_take]
        rw [hw, g1, gb]
        refine ev_dt (by omega) (ev_gd (by rw [List.length_map, hil]; omega) (ev_gd (by rw [Lb]; omega) (ev_bind (scompare_ev _ _ (by omega) (by omega)) ?_)))
        rw [← ht, mrg_app, mrg] at sAll ⊢
        by_cases hc : cL x[i].f1 b.f1 = 0
        · rw [if_pos hc] at sAll ⊢
          have g2 : ((x.take i ++ [x[i]]).map (·.f0)).getD (i : Int).toNat 0 = x[i].f0 := by rw [ht, map_get _ _ _ _ (by omega), List.getElem_take]
          refine ev_dt hc (ev_succ (fun k => spec_l2Add.j0_eq k _ _ _ _ _) (ev_gd (by rw [ht, List.length_map, hil]; omega) (ev_gd (by rw [Lb0]; omega) (ev_gd (by rw [ht, List.length_map, hil]; omega) (ev_gd (by rw [ht, List.length_map, hil]; omega) ?_)))))
          rw [g2, gb0, w64 (by omega) (by omega), Int.toNat_natCast]
          have e1 : ((x.take i ++ [x[i]]).map (·.f0)).set i (x[i].f0 + b.f0) = (x.take i ++ [(⟨x[i].f0 + b.f0, x[i].f1⟩ : Term)]).map (·.f0) := by
            rw [List.map_append, List.map_append, List.set_append_right _ _ (by rw [List.length_map, hil2]; omega), List.length_map, hil2, Nat.sub_self]
            rfl
          have e2 : (x.take i ++ [x[i]]).map (fun t => row t.f1) = (x.take i ++ [(⟨x[i].f0 + b.f0, x[i].f1⟩ : Term)]).map fun t => row t.f1 := by
            rw [List.map_append, List.map_append]; rfl
          rw [e1, e2]
          have := j1 (x.take i ++ [⟨x[i].f0 + b.f0, x[i].f1⟩]) 1 (by omega) (by simp; omega) (by simp only [List.append_assoc]; show size (x.take i ++ (⟨x[i].f0 + b.f0, x[i].f1⟩ :: y)) ≤ _; omega)
          rw [List.append_assoc] at this
          exact this
        · rw [if_neg hc] at sAll ⊢
          refine ev_df hc ?_
          have := j1 (x.take i ++ [x[i]]) 0 (by omega) (by simp; omega) (by simp only [List.append_assoc]; show size (x.take i ++ (x[i] :: b :: y)) ≤ _; omega)
          rw [List.append_assoc] at this
          exact this
    have loop : ∀ d i : Nat, i + d = x.length → (∀ t ∈ x.take i, ¬ Lt t.f1 b.f1) → Ev (fun k => spec_l2Add.l0 k ((b :: y).map (·.f0)) ((b :: y).map fun t => row t.f1) (x.map (·.f0)) (x.map fun t => row t.f1) ((x.take i).map (·.f0)) ((x.take i).map fun t => row t.f1) (i : Int)) (row (addO x (b :: y))) := by
      intro d
      induction d with
      | zero =>
        intro i hi h1
        exact ev_succ (fun k => spec_l2Add.l0_eq k _ _ _ _ _ _ _) (ev_df (by rw [List.length_map]; omega) (stop i (by omega) h1 (by rw [List.drop_eq_nil_of_le (by omega)]; intro t ht; cases ht)))
      | succ d ih =>
        intro i hi h1
        have hlt : i < x.length := by omega
        have sm := size_mem (List.getElem_mem hlt)
        refine ev_succ (fun k => spec_l2Add.l0_eq k _ _ _ _ _ _ _) (ev_dt (by rw [List.length_map]; omega) (ev_gd (by rw [List.length_map]; omega) (ev_gd (by rw [Lb]; omega) ?_)))
        rw [map_get (fun t => row t.f1) x i _ hlt, map_get (·.f0) x i _ hlt, gb]
        refine ev_bind (scompare_ev _ _ (by omega) (by omega)) ?_
        by_cases hc : cL x[i].f1 b.f1 ≥ 0
        · have hil : (x.take i).length = i := by rw [List.length_take]; omega
          refine ev_dt hc (ev_gd (by rw [List.length_map]; omega) (ev_gd (by rw [List.length_map, hil, limE]; simp; omega) (ev_gd (by rw [List.length_map]; omega) (ev_gd (by rw [List.length_map, hil, limE]; simp; omega) ?_))))
          rw [w_succ (by omega)]
          have := ih (i + 1) (by omega) (by
            intro t ht
            rw [← List.take_append_getElem hlt] at ht
            rcases List.mem_append.1 ht with ht | ht
            · exact h1 t ht
            · rw [List.mem_singleton.1 ht]
              intro hl
              have := c_lt.2 hl
              omega)
          rw [← List.take_append_getElem hlt, List.map_append, List.map_append] at this
          exact this
        · refine ev_df hc (stop i (by omega) h1 ?_)
          have hcl : Lt x[i].f1 b.f1 := by
            have := c_range x[i].f1 b.f1
            exact c_lt.1 (by omega)
          rw [List.drop_eq_getElem_cons hlt]
          intro t ht
          rcases List.mem_cons.1 ht with ht | ht
          · rw [ht]; exact hcl
          · have hv := vx
            rw [← List.take_append_drop i x, vL_app, List.drop_eq_getElem_cons hlt, vL_cons] at hv
            exact lt_trans _ _ _ (hv.2.1.2.1 t ht) hcl
    exact loop x.length 0 (by omega) (by intro t ht; simp at ht)
/-! What is drawn for growth. -/
theorem add_m {x y : List Term} (hx : vL x) (hy : vL y) : mL (addO x y) ≤ mL x + mL y := by
  cases y with
  | nil => have := mL_pos []; show mL x ≤ _; omega
  | cons b y =>
    have h1 : ∀ x : List Term, mL (x.filter (fun t => decide (cL t.f1 b.f1 > 0))) ≤ mL x := by
      intro x
      induction x with
      | nil => exact Int.le_refl _
      | cons t x ih =>
        rw [List.filter_cons]
        split
        · rw [mL_cons, mL_cons]; omega
        · rw [mL_cons]; omega
    have h2 := h1 x
    have h3 := co_le hx b.f1
    have h4 := mL_pos x
    have h5 := mL_pos y
    rw [addO, mL_app, mL_cons, mL_cons]
    show max (mL (x.filter (fun t => decide (cL t.f1 b.f1 > 0)))) (max (max (b.f0 + co x b.f1) (mL b.f1)) (mL y)) ≤ mL x + max (max b.f0 (mL b.f1)) (mL y)
    omega
def W (c e : Int) : List Term := [⟨c, nm e⟩]
theorem W_ok {c e : Int} (h0 : 1 ≤ c) (h1 : c ≤ 9999) (h2 : 0 ≤ e) (h3 : e ≤ 9999) : vL (W c e) ∧ mL (W c e) ≤ 9999 ∧ size (W c e) ≤ 5 := by
  have hf := nm_fit h2 h3
  refine ⟨(vL_one _).2 ⟨h0, hf.v⟩, ?_, ?_⟩
  · have := hf.m
    unfold W
    rw [mL_cons, mL_nil]
    show max (max c (mL (nm e))) 0 ≤ 9999
    omega
  · unfold W
    rw [size_cons, size_nil]
    show 1 + size (nm e) + 1 ≤ 5
    unfold nm
    split
    · rw [size_nil]; omega
    · rw [size_cons, size_nil]; show 1 + (1 + size [] + 1) + 1 ≤ 5; rw [size_nil]; omega
theorem W_row {c e : Int} (h : e ≠ 0) : row (W c e) = [1, c, 1, e, 0] := by
  unfold W nm
  rw [if_neg h]
  simp [row, fL_cons, fL_nil]
theorem grown_ev {b : List Int} (hb : BOK b) : EvP (fun k => spec_l20Grown.f k b 0) (fun _ => True) := by
  refine evp_succ (fun k => spec_l20Grown.f_eq k _ _) (evp_bind (pick_ev hb (by omega) (by omega) (by omega)) (fun a1 ⟨e1, _⟩ => ?_))
  rw [e1]
  refine evp_bind (pick_ev hb (by simp) (by simp) (by omega)) (fun a2 ⟨e2, _⟩ => ?_)
  rw [e2]
  refine evp_bind (pick_ev hb (by simp) (by simp) (by omega)) (fun a3 ⟨e3, _⟩ => ?_)
  rw [e3]
  refine evp_bind (pick_ev hb (by simp) (by simp) (by omega)) (fun a4 ⟨e4, _⟩ => ?_)
  rw [e4]
  have num : ∀ n : Int, 0 ≤ n → n ≤ 9999 → vL (nm n) ∧ mL (nm n) ≤ 9999 ∧ size (nm n) ≤ 60 := fun n h0 h1 => ⟨(nm_fit h0 h1).v, (nm_fit h0 h1).m, (nm_fit h0 h1).s⟩
  refine evp_d (fun _ => ?_) (fun _ => evp_d (fun _ => ?_) (fun _ => evp_d (fun _ => ?_) (fun _ => ?_)))
  · exact evp_bind (little_ev hb 9 (by omega) _ (by simp) (by simp)) (fun x _ => evp_some trivial)
  · refine evp_bind (pick_ev hb (by simp) (by simp) (by omega)) (fun a5 ⟨e5, g5, g5'⟩ => ?_)
    rw [e5]
    refine evp_bind (pick_ev hb (by simp) (by simp) (by omega)) (fun a6 ⟨e6, g6, g6'⟩ => ?_)
    obtain ⟨v1, v2, v3⟩ := W_ok (c := 1 + a5.1) (e := 1) (by omega) (by omega) (by omega) (by omega)
    obtain ⟨w1, w2, w3⟩ := num a6.1 g6 (by omega)
    have := sadd_ev _ _ (by omega) (by omega) v1 w1 (by omega) (by omega)
    rw [W_row (by omega)] at this
    rw [w64 (x := 1 + a5.1) (by omega) (by omega)]
    exact evp_bindv (sOrdOf_ev g6 (by omega)) (evp_bindv this (evp_some trivial))
  · refine evp_bind (pick_ev hb (by simp) (by simp) (by omega)) (fun a6 ⟨e6, g6, g6'⟩ => ?_)
    obtain ⟨v1, v2, v3⟩ := W_ok (c := 1) (e := 1) (by omega) (by omega) (by omega) (by omega)
    obtain ⟨u1, u2, u3⟩ := W_ok (c := 1) (e := 2) (by omega) (by omega) (by omega) (by omega)
    obtain ⟨w1, w2, w3⟩ := num a6.1 g6 (by omega)
    have t1 := sadd_ev _ _ (by omega) (by omega) v1 w1 (by omega) (by omega)
    have hs := add_size (W 1 1) (nm a6.1)
    have hm := add_m v1 w1
    have t2 := sadd_ev _ _ (by omega) (by omega) u1 (add_v v1 w1) (by omega) (by omega)
    rw [W_row (by omega)] at t1 t2
    exact evp_bindv (sOrdOf_ev g6 (by omega)) (evp_bindv t1 (evp_bindv t2 (evp_some trivial)))
  · refine evp_bind (pick_ev hb (by simp) (by simp) (by omega)) (fun a6 ⟨e6, g6, g6'⟩ => ?_)
    exact evp_bindv (sOrdOf_ev g6 (by omega)) (evp_some trivial)
theorem sameInts_l0 (l : List Int) (hl : l.length < 9223372036854775807) : ∀ d i : Nat, i + d = l.length → Ev (fun k => laws_sameInts.l0 k l l (i : Int)) true := by
  intro d
  induction d with
  | zero =>
    intro i hi
    exact ev_succ (fun k => laws_sameInts.l0_eq k _ _ _) (ev_df (by omega) (ev_some.2 rfl))
  | succ d ih =>
    intro i hi
    refine ev_succ (fun k => laws_sameInts.l0_eq k _ _ _) (ev_dt (by omega) (ev_gd (by omega) (ev_gd (by omega) (ev_nf (by simp) ?_))))
    rw [w_succ (by omega)]
    exact ih (i + 1) (by omega)
theorem sameInts_self (l : List Int) (hl : l.length < 9223372036854775807) : Ev (fun k => laws_sameInts.f k l l) true :=
  ev_succ (fun k => laws_sameInts.f_eq k _ _) (ev_nf (by simp) (sameInts_l0 l hl l.length 0 (by omega)))
theorem sameInts_any (a b : List Int) (ha : a.length < 9223372036854775807) : Ev (fun k => laws_sameInts.f k a b) (decide (a = b)) := by
  by_cases hl : a.length = b.length
  · have loop : ∀ d i : Nat, i + d = a.length → Ev (fun k => laws_sameInts.l0 k a b (i : Int)) (decide (a.drop i = b.drop i)) := by
      intro d
      induction d with
      | zero =>
        intro i hi
        refine ev_succ (fun k => laws_sameInts.l0_eq k _ _ _) (ev_df (by omega) (ev_some.2 ?_))
        rw [List.drop_eq_nil_of_le (by omega), List.drop_eq_nil_of_le (by omega)]
        simp
      | succ d ih =>
        intro i hi
        have h1 : i < a.length := by omega
        have h2 : i < b.length := by omega
        refine ev_succ (fun k => laws_sameInts.l0_eq k _ _ _) (ev_dt (by omega) (ev_gd (by omega) (ev_gd (by omega) ?_)))
        rw [get_nat h1, get_nat h2, w_succ (by omega), List.drop_eq_getElem_cons h1, List.drop_eq_getElem_cons h2]
        by_cases he : a[i] = b[i]
        · refine ev_nf (decide_eq_true he) ?_
          have := ih (i + 1) (by omega)
          rw [he]
          simp only [List.cons.injEq, true_and]
          exact this
        · refine ev_nt (decide_eq_false he) (ev_some.2 ?_)
          exact (decide_eq_false (fun h => he (by injection h))).symm
    have := loop a.length 0 (by omega)
    exact ev_succ (fun k => laws_sameInts.f_eq k _ _) (ev_nf (decide_eq_true (by omega)) this)
  · refine ev_succ (fun k => laws_sameInts.f_eq k _ _) (ev_nt (decide_eq_false (by omega)) (ev_some.2 ?_))
    have : a ≠ b := fun h => hl (by rw [h])
    simp [this]
theorem alive_at (j : Nat) : laws_alive.f (j + 12) = some true := by kernel_rfl
theorem alive_ev : Ev (fun k => laws_alive.f k) true := ⟨12, fun k hk => by
  obtain ⟨j, rfl⟩ : ∃ j, k = j + 12 := ⟨k - 12, by omega⟩
  exact alive_at j⟩
def pathV (r : List Int) (n : Int) : List Int := match growV r n with
  | some (m, _) => [n] ++ up n m
  | none => []
theorem growV_some {r : List Int} {n : Int} {q : Int × Int} (h : growV r n = some q) : (OV r = true ∧ 1 ≤ n ∧ n ≤ 90) ∧ GR 3000 (tr r) n = some q := by
  unfold growV at h
  split at h
  · rename_i hc; exact ⟨hc, h⟩
  · cases h
theorem implPath_ev (r : List Int) (n : Int) : Ev (fun k => impl_GrowPath.f k r n) (pathV r n) := by
  obtain ⟨⟨x, b⟩, h1, h2, h3⟩ := ordOf_tr r
  simp only at h2 h3
  subst h2
  refine ev_succ (fun k => impl_GrowPath.f_eq k _ _) (ev_bind h1 ?_)
  unfold pathV growV
  cases hv : OV r with
  | false => exact ev_nt rfl (ev_some.2 (by simp))
  | true =>
    refine ev_nf rfl ?_
    by_cases n1 : n < 1
    · exact ev_dt n1 (ev_some.2 (by rw [if_neg (by omega)]))
    refine ev_df n1 ?_
    by_cases n2 : n > 90
    · exact ev_dt n2 (ev_some.2 (by rw [if_neg (by omega)]))
    refine ev_df n2 ?_
    rw [if_pos ⟨rfl, by omega, by omega⟩]
    obtain ⟨_, hf⟩ := tr_fit hv
    rw [h3 hv]
    refine ev_bind (grow_ev _ n hf (by omega) (by omega)) ?_
    cases hr : GR 3000 (tr r) n with
    | none => exact ev_some.2 rfl
    | some q => exact ev_some.2 rfl
theorem spath_l0 : ∀ (f : Nat) (x : List Term) (n : Int) (acc : List Int) {r : Int × Int}, Fit x → 1 ≤ n → n ≤ 90 → GR f x n = some r → acc.length + f ≤ 4000 → Ev (fun k => spec_GrowPath.l0 k (row x) n acc) (acc ++ up n r.1)
  | f, [], n, acc, r, hx, h1, h2, h, ha => by
    rw [GR_nil] at h
    cases h
    refine ev_succ (fun k => spec_GrowPath.l0_eq k _ _ _) (ev_df (by rw [row_len, size_nil]; omega) (ev_some.2 ?_))
    rw [up_self, List.append_nil]
  | 0, t :: x, n, acc, r, hx, h1, h2, h, ha => by simp [GR] at h
  | f + 1, t :: x, n, acc, r, hx, h1, h2, h, ha => by
    obtain ⟨g, e, hc, h3⟩ := GR_some h (by simp)
    cases e
    have hb := GR_bound _ _ _ h3 hc.2
    simp only at hb
    have hg := gN_le (t :: x) n
    have hp := size_pos x
    have hp2 := size_pos t.f1
    rw [← stp_gN] at hc h3
    refine ev_succ (fun k => spec_GrowPath.l0_eq k _ _ _) (ev_dt (by rw [row_len, size_cons]; omega) (ev_bind (skind_ev _ hx) (ev_bind (sostep_ev n (by omega) (by omega) _ hx) ?_)))
    rw [if_pos hc.1]
    have hF : Fit (stp n (t :: x)) := ⟨(stp_v n (by omega) _ hx.v).1, hc.1.1, hc.1.2⟩
    by_cases hk : kd (t :: x) = 1
    · have e : gN (t :: x) n = n + 1 := by unfold gN; rw [if_pos hk]
      rw [e] at h3 hc hb
      refine ev_dt hk (ev_gd (by first | omega | (simp only [List.length_append, List.length_cons, List.length_nil, List.length_map, List.length_take, List.length_drop, limE]; omega) | (simp [limE] <;> omega)) ?_)
      rw [w64 (x := n + 1) (by omega) (by omega)]
      have := spath_l0 f _ (n + 1) (acc ++ [n + 1]) hF (by omega) (by omega) h3 (by simp <;> omega)
      rw [up_next (n := n) (by omega)]
      simpa using this
    · have e : gN (t :: x) n = n := by unfold gN; rw [if_neg hk]
      rw [e] at h3 hc hb
      exact ev_df hk (spath_l0 f _ n acc (r := (r.1, r.2 - 1)) hF (by omega) (by omega) h3 (by omega))
theorem specPath_ev (r : List Int) (n : Int) : Ev (fun k => spec_GrowPath.f k r n) (pathV r n) := by
  refine ev_succ (fun k => spec_GrowPath.f_eq k _ _) (ev_bind (specGrow_ev r n) ?_)
  unfold pathV
  cases hg : growV r n with
  | none => exact ev_dt (by simp [two]) (ev_some.2 rfl)
  | some q =>
    obtain ⟨m, s⟩ := q
    obtain ⟨h1, h2⟩ := growV_some hg
    have hb := GR_bound _ _ _ h2 (by omega)
    simp only at hb
    obtain ⟨e, hf⟩ := tr_fit h1.1
    refine ev_df (by show ¬ m < 0; omega) (ev_gd (by simp [limE]) ?_)
    have := spath_l0 3000 (tr r) n [n] hf (by omega) (by omega) h2 (by simp)
    rw [← e] at this
    exact this
theorem pathV_len (r : List Int) (n : Int) : (pathV r n).length ≤ 100 := by
  unfold pathV
  cases hg : growV r n with
  | none => simp
  | some q =>
    obtain ⟨m, s⟩ := q
    obtain ⟨h1, h2⟩ := growV_some hg
    have hb := GR_bound _ _ _ h2 (by omega)
    simp only at hb
    have := (last_up n m (by omega)).1
    simp only at this ⊢
    omega
theorem power_ev (x : List Term) : Ev (fun k => impl_power.f k x) [⟨1, x⟩] := ev_succ (fun k => impl_power.f_eq k x) (ev_some.2 rfl)
theorem implOrdPower_ev {x : List Term} (h : Fit x) : Ev (fun k => impl_OrdPower.f k (row x)) (if mL [⟨1, x⟩] ≤ 9999 ∧ size [⟨1, x⟩] ≤ 60 then (row [⟨1, x⟩], true) else ([], false)) := by
  obtain ⟨⟨y, b⟩, h1, h2, h3⟩ := ordOf_tr (row x)
  simp only at h2 h3
  rw [h.ov] at h2
  subst h2
  have hy := h3 h.ov
  rw [tr_row h] at hy
  subst hy
  have hs := h.s
  refine ev_succ (fun k => impl_OrdPower.f_eq k _) (ev_bind h1 (ev_nf rfl (ev_bind (power_ev _) (ev_bind (told_ev _ (by rw [size_cons, size_nil]; show 1 + size y + 1 ≤ _; omega)) ?_))))
  split <;> exact ev_some.2 rfl
/-! The least ordinal of some. -/
def cand (i : Nat) : List Term := addO (if i / 10 % 10 = 0 then [] else [⟨(i / 10 % 10 : Nat), nm (i / 100 : Nat)⟩]) (nm (i % 10 : Nat))
def fst3 (k a : Int) : List Term := if a = 0 then [] else [⟨a, nm k⟩]
theorem cand_eq (k a b : Nat) (ha : a < 10) (hb : b < 10) : cand (100 * k + 10 * a + b) = addO (fst3 k a) (nm (b : Int)) := by
  unfold cand fst3
  have e1 : (100 * k + 10 * a + b) / 10 % 10 = a := by omega
  have e2 : (100 * k + 10 * a + b) / 100 = k := by omega
  have e3 : (100 * k + 10 * a + b) % 10 = b := by omega
  rw [e1, e2, e3]
  by_cases h : a = 0
  · rw [if_pos h, if_pos (by omega)]
  · rw [if_neg h, if_neg (by omega)]
theorem fst3_fit {k a : Int} (hk : 0 ≤ k) (hk2 : k ≤ 2) (ha : 0 ≤ a) (ha2 : a ≤ 9) : vL (fst3 k a) ∧ mL (fst3 k a) ≤ 9 ∧ size (fst3 k a) ≤ 5 := by
  have hf := nm_fit hk (by omega)
  unfold fst3
  split
  · exact ⟨vL_nil, by rw [mL_nil]; omega, by rw [size_nil]; omega⟩
  · refine ⟨(vL_one _).2 ⟨by show 1 ≤ a; omega, hf.v⟩, ?_, ?_⟩
    · rw [mL_cons, mL_nil]
      show max (max a (mL (nm k))) 0 ≤ 9
      have : mL (nm k) ≤ 2 := by
        unfold nm
        split
        · rw [mL_nil]; omega
        · rw [mL_cons, mL_nil]; show max (max k (mL [])) 0 ≤ 2; rw [mL_nil]; omega
      omega
    · rw [size_cons, size_nil]
      show 1 + size (nm k) + 1 ≤ 5
      unfold nm
      split
      · rw [size_nil]; omega
      · rw [size_cons, size_nil]; show 1 + (1 + size [] + 1) + 1 ≤ 5; rw [size_nil]; omega
theorem nm_ok {n : Int} (h0 : 0 ≤ n) (h1 : n ≤ 9) : vL (nm n) ∧ mL (nm n) ≤ 9 ∧ size (nm n) ≤ 3 := by
  have hf := nm_fit h0 (by omega)
  refine ⟨hf.v, ?_, ?_⟩
  · unfold nm
    split
    · rw [mL_nil]; omega
    · rw [mL_cons, mL_nil]; show max (max n (mL [])) 0 ≤ 9; rw [mL_nil]; omega
  · unfold nm
    split
    · rw [size_nil]; omega
    · rw [size_cons, size_nil]; show 1 + size [] + 1 ≤ 3; rw [size_nil]; omega
theorem sum_fit {k a b : Int} (hk : 0 ≤ k) (hk2 : k ≤ 2) (ha : 0 ≤ a) (ha2 : a ≤ 9) (hb : 0 ≤ b) (hb2 : b ≤ 9) : Fit (addO (fst3 k a) (nm b)) := by
  obtain ⟨v1, v2, v3⟩ := fst3_fit hk hk2 ha ha2
  obtain ⟨w1, w2, w3⟩ := nm_ok hb hb2
  have := add_m v1 w1
  have := add_size (fst3 k a) (nm b)
  exact ⟨add_v v1 w1, by omega, by omega⟩
/-- Whether the goal is reached along an ordinal. -/
def reach (n goal : Int) (x : List Term) : Bool := match GR 3000 x n with
  | some (m, _) => decide (m ≥ goal)
  | none => false
def better (best : Option (List Term)) (x : List Term) : Bool := match best with
  | none => true
  | some y => decide (cL x y < 0)
def sel (n goal : Int) (best : Option (List Term)) (x : List Term) : Option (List Term) :=
  if better best x = true ∧ reach n goal x = true then some x else best
theorem sel_pos {n goal : Int} {best : Option (List Term)} {x : List Term} (h1 : better best x = true) (h2 : reach n goal x = true) : sel n goal best x = some x := by unfold sel; rw [if_pos ⟨h1, h2⟩]
theorem sel_neg {n goal : Int} {best : Option (List Term)} {x : List Term} (h : ¬ (better best x = true ∧ reach n goal x = true)) : sel n goal best x = best := by unfold sel; rw [if_neg h]
def rest3 (i : Nat) : List (List Term) := ((List.range 300).drop i).map cand
theorem rest3_cons {i : Nat} (h : i < 300) : rest3 i = cand i :: rest3 (i + 1) := by
  unfold rest3
  rw [List.drop_eq_getElem_cons (by simpa using h), List.map_cons, List.getElem_range]
theorem rest3_end : rest3 300 = [] := by unfold rest3; rw [List.drop_eq_nil_of_le (by simp)]; rfl
def GoodB (best : Option (List Term)) : Prop := ∀ y, best = some y → Fit y
theorem GoodB.sel {n goal : Int} {best : Option (List Term)} {x : List Term} (h : GoodB best) (hx : Fit x) : GoodB (sel n goal best x) := by
  intro y hy
  by_cases hc : better best x = true ∧ reach n goal x = true
  · rw [sel_pos hc.1 hc.2] at hy; cases hy; exact hx
  · rw [sel_neg hc] at hy; exact h y hy
def resL (best : Option (List Term)) : List Int × Bool := match best with
  | some y => (row y, true)
  | none => ([], false)
theorem times_ev (k a : Int) (ha : 0 ≤ a) (ha2 : a ≤ 9) : Ev (fun j => impl_times.f j [⟨1, nm k⟩] (nm a)) (fst3 k a) := by
  refine ev_succ (fun j => impl_times.f_eq j _ _) (ev_df (by simp) ?_)
  unfold fst3 nm
  by_cases h : a = 0
  · rw [if_pos h, if_pos h]
    exact ev_succ (fun j => impl_times.l0_eq j _ _ _ _ _) (ev_df (by simp) (ev_some.2 rfl))
  · rw [if_neg h, if_neg h]
    refine ev_succ (fun j => impl_times.l0_eq j _ _ _ _ _) (ev_dt (by simp) (ev_gd (by simp) (ev_df (by simp) (ev_gd (by simp) (ev_gd (by simp) (ev_gd (by simp [limE]) (ev_gd (by simp) (ev_gd (by simp [limE]) ?_))))))))
    refine ev_succ (fun j => impl_times.l0_eq j _ _ _ _ _) (ev_df (by rw [w64 (by omega) (by omega)]; simp) (ev_some.2 ?_))
    have : wr (1 * a) = a := by rw [w64 (by omega) (by omega)]; omega
    show [] ++ [(⟨wr (1 * a), nm k⟩ : Term)] ++ [] = _
    rw [this]
    rfl
section
variable (n goal : Int) (hn1 : 1 ≤ n) (hn2 : n ≤ 90) (hg1 : 1 ≤ goal)
/-- The loops over the three numbers, with one step and one end of their own. -/
theorem implL : ∀ d0 k0 : Nat, k0 + d0 = 3 → ∀ best : Option (List Term), GoodB best → 1 ≤ n → n ≤ 90 → 1 ≤ goal →
    Ev (fun k => impl_GrowLeast.l0 k n goal (best.getD []) best.isSome (k0 : Int)) (resL ((rest3 (100 * k0)).foldl (sel n goal) best)) := by
  intro d0
  induction d0 with
  | zero =>
    intro k0 hk best hb _ _ _
    obtain rfl : k0 = 3 := by omega
    rw [rest3_end]
    refine ev_succ (fun k => impl_GrowLeast.l0_eq k _ _ _ _ _) (ev_df (by omega) ?_)
    cases best with
    | none => exact ev_nt rfl (ev_some.2 rfl)
    | some y =>
      have hs := (hb y rfl).s
      exact ev_nf rfl (ev_bind (rowOf_ev y (by omega)) (ev_some.2 rfl))
  | succ d0 ih0 =>
    intro k0 hk best hb hn1 hn2 hg1
    have l1 : ∀ d1 a : Nat, a + d1 = 10 → ∀ best : Option (List Term), GoodB best → Ev (fun k => impl_GrowLeast.l1 k n goal (best.getD []) best.isSome (k0 : Int) (k0 : Int) (a : Int)) (resL ((rest3 (100 * k0 + 10 * a)).foldl (sel n goal) best)) := by
      intro d1
      induction d1 with
      | zero =>
        intro a ha best hb
        obtain rfl : a = 10 := by omega
        refine ev_succ (fun k => impl_GrowLeast.l1_eq k _ _ _ _ _ _ _) (ev_df (by omega) ?_)
        rw [w_succ (by omega), show 100 * k0 + 10 * 10 = 100 * (k0 + 1) by omega]
        exact ih0 (k0 + 1) (by omega) best hb hn1 hn2 hg1
      | succ d1 ih1 =>
        intro a ha best hb
        have l2 : ∀ d2 b : Nat, b + d2 = 10 → ∀ best : Option (List Term), GoodB best → Ev (fun k => impl_GrowLeast.l2 k n goal (best.getD []) best.isSome (k0 : Int) (a : Int) (k0 : Int) (a : Int) (b : Int)) (resL ((rest3 (100 * k0 + 10 * a + b)).foldl (sel n goal) best)) := by
          intro d2
          induction d2 with
          | zero =>
            intro b hb' best hb
            obtain rfl : b = 10 := by omega
            refine ev_succ (fun k => impl_GrowLeast.l2_eq k _ _ _ _ _ _ _ _ _) (ev_df (by omega) ?_)
            rw [w_succ (by omega), show 100 * k0 + 10 * a + 10 = 100 * k0 + 10 * (a + 1) by omega]
            exact ih1 (a + 1) (by omega) best hb
          | succ d2 ih2 =>
            intro b hb' best hb
            have hF := sum_fit (k := (k0 : Int)) (a := (a : Int)) (b := (b : Int)) (by omega) (by omega) (by omega) (by omega) (by omega) (by omega)
            obtain ⟨v1, v2, v3⟩ := fst3_fit (k := (k0 : Int)) (a := (a : Int)) (by omega) (by omega) (by omega) (by omega)
            obtain ⟨w1, w2, w3⟩ := nm_ok (n := (b : Int)) (by omega) (by omega)
            have hs := hF.s
            have next := ih2 (b + 1) (by omega) (sel n goal best (cand (100 * k0 + 10 * a + b))) (hb.sel (by rw [cand_eq k0 a b (by omega) (by omega)]; exact hF))
            rw [rest3_cons (by omega), List.foldl_cons, show 100 * k0 + 10 * a + b + 1 = 100 * k0 + 10 * a + (b + 1) by omega]
            rw [cand_eq k0 a b (by omega) (by omega)] at next ⊢
            refine ev_succ (fun k => impl_GrowLeast.l2_eq k _ _ _ _ _ _ _ _ _) (ev_dt (by omega) (ev_bind (number_ev _) (ev_bind (power_ev _) (ev_bind (number_ev _) (ev_bind (times_ev _ _ (by omega) (by omega)) (ev_bind (number_ev _) (ev_bind (add_ev _ _ (by omega) (by omega) v1 w1 (by omega) (by omega)) ?_)))))))
            rw [w_succ (by omega)]
            generalize addO (fst3 (k0 : Int) (a : Int)) (nm (b : Int)) = c at *
            -- what growth tells
            have tell : better best c = true → Ev (fun k => (impl_grow.f k c n).bind fun r9 => br (!r9.1.isEmpty) (gate (decide (0 ≤ (wr ((r9.1.length : Int) - 1)) ∧ (wr ((r9.1.length : Int) - 1)) < (r9.1.length : Int))) <| br (decide ((r9.1.getD ((wr ((r9.1.length : Int) - 1)).toNat) 0) ≥ goal)) (impl_GrowLeast.l2 k n goal c true (k0 : Int) (a : Int) (k0 : Int) (a : Int) ((b + 1 : Nat) : Int)) (impl_GrowLeast.l2 k n goal (best.getD []) best.isSome (k0 : Int) (a : Int) (k0 : Int) (a : Int) ((b + 1 : Nat) : Int))) (impl_GrowLeast.l2 k n goal (best.getD []) best.isSome (k0 : Int) (a : Int) (k0 : Int) (a : Int) ((b + 1 : Nat) : Int))) (resL ((rest3 (100 * k0 + 10 * a + (b + 1))).foldl (sel n goal) (sel n goal best c))) := by
              intro hlt
              refine ev_bind (grow_ev c n hF hn1 hn2) ?_
              cases hr : GR 3000 c n with
              | none =>
                have hre : ¬ (better best c = true ∧ reach n goal c = true) := by unfold reach; rw [hr]; simp
                rw [sel_neg hre] at next ⊢
                exact ev_nf rfl next
              | some q =>
                obtain ⟨m, s⟩ := q
                have hre : reach n goal c = decide (m ≥ goal) := by unfold reach; rw [hr]
                have hbd := GR_bound _ _ _ hr (by omega)
                simp only at hbd
                obtain ⟨u1, u2⟩ := last_up n m (by omega)
                have hw : wr ((([n] ++ up n m).length : Int) - 1) = (((m - n).toNat : Nat) : Int) := by rw [u1, w64 (by omega) (by omega)]; omega
                refine ev_nt rfl (ev_gd (show 0 ≤ wr ((([n] ++ up n m).length : Int) - 1) ∧ wr ((([n] ++ up n m).length : Int) - 1) < (([n] ++ up n m).length : Int) by rw [hw, u1]; omega) ?_)
                have hval : ([n] ++ up n m).getD (wr ((([n] ++ up n m).length : Int) - 1)).toNat 0 = m := by rw [hw, u2 _ (by omega)]; omega
                by_cases hm : m ≥ goal
                · rw [sel_pos hlt (hre.trans (decide_eq_true hm))] at next ⊢
                  exact ev_dt (show ([n] ++ up n m).getD (wr ((([n] ++ up n m).length : Int) - 1)).toNat 0 ≥ goal by rw [hval]; exact hm) next
                · rw [sel_neg (fun h => hm (of_decide_eq_true (hre.symm.trans h.2)))] at next ⊢
                  exact ev_df (show ¬ ([n] ++ up n m).getD (wr ((([n] ++ up n m).length : Int) - 1)).toNat 0 ≥ goal by rw [hval]; exact hm) next
            cases best with
            | none => exact ev_bf rfl (tell rfl)
            | some y =>
              have hy := (hb y rfl).s
              refine ev_bt rfl (ev_bind (compare_ev c y (by omega) (by omega)) ?_)
              by_cases hc : cL c y ≥ 0
              · have e : sel n goal (some y) c = some y := sel_neg (fun h => absurd (of_decide_eq_true h.1) (by omega))
                rw [e] at next ⊢
                exact ev_dt hc next
              · exact ev_df hc (tell (decide_eq_true (by omega)))
        refine ev_succ (fun k => impl_GrowLeast.l1_eq k _ _ _ _ _ _ _) (ev_dt (by omega) ?_)
        exact l2 10 0 (by omega) best hb
    refine ev_succ (fun k => impl_GrowLeast.l0_eq k _ _ _ _ _) (ev_dt (by omega) ?_)
    exact l1 10 0 (by omega) best hb
def rowB (best : Option (List Term)) : List Int := match best with
  | some y => row y
  | none => []
theorem specL : ∀ d0 k0 : Nat, k0 + d0 = 3 → ∀ best : Option (List Term), GoodB best → 1 ≤ n → n ≤ 90 → 1 ≤ goal →
    Ev (fun k => spec_GrowLeast.l0 k n goal (rowB best) (k0 : Int)) (resL ((rest3 (100 * k0)).foldl (sel n goal) best)) := by
  intro d0
  induction d0 with
  | zero =>
    intro k0 hk best hb _ _ _
    obtain rfl : k0 = 3 := by omega
    rw [rest3_end]
    refine ev_succ (fun k => spec_GrowLeast.l0_eq k _ _ _ _) (ev_df (by omega) (ev_some.2 ?_))
    cases best with
    | none => rfl
    | some y =>
      have := size_pos y
      show (row y, decide (((row y).length : Int) > 0)) = (row y, true)
      rw [row_len, decide_eq_true (by omega)]
  | succ d0 ih0 =>
    intro k0 hk best hb hn1 hn2 hg1
    have l1 : ∀ d1 a : Nat, a + d1 = 10 → ∀ best : Option (List Term), GoodB best → Ev (fun k => spec_GrowLeast.l1 k n goal (rowB best) (k0 : Int) (a : Int)) (resL ((rest3 (100 * k0 + 10 * a)).foldl (sel n goal) best)) := by
      intro d1
      induction d1 with
      | zero =>
        intro a ha best hb
        obtain rfl : a = 10 := by omega
        refine ev_succ (fun k => spec_GrowLeast.l1_eq k _ _ _ _ _) (ev_df (by omega) ?_)
        rw [w_succ (by omega), show 100 * k0 + 10 * 10 = 100 * (k0 + 1) by omega]
        exact ih0 (k0 + 1) (by omega) best hb hn1 hn2 hg1
      | succ d1 ih1 =>
        intro a ha best hb
        have l2 : ∀ d2 b : Nat, b + d2 = 10 → ∀ best : Option (List Term), GoodB best → Ev (fun k => spec_GrowLeast.l2 k n goal (rowB best) (k0 : Int) (a : Int) (b : Int)) (resL ((rest3 (100 * k0 + 10 * a + b)).foldl (sel n goal) best)) := by
          intro d2
          induction d2 with
          | zero =>
            intro b hb' best hb
            obtain rfl : b = 10 := by omega
            refine ev_succ (fun k => spec_GrowLeast.l2_eq k _ _ _ _ _ _) (ev_df (by omega) ?_)
            rw [w_succ (by omega), show 100 * k0 + 10 * a + 10 = 100 * k0 + 10 * (a + 1) by omega]
            exact ih1 (a + 1) (by omega) best hb
          | succ d2 ih2 =>
            intro b hb' best hb
            have hF := sum_fit (k := (k0 : Int)) (a := (a : Int)) (b := (b : Int)) (by omega) (by omega) (by omega) (by omega) (by omega) (by omega)
            obtain ⟨v1, v2, v3⟩ := fst3_fit (k := (k0 : Int)) (a := (a : Int)) (by omega) (by omega) (by omega) (by omega)
            obtain ⟨w1, w2, w3⟩ := nm_ok (n := (b : Int)) (by omega) (by omega)
            have hs := hF.s
            have next := ih2 (b + 1) (by omega) (sel n goal best (cand (100 * k0 + 10 * a + b))) (hb.sel (by rw [cand_eq k0 a b (by omega) (by omega)]; exact hF))
            rw [rest3_cons (by omega), List.foldl_cons, show 100 * k0 + 10 * a + b + 1 = 100 * k0 + 10 * a + (b + 1) by omega]
            rw [cand_eq k0 a b (by omega) (by omega)] at next ⊢
            have hadd := sadd_ev _ _ (by omega) (by omega) v1 w1 (by omega) (by omega)
            -- behind the sum
            have j0 : Ev (fun k => spec_GrowLeast.j0 k n goal (rowB best) (k0 : Int) (a : Int) (b : Int) (row (fst3 (k0 : Int) (a : Int)))) (resL ((rest3 (100 * k0 + 10 * a + (b + 1))).foldl (sel n goal) (sel n goal best (addO (fst3 (k0 : Int) (a : Int)) (nm (b : Int)))))) := by
              refine ev_succ (fun k => spec_GrowLeast.j0_eq k _ _ _ _ _ _ _) (ev_bind (sOrdOf_ev (by omega) (by omega)) (ev_bind hadd ?_))
              rw [w_succ (by omega)]
              generalize addO (fst3 (k0 : Int) (a : Int)) (nm (b : Int)) = c at *
              refine ev_bind (specGrow_ev _ n) ?_
              have hgv : growV (row c) n = GR 3000 c n := by
                unfold growV
                rw [if_pos ⟨hF.ov, hn1, hn2⟩, tr_row hF]
              rw [hgv]
              have hreach : reach n goal c = decide ((two (GR 3000 c n)).1 ≥ goal) := by
                unfold reach
                cases GR 3000 c n with
                | none => exact (decide_eq_false (by show ¬ (-1 : Int) ≥ goal; omega)).symm
                | some q => rfl
              by_cases hm : (two (GR 3000 c n)).1 ≥ goal
              · refine ev_dt hm ?_
                rw [decide_eq_true hm] at hreach
                cases best with
                | none =>
                  rw [sel_pos (best := none) rfl hreach] at next ⊢
                  exact ev_dt rfl next
                | some y =>
                  have hy := (hb y rfl).s
                  have hyp := size_pos y
                  refine ev_df (by show ¬ ((row y).length : Int) = 0; rw [row_len]; omega) (ev_bind (scompare_ev c y (by omega) (by omega)) ?_)
                  by_cases hc : cL c y < 0
                  · rw [sel_pos (best := some y) (decide_eq_true hc) hreach] at next ⊢
                    exact ev_dt hc next
                  · rw [sel_neg (best := some y) (fun h => hc (of_decide_eq_true h.1))] at next ⊢
                    exact ev_df hc next
              · rw [decide_eq_false hm] at hreach
                rw [sel_neg (fun h => by rw [hreach] at h; cases h.2)] at next ⊢
                exact ev_df hm next
            refine ev_succ (fun k => spec_GrowLeast.l2_eq k _ _ _ _ _ _) (ev_dt (by omega) ?_)
            by_cases h0 : (a : Int) > 0
            · refine ev_dt h0 (ev_bind (sOrdOf_ev (by omega) (by omega)) (ev_gd ?_ ?_))
              · have := (nm_ok (n := (k0 : Int)) (by omega) (by omega)).2.2
                rw [row_len, limE]
                simp
                omega
              · have e : [1, (a : Int)] ++ row (nm (k0 : Int)) = row (fst3 (k0 : Int) (a : Int)) := by
                  unfold fst3
                  rw [if_neg (by omega)]
                  simp [row, fL_cons, fL_nil]
                rw [e]
                exact j0
            · refine ev_df h0 ?_
              have e : ([0] : List Int) = row (fst3 (k0 : Int) (a : Int)) := by
                unfold fst3
                rw [if_pos (by omega)]
                simp [row, fL_nil]
              rw [e]
              exact j0
        refine ev_succ (fun k => spec_GrowLeast.l1_eq k _ _ _ _ _) (ev_dt (by omega) ?_)
        exact l2 10 0 (by omega) best hb
    refine ev_succ (fun k => spec_GrowLeast.l0_eq k _ _ _ _) (ev_dt (by omega) ?_)
    exact l1 10 0 (by omega) best hb
end
def leastV (n goal : Int) : Option (List Term) := if 1 ≤ n ∧ n ≤ 90 ∧ 1 ≤ goal ∧ goal ≤ 90 then (rest3 0).foldl (sel n goal) none else none
theorem implLeast_ev (n goal : Int) : Ev (fun k => impl_GrowLeast.f k n goal) (resL (leastV n goal)) := by
  refine ev_succ (fun k => impl_GrowLeast.f_eq k _ _) ?_
  unfold leastV
  by_cases h1 : n < 1
  · exact ev_dt h1 (ev_some.2 (by rw [if_neg (by omega)]; rfl))
  refine ev_df h1 ?_
  by_cases h2 : n > 90
  · exact ev_dt h2 (ev_some.2 (by rw [if_neg (by omega)]; rfl))
  refine ev_df h2 ?_
  by_cases h3 : goal < 1
  · exact ev_dt h3 (ev_some.2 (by rw [if_neg (by omega)]; rfl))
  refine ev_df h3 ?_
  by_cases h4 : goal > 90
  · exact ev_dt h4 (ev_some.2 (by rw [if_neg (by omega)]; rfl))
  refine ev_df h4 ?_
  rw [if_pos (by omega)]
  exact implL n goal 3 0 (by omega) none (by intro y h; cases h) (by omega) (by omega) (by omega)
theorem specLeast_ev (n goal : Int) : Ev (fun k => spec_GrowLeast.f k n goal) (resL (leastV n goal)) := by
  refine ev_succ (fun k => spec_GrowLeast.f_eq k _ _) (ev_bind (l1In_ev _ _ _) ?_)
  unfold leastV
  by_cases h1 : 1 ≤ n ∧ n ≤ 90
  · refine ev_nf (by simp <;> omega) (ev_bind (l1In_ev _ _ _) ?_)
    by_cases h2 : 1 ≤ goal ∧ goal ≤ 90
    · rw [if_pos (by omega)]
      exact ev_nf (by simp <;> omega) (specL n goal 3 0 (by omega) none (by intro y h; cases h) (by omega) (by omega) (by omega))
    · rw [if_neg (by omega)]
      exact ev_nt (by simp <;> omega) (ev_some.2 rfl)
  · rw [if_neg (by omega)]
    exact ev_nt (by simp <;> omega) (ev_some.2 rfl)
/-- The least one of those that reach the goal. -/
theorem fold_least {n goal : Int} : ∀ (l : List (List Term)) (best : Option (List Term)), (∀ y, best = some y → reach n goal y = true) →
    (l.foldl (sel n goal) best = none → best = none ∧ ∀ c ∈ l, reach n goal c = false) ∧ ∀ y, l.foldl (sel n goal) best = some y → (best = some y ∨ y ∈ l) ∧ reach n goal y = true ∧ (∀ c ∈ l, reach n goal c = true → ¬ Lt c y) ∧ ∀ z, best = some z → ¬ Lt z y
  | [], best, hb => ⟨fun h => ⟨h, by intro c hc; cases hc⟩, fun y h => ⟨.inl h, hb y h, (by intro c hc; cases hc), fun z hz => by
      rw [List.foldl_nil] at h; rw [hz] at h; cases h; exact lt_irrefl _⟩⟩
  | c :: l, best, hb => by
    rw [List.foldl_cons]
    have hb' : ∀ y, sel n goal best c = some y → reach n goal y = true := by
      intro y hy
      unfold sel at hy
      split at hy
      · rename_i h; cases hy; exact h.2
      · exact hb y hy
    obtain ⟨i1, i2⟩ := fold_least l (sel n goal best c) hb'
    refine ⟨fun h => ?_, fun y h => ?_⟩
    · obtain ⟨h1, h2⟩ := i1 h
      unfold sel at h1
      split at h1
      · cases h1
      · rename_i hc
        subst h1
        refine ⟨rfl, fun d hd => ?_⟩
        rcases List.mem_cons.1 hd with hd | hd
        · rw [hd]
          cases hr : reach n goal c
          · rfl
          · exact absurd ⟨rfl, hr⟩ hc
        · exact h2 d hd
    · obtain ⟨k1, k2, k3, k4⟩ := i2 y h
      by_cases hc : better best c = true ∧ reach n goal c = true
      · have e : sel n goal best c = some c := by unfold sel; rw [if_pos hc]
        refine ⟨?_, k2, fun d hd hr => ?_, fun z hz => ?_⟩
        · rcases k1 with k1 | k1
          · rw [e] at k1; cases k1; exact .inr List.mem_cons_self
          · exact .inr (List.mem_cons_of_mem _ k1)
        · rcases List.mem_cons.1 hd with hd | hd
          · rw [hd]; exact k4 c e
          · exact k3 d hd hr
        · subst hz
          have h1 : Lt c z := by
            have := of_decide_eq_true hc.1
            have := c_range c z
            exact c_lt.1 (by omega)
          intro h2
          exact k4 c e (lt_trans _ _ _ h1 h2)
      · have e : sel n goal best c = best := by unfold sel; rw [if_neg hc]
        rw [e] at k1 k4
        refine ⟨k1.imp id (List.mem_cons_of_mem _), k2, fun d hd hr => ?_, k4⟩
        rcases List.mem_cons.1 hd with hd | hd
        · rw [hd] at hr ⊢
          cases best with
          | none => exact absurd ⟨rfl, hr⟩ hc
          | some z =>
            have h3 : ¬ cL c z < 0 := fun h => hc ⟨decide_eq_true h, hr⟩
            have h4 := k4 z rfl
            intro h5
            rcases c_cases c z with ⟨h, _⟩ | ⟨_, h⟩ | ⟨_, h⟩
            · omega
            · rw [h] at h5; exact h4 h5
            · exact h4 (lt_trans _ _ _ h h5)
        · exact k3 d hd hr
theorem cand_fit {i : Nat} (h : i < 300) : Fit (cand i) := by
  have := cand_eq (i / 100) (i / 10 % 10) (i % 10) (by omega) (by omega)
  rw [show 100 * (i / 100) + 10 * (i / 10 % 10) + i % 10 = i by omega] at this
  rw [this]
  exact sum_fit (by omega) (by omega) (by omega) (by omega) (by omega) (by omega)
theorem least_some {n goal : Int} {y : List Term} (h : leastV n goal = some y) : (1 ≤ n ∧ n ≤ 90 ∧ 1 ≤ goal ∧ goal ≤ 90) ∧ Fit y ∧ y ∈ rest3 0 ∧ reach n goal y = true ∧ ∀ c ∈ rest3 0, reach n goal c = true → ¬ Lt c y := by
  unfold leastV at h
  split at h
  · rename_i hc
    obtain ⟨k1, k2, k3, _⟩ := (fold_least (n := n) (goal := goal) (rest3 0) none (by intro y h; cases h)).2 y h
    rcases k1 with k1 | k1
    · cases k1
    · refine ⟨hc, ?_, k1, k2, k3⟩
      unfold rest3 at k1
      rw [List.drop_zero] at k1
      obtain ⟨i, hi, rfl⟩ := List.mem_map.1 k1
      exact cand_fit (List.mem_range.1 hi)
  · cases h
/-! Copies of rows of numbers, and rows held against each other. -/
theorem toIntS_l0 (l : List Int) (hl : l.length ≤ 1000000000) : ∀ d i : Nat, i + d = l.length → Ev (fun k => laws_toIntS.l0 k l (l.take i ++ List.replicate d 0) (i : Int)) l := by
  intro d
  induction d with
  | zero =>
    intro i hi
    refine ev_succ (fun k => laws_toIntS.l0_eq k _ _ _) (ev_df (by omega) (ev_some.2 ?_))
    rw [List.take_of_length_le (by omega)]; simp
  | succ d ih =>
    intro i hi
    have hlt : i < l.length := by omega
    have hlen : (l.take i ++ List.replicate (d + 1) (0 : Int)).length = l.length := by simp; omega
    refine ev_succ (fun k => laws_toIntS.l0_eq k _ _ _) (ev_dt (by omega) (ev_gd (by omega) (ev_gd (by rw [hlen]; omega) (ev_gd (by rw [hlen]; omega) ?_))))
    rw [get_nat hlt, w_succ (by omega), Int.toNat_natCast]
    have e : (l.take i ++ List.replicate (d + 1) (0 : Int)).set i l[i] = l.take (i + 1) ++ List.replicate d 0 := by
      rw [List.set_append_right _ _ (by simp; omega), List.length_take, Nat.min_eq_left (by omega), Nat.sub_self, List.replicate_succ, List.set_cons_zero, ← List.take_append_getElem hlt, List.append_assoc]
      rfl
    rw [e]
    exact ih (i + 1) (by omega)
theorem toIntS_ev (l : List Int) (hl : l.length ≤ 1000000000) : Ev (fun k => laws_toIntS.f k l) l := by
  refine ev_succ (fun k => laws_toIntS.f_eq k l) (ev_gd ⟨by omega, by rw [Int.toNat_natCast, limE]; omega, rfl⟩ ?_)
  have := toIntS_l0 l hl l.length 0 (by omega)
  rw [Int.toNat_natCast]
  simpa using this
theorem eqIntS_l0 (l : List Int) (hl : l.length < 9223372036854775807) : ∀ d i : Nat, i + d = l.length → Ev (fun k => laws_eqIntS.l0 k l l (i : Int)) true := by
  intro d
  induction d with
  | zero =>
    intro i hi
    exact ev_succ (fun k => laws_eqIntS.l0_eq k _ _ _) (ev_df (by omega) (ev_some.2 rfl))
  | succ d ih =>
    intro i hi
    refine ev_succ (fun k => laws_eqIntS.l0_eq k _ _ _) (ev_dt (by omega) (ev_gd (by omega) (ev_gd (by omega) (ev_nf (by simp) ?_))))
    rw [w_succ (by omega)]
    exact ih (i + 1) (by omega)
theorem eqIntS_self (l : List Int) (hl : l.length < 9223372036854775807) : Ev (fun k => laws_eqIntS.f k l l) true :=
  ev_succ (fun k => laws_eqIntS.f_eq k _ _) (ev_nf (by simp) (eqIntS_l0 l hl l.length 0 (by omega)))
/-! Rows written over with numbers that follow each other, and looked at again. -/
def marks (n : Nat) : List Int := (List.range n).map fun (i : Nat) => (1 : Int) + (i : Int)
theorem marks_len (n : Nat) : (marks n).length = n := by simp [marks]
theorem marks_at {n i : Nat} (h : i < n) : (marks n)[i]'(by rw [marks_len]; exact h) = 1 + (i : Int) := by simp [marks]
theorem marks_succ (n : Nat) : marks (n + 1) = marks n ++ [1 + (n : Int)] := by simp [marks, List.range_succ]
theorem mark_ev (l : List Int) (hl : l.length ≤ 1000000000) : Ev (fun k => laws_markIntS.f k l 1) (1 + (l.length : Int), marks l.length) := by
  have loop : ∀ d i : Nat, i + d = l.length → Ev (fun k => laws_markIntS.l0 k (marks i ++ l.drop i) (1 + (i : Int)) (i : Int)) (1 + (l.length : Int), marks l.length) := by
    intro d
    induction d with
    | zero =>
      intro i hi
      have hlen : (marks i ++ l.drop i).length = l.length := by rw [List.length_append, marks_len, List.length_drop]; omega
      refine ev_succ (fun k => laws_markIntS.l0_eq k _ _ _) (ev_df (by rw [hlen]; omega) (ev_some.2 ?_))
      rw [List.drop_eq_nil_of_le (by omega), List.append_nil, show i = l.length by omega]
    | succ d ih =>
      intro i hi
      have hlen : (marks i ++ l.drop i).length = l.length := by rw [List.length_append, marks_len, List.length_drop]; omega
      have hlt : i < l.length := by omega
      refine ev_succ (fun k => laws_markIntS.l0_eq k _ _ _) (ev_dt (by rw [hlen]; omega) (ev_gd (by rw [hlen]; omega) (ev_gd (by rw [hlen]; omega) ?_)))
      have e : (marks i ++ l.drop i).set (i : Int).toNat (1 + (i : Int)) = marks (i + 1) ++ l.drop (i + 1) := by
        rw [Int.toNat_natCast, List.set_append_right _ _ (by rw [marks_len]; omega), marks_len, Nat.sub_self, List.drop_eq_getElem_cons hlt, List.set_cons_zero, marks_succ, List.append_assoc]
        rfl
      rw [e, w_succ (by omega), w64 (by omega) (by omega)]
      have := ih (i + 1) (by omega)
      rw [show (1 : Int) + (i : Int) + 1 = 1 + ((i + 1 : Nat) : Int) by omega]
      exact this
  have := loop l.length 0 (by omega)
  refine ev_succ (fun k => laws_markIntS.f_eq k _ _) ?_
  simpa [marks] using this
theorem held_ev (n : Nat) (hn : n ≤ 1000000000) : Ev (fun k => laws_heldIntS.f k (marks n) 1) (1 + (n : Int)) := by
  have loop : ∀ d i : Nat, i + d = n → Ev (fun k => laws_heldIntS.l0 k (marks n) (1 + (i : Int)) (i : Int)) (1 + (n : Int)) := by
    intro d
    induction d with
    | zero =>
      intro i hi
      refine ev_succ (fun k => laws_heldIntS.l0_eq k _ _ _) (ev_df (by rw [marks_len]; omega) (ev_some.2 (by omega)))
    | succ d ih =>
      intro i hi
      have hlt : i < (marks n).length := by rw [marks_len]; omega
      refine ev_succ (fun k => laws_heldIntS.l0_eq k _ _ _) (ev_dt (by omega) (ev_gd (by omega) (ev_nf ?_ ?_)))
      · rw [get_nat hlt, marks_at (by omega)]; exact decide_eq_true rfl
      · rw [w_succ (by omega), w64 (by omega) (by omega), show (1 : Int) + (i : Int) + 1 = 1 + ((i + 1 : Nat) : Int) by omega]
        exact ih (i + 1) (by omega)
  have := loop n 0 (by omega)
  refine ev_succ (fun k => laws_heldIntS.f_eq k _ _) ?_
  simpa using this
theorem pure_FnExactGrowLeast (n goal : Int) (h2 : (Lit.int .i64 n).wf = true) (h3 : (Lit.int .i64 goal).wf = true) : ∃ k, laws_FnExactGrowLeast.f k n goal = some true := by
  refine ev_true (ev_succ (fun k => laws_FnExactGrowLeast.f_eq k n goal) ?_)
  have hlen : (resL (leastV n goal)).1.length ≤ 1000000 := by
    cases h : leastV n goal with
    | none => simp [resL]
    | some y =>
      have := (least_some h).2.1.s
      show (row y).length ≤ _
      rw [row_len]; omega
  have e := eqIntS_self (resL (leastV n goal)).1 (by omega)
  have m := mark_ev (resL (leastV n goal)).1 (by omega)
  have hh := held_ev (resL (leastV n goal)).1.length (by omega)
  exact ev_bind (specLeast_ev n goal) (ev_bind (implLeast_ev n goal) (ev_bind e (ev_nf rfl (ev_nf (by simp) (ev_bind m (ev_bind hh (ev_df (by omega) (ev_nf (by simp) (ev_bind (implLeast_ev n goal) (ev_bind e (ev_nf rfl (ev_nf (by simp) (ev_bind hh (ev_df (by omega) (ev_nf (by simp) (ev_some.2 rfl))))))))))))))))
end Go.Proofs.Ytmcppbdepkhlaaa.EPure
