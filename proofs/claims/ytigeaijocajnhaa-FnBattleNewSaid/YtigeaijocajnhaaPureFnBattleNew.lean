/-
  The pure statement of FnBattleNew.
-/
import Derived.Test.YtigeaijocajnhaaQFnBattleNew
import Derived.ProofKit
import Derived.IntWalk
namespace Go.Proofs.Ytigeaijocajnhaa.EPure
open Go Go.RowKit Go.Proofs.Ytigeaijocajnhaa.Eng
set_option linter.unusedVariables false
set_option linter.unusedSimpArgs false

/-! Rounds without counting them. -/
def Ev {α : Type} (g : Nat → Option α) (r : α) : Prop := ∃ K, ∀ k, K ≤ k → g k = some r
theorem ev_some {α : Type} {a r : α} : Ev (fun _ => some a) r ↔ a = r := by
  constructor
  · rintro ⟨K, h⟩
    exact Option.some.inj (h K (Nat.le_refl _))
  · rintro rfl
    exact ⟨0, fun _ _ => rfl⟩
theorem ev_bind {α β : Type} {g : Nat → Option α} {f : Nat → α → Option β} {a : α} (h : Ev g a) {r : β} (h2 : Ev (fun k => f k a) r) : Ev (fun k => (g k).bind (f k)) r := by
  obtain ⟨K, h⟩ := h
  obtain ⟨L, h2⟩ := h2
  exact ⟨max K L, fun k hk => by simp only [h k (by omega), Option.bind_some]; exact h2 k (by omega)⟩
theorem ev_succ {α : Type} {g f : Nat → Option α} {r : α} (h : ∀ k, g (k + 1) = f k) (e : Ev f r) : Ev g r := by
  obtain ⟨K, e⟩ := e
  refine ⟨K + 1, fun k hk => ?_⟩
  obtain ⟨j, rfl⟩ : ∃ j, k = j + 1 := ⟨k - 1, by omega⟩
  rw [h]
  exact e j (by omega)
theorem ev_true {g : Nat → Option Bool} (h : Ev g true) : ∃ k, g k = some true := by
  obtain ⟨K, h⟩ := h
  exact ⟨K, h K (Nat.le_refl _)⟩
theorem ev_gate {α : Type} {c : Bool} {g : Nat → Option α} {r : α} (hc : c = true) (e : Ev g r) : Ev (fun k => gate c (g k)) r := by
  subst hc
  exact e
theorem ev_gd {α : Type} {p : Prop} [Decidable p] {g : Nat → Option α} {r : α} (hp : p) (e : Ev g r) : Ev (fun k => gate (decide p) (g k)) r := ev_gate (decide_eq_true hp) e
theorem ev_bt {α : Type} {c : Bool} {g h : Nat → Option α} {r : α} (hc : c = true) (e : Ev g r) : Ev (fun k => br c (g k) (h k)) r := by
  subst hc
  exact e
theorem ev_bf {α : Type} {c : Bool} {g h : Nat → Option α} {r : α} (hc : c = false) (e : Ev h r) : Ev (fun k => br c (g k) (h k)) r := by
  subst hc
  exact e
theorem ev_dt {α : Type} {p : Prop} [Decidable p] {g h : Nat → Option α} {r : α} (hp : p) (e : Ev g r) : Ev (fun k => br (decide p) (g k) (h k)) r := ev_bt (decide_eq_true hp) e
theorem ev_df {α : Type} {p : Prop} [Decidable p] {g h : Nat → Option α} {r : α} (hp : ¬ p) (e : Ev h r) : Ev (fun k => br (decide p) (g k) (h k)) r := ev_bf (decide_eq_false hp) e
theorem ev_nt {α : Type} {c : Bool} {g h : Nat → Option α} {r : α} (hc : c = false) (e : Ev g r) : Ev (fun k => br (!c) (g k) (h k)) r := by
  subst hc
  exact e
theorem ev_nf {α : Type} {c : Bool} {g h : Nat → Option α} {r : α} (hc : c = true) (e : Ev h r) : Ev (fun k => br (!c) (g k) (h k)) r := by
  subst hc
  exact e
/-! What comes of some rounds, with a property. -/
def EvP {α : Type} (g : Nat → Option α) (Q : α → Prop) : Prop := ∃ r, Ev g r ∧ Q r
theorem Ev.p {α : Type} {g : Nat → Option α} {Q : α → Prop} {r : α} (h : Ev g r) (q : Q r) : EvP g Q := ⟨r, h, q⟩
theorem evp_some {α : Type} {Q : α → Prop} {r : α} (q : Q r) : EvP (fun _ => some r) Q := ⟨r, ev_some.2 rfl, q⟩
theorem evp_bind {α β : Type} {g : Nat → Option α} {f : Nat → α → Option β} {P : α → Prop} {Q : β → Prop} (h : EvP g P) (e : ∀ a, P a → EvP (fun k => f k a) Q) : EvP (fun k => (g k).bind (f k)) Q := by
  obtain ⟨a, h1, p⟩ := h
  obtain ⟨r, h2, q⟩ := e a p
  exact ⟨r, ev_bind h1 h2, q⟩
theorem evp_bindv {α β : Type} {g : Nat → Option α} {f : Nat → α → Option β} {a : α} {Q : β → Prop} (h : Ev g a) (e : EvP (fun k => f k a) Q) : EvP (fun k => (g k).bind (f k)) Q := by
  obtain ⟨r, h2, q⟩ := e
  exact ⟨r, ev_bind h h2, q⟩
theorem evp_succ {α : Type} {g f : Nat → Option α} {Q : α → Prop} (h : ∀ k, g (k + 1) = f k) (e : EvP f Q) : EvP g Q := by
  obtain ⟨r, h2, q⟩ := e
  exact ⟨r, ev_succ h h2, q⟩
theorem evp_mono {α : Type} {g : Nat → Option α} {P Q : α → Prop} (h : EvP g P) (hq : ∀ a, P a → Q a) : EvP g Q := by
  obtain ⟨r, h2, p⟩ := h
  exact ⟨r, h2, hq r p⟩
theorem evp_gd {α : Type} {p : Prop} [Decidable p] {g : Nat → Option α} {Q : α → Prop} (hp : p) (e : EvP g Q) : EvP (fun k => gate (decide p) (g k)) Q := by
  obtain ⟨r, h, q⟩ := e
  exact ⟨r, ev_gd hp h, q⟩
theorem evp_gn {α : Type} {p : Prop} [Decidable p] {g : Nat → Option α} {Q : α → Prop} (hp : ¬ p) (e : EvP g Q) : EvP (fun k => gate (!decide p) (g k)) Q := by
  obtain ⟨r, h, q⟩ := e
  exact ⟨r, ev_gate (by simp [hp]) h, q⟩
theorem evp_b {α : Type} {c : Bool} {g h : Nat → Option α} {Q : α → Prop} (e1 : c = true → EvP g Q) (e2 : c = false → EvP h Q) : EvP (fun k => br c (g k) (h k)) Q := by
  cases c with
  | true => exact e1 rfl
  | false => exact e2 rfl
theorem evp_d {α : Type} {p : Prop} [Decidable p] {g h : Nat → Option α} {Q : α → Prop} (e1 : p → EvP g Q) (e2 : ¬ p → EvP h Q) : EvP (fun k => br (decide p) (g k) (h k)) Q :=
  evp_b (fun h => e1 (of_decide_eq_true h)) (fun h => e2 (of_decide_eq_false h))
theorem evp_true {g : Nat → Option Bool} (h : EvP g (fun b => b = true)) : ∃ k, g k = some true := by
  obtain ⟨r, h, rfl⟩ := h
  exact ev_true h
theorem wr_eq (x : Int) : wr x = wrap64 x := by unfold wrap64; exact IntKind.wrap_i64 x
theorem w64 {x : Int} (h0 : -9223372036854775808 ≤ x) (h1 : x ≤ 9223372036854775807) : wr x = x := by
  rw [wr_eq]
  unfold wrap64
  omega
theorem w_succ {i : Nat} (h : i < 9223372036854775807) : wr ((i : Int) + 1) = ((i + 1 : Nat) : Int) := by rw [w64] <;> omega
theorem get_nat {l : List Int} {i : Nat} (h : i < l.length) : l.getD (i : Int).toNat 0 = l[i] := by
  rw [Int.toNat_natCast, List.getD_eq_getElem?_getD, List.getElem?_eq_getElem h]
  rfl
theorem limE : lim = 1099511627776 := rfl
/-! Draws. -/
def BOK (b : List Int) : Prop := b.length ≤ 2000 ∧ ∀ x ∈ b, 0 ≤ x ∧ x ≤ 255
theorem BOK.rd_ {b : List Int} (h : BOK b) (i : Nat) : 0 ≤ b.getD i 0 ∧ b.getD i 0 ≤ 255 := by
  rw [List.getD_eq_getElem?_getD]
  cases e : b[i]? with
  | none => simp
  | some x => exact h.2 x (List.mem_of_getElem? e)
theorem xor_pos {X Y : Int} (h0 : 0 ≤ X) (h1 : X < 9223372036854775808) (h2 : 0 ≤ Y) (h3 : Y < 9223372036854775808) : 0 ≤ wr ((BitVec.ofInt (IntKind.bits .i64) X) ^^^ (BitVec.ofInt (IntKind.bits .i64) Y)).toNat := by
  obtain ⟨a, rfl⟩ := Int.eq_ofNat_of_zero_le h0
  obtain ⟨b, rfl⟩ := Int.eq_ofNat_of_zero_le h2
  have hx : a ^^^ b < 2 ^ 63 := Nat.xor_lt_two_pow (by omega) (by omega)
  have h1 : a % 2 ^ IntKind.i64.bits = a := Nat.mod_eq_of_lt (by simp [IntKind.bits]; omega)
  have h2 : b % 2 ^ IntKind.i64.bits = b := Nat.mod_eq_of_lt (by simp [IntKind.bits]; omega)
  rw [wr_eq]
  simp only [BitVec.ofInt_natCast, BitVec.toNat_xor, BitVec.toNat_ofNat, h1, h2]
  unfold wrap64
  omega
def mixX (c1 c2 k q : Int) : Int := wr (wr (wr (wr (wr c1 * 131) + wr (wr c2 * 1117)) + wr (k * 29)) + wr (wr q * 53))
theorem mixX_pos {c1 c2 k q : Int} (h1 : 0 ≤ c1) (h2 : c1 ≤ 255) (h3 : 0 ≤ c2) (h4 : c2 ≤ 255) (h5 : 0 ≤ k) (h6 : k ≤ 1000000000000) (h7 : 0 ≤ q) (h8 : q ≤ 1000000000000) : 0 ≤ mixX c1 c2 k q ∧ mixX c1 c2 k q < 9223372036854775808 := by
  unfold mixX
  rw [w64 (x := c1) (by omega) (by omega), w64 (x := c2) (by omega) (by omega), w64 (x := q) (by omega) (by omega)]
  rw [w64 (x := c1 * 131) (by omega) (by omega), w64 (x := c2 * 1117) (by omega) (by omega), w64 (x := k * 29) (by omega) (by omega), w64 (x := q * 53) (by omega) (by omega)]
  rw [w64 (x := c1 * 131 + c2 * 1117) (by omega) (by omega), w64 (x := c1 * 131 + c2 * 1117 + k * 29) (by omega) (by omega), w64 (by omega) (by omega)]
  omega
theorem tmod_in {x n : Int} (hx : 0 ≤ x) (hn : 0 < n) : 0 ≤ Int.tmod x n ∧ Int.tmod x n < n := ⟨Int.tmod_nonneg _ hx, Int.tmod_lt_of_pos _ hn⟩
abbrev Rd := List Int × Int × Unit
/-- Behind some draws: the same row, and the place not far on. -/
def At (b : List Int) (p q : Int) (r : Rd) : Prop := r.1 = b ∧ p ≤ r.2.1 ∧ r.2.1 ≤ q
def Picked (b : List Int) (p n : Int) (x : Int × Rd) : Prop := x.2 = (b, p + 1, ()) ∧ 0 ≤ x.1 ∧ (x.1 < n ∨ x.1 = 0)
theorem pick_ev {b : List Int} (hb : BOK b) {p n : Int} (h0 : 0 ≤ p) (h1 : p ≤ 1000000000000) (hn : n < 9223372036854775807) : EvP (fun k => spec_l20Rd__pick.f k b p n) (Picked b p n) := by
  refine evp_succ (fun k => spec_l20Rd__pick.f_eq k b p n) ?_
  rw [w64 (x := p + 1) (by omega) (by omega), show p + 1 - 1 = p by omega, w64 (x := p) (by omega) (by omega)]
  refine evp_d (fun _ => evp_some ⟨rfl, by simp, .inr rfl⟩) (fun n1 => evp_d (fun _ => evp_some ⟨rfl, by simp, .inr rfl⟩) (fun hl => ?_))
  have hl2 := hb.1
  refine evp_d (fun hlt => ?_) (fun hge => ?_)
  · refine evp_gd ⟨h0, hlt⟩ (evp_gn (by omega) (evp_some ?_))
    have := hb.rd_ p.toNat
    rw [w64 (by omega) (by omega)]
    have t := tmod_in this.1 (show 0 < n by omega)
    exact ⟨rfl, t.1, .inl t.2⟩
  · have t1 := tmod_in h0 (show (0 : Int) < b.length by omega)
    have d1 : 0 ≤ Int.tdiv p b.length ∧ Int.tdiv p b.length ≤ p := by
      rw [Int.tdiv_eq_ediv_of_nonneg h0]
      exact ⟨Int.ediv_nonneg h0 (by omega), Int.ediv_le_self _ h0⟩
    have e3 : wr (wr (p * 7) + 3) = p * 7 + 3 := by rw [w64 (x := p * 7) (by omega) (by omega), w64 (by omega) (by omega)]
    rw [e3]
    have t2 := tmod_in (show 0 ≤ p * 7 + 3 by omega) (show (0 : Int) < b.length by omega)
    refine evp_gn hl (evp_gd t1 (evp_gn hl (evp_gd t2 (evp_gn hl (evp_gn (by omega) (evp_some ?_))))))
    have r1 := hb.rd_ (Int.tmod p b.length).toNat
    have r2 := hb.rd_ (Int.tmod (p * 7 + 3) b.length).toNat
    have hX := mixX_pos r1.1 r1.2 r2.1 r2.2 h0 h1 d1.1 (by omega)
    have hY : 0 ≤ wr (Int.tdiv (mixX (b.getD (Int.tmod p b.length).toNat 0) (b.getD (Int.tmod (p * 7 + 3) b.length).toNat 0) p (Int.tdiv p b.length)) 64) ∧ wr (Int.tdiv (mixX (b.getD (Int.tmod p b.length).toNat 0) (b.getD (Int.tmod (p * 7 + 3) b.length).toNat 0) p (Int.tdiv p b.length)) 64) < 9223372036854775808 := by
      rw [Int.tdiv_eq_ediv_of_nonneg hX.1, w64 (by omega) (by omega)]
      omega
    have t := tmod_in (xor_pos hX.1 hX.2 hY.1 hY.2) (show 0 < n by omega)
    exact ⟨rfl, t.1, .inl t.2⟩
theorem odd_ev {b : List Int} (hb : BOK b) {p n : Int} (h0 : 0 ≤ p) (h1 : p ≤ 1000000000000) (hn : n < 9223372036854775807) : EvP (fun k => spec_l20Rd__odd.f k b p n) (fun x => At b p (p + 1) x.2) := by
  refine evp_succ (fun k => spec_l20Rd__odd.f_eq k b p n) ?_
  refine evp_d (fun _ => ?_) (fun _ => evp_some ⟨rfl, by simp, by simp; omega⟩)
  refine evp_bind (pick_ev hb h0 h1 hn) (fun a ⟨ha, _⟩ => evp_some ⟨?_, ?_, ?_⟩) <;> simp [ha] <;> omega
theorem open_ev {b : List Int} (hb : ∀ x ∈ b, (Lit.int .u8 x).wf = true) (hl : b.length < 9223372036854775807) : EvP (fun k => spec_l20Open.f k b) (fun x => BOK x.1 ∧ x.2 = (0, ())) := by
  have hx : ∀ x ∈ b, 0 ≤ x ∧ x ≤ 255 := fun x hx => by
    have := hb x hx
    simp [Lit.wf, IntKind.min, IntKind.max, IntKind.signed, IntKind.bits] at this
    omega
  refine evp_succ (fun k => spec_l20Open.f_eq k b) ?_
  refine evp_d (fun h => evp_gd (by omega) (evp_some ⟨⟨?_, fun x hm => hx x (List.mem_of_mem_take hm)⟩, rfl⟩)) (fun h => evp_some ⟨⟨by show b.length ≤ 2000; omega, hx⟩, rfl⟩)
  show (b.take 2000).length ≤ 2000
  rw [List.length_take]
  omega
/-! Hydras read off rows. -/
def tk : Nat → Nat → List Int → Option (List Hydra × List Int)
  | _, 0, l => some ([], l)
  | 0, _ + 1, _ => none
  | _ + 1, _ + 1, [] => none
  | f + 1, n + 1, x :: l => if x < 0 ∨ x > 60 then none else match tk f x.toNat l with
    | none => none
    | some (hs, r) => match tk f n r with
      | none => none
      | some (gs, r') => some (Hydra.mk hs :: gs, r')
theorem tk_len : ∀ (f n : Nat) (l : List Int) {hs : List Hydra} {r : List Int}, tk f n l = some (hs, r) → r.length + n ≤ l.length ∧ r = l.drop (l.length - r.length) ∧ hs.length = n
  | f, 0, l, hs, r, h => by
    unfold tk at h
    simp only [Option.some.injEq, Prod.mk.injEq] at h
    obtain ⟨rfl, rfl⟩ := h
    simp
  | 0, n + 1, l, hs, r, h => by simp [tk] at h
  | f + 1, n + 1, [], hs, r, h => by simp [tk] at h
  | f + 1, n + 1, x :: l, hs, r, h => by
    simp only [tk] at h
    split at h
    · cases h
    · split at h
      · cases h
      · rename_i hs1 r1 h1
        split at h
        · cases h
        · rename_i gs r2 h2
          simp only [Option.some.injEq, Prod.mk.injEq] at h
          obtain ⟨rfl, rfl⟩ := h
          obtain ⟨a1, a2, a3⟩ := tk_len f _ l h1
          obtain ⟨b1, b2, b3⟩ := tk_len f _ r1 h2
          refine ⟨by simp <;> omega, ?_, by simp [b3]⟩
          rw [a2, List.drop_drop] at b2
          rw [List.length_drop] at b2
          have e : l.length - r1.length + (l.length - (l.length - r1.length) - r2.length) + 1 = (x :: l).length - r2.length := by simp <;> omega
          rw [← e, List.drop_succ_cons]
          exact b2
theorem tk_fuel : ∀ (f g n : Nat) (l : List Int), l.length ≤ f → l.length ≤ g → tk f n l = tk g n l
  | f, g, 0, l, _, _ => by simp [tk]
  | 0, 0, n + 1, l, _, _ => rfl
  | 0, g + 1, n + 1, l, h, _ => by
    obtain rfl : l = [] := List.eq_nil_of_length_eq_zero (by omega)
    simp [tk]
  | f + 1, 0, n + 1, l, _, h => by
    obtain rfl : l = [] := List.eq_nil_of_length_eq_zero (by omega)
    simp [tk]
  | f + 1, g + 1, n + 1, [], _, _ => by simp [tk]
  | f + 1, g + 1, n + 1, x :: l, hf, hg => by
    simp only [List.length_cons] at hf hg
    simp only [tk]
    split
    · rfl
    · rw [tk_fuel f g x.toNat l (by omega) (by omega)]
      cases h : tk g x.toNat l with
      | none => rfl
      | some p =>
        obtain ⟨hs, r⟩ := p
        have := (tk_len g _ l h).1
        simp only
        rw [tk_fuel f g n r (by omega) (by omega)]
def tko (acc : List Hydra) : Option (List Hydra × List Int) → List Hydra × List Int × Bool
  | some (hs, r) => (acc ++ hs, r, true)
  | none => ([], [], false)
/-- One hydra at the head of a row. -/
def tk1 (l : List Int) : Option (List Hydra × List Int) := match l with
  | [] => none
  | x :: l' => if x < 0 ∨ x > 60 then none else tk l'.length x.toNat l'
theorem tk_step {f n : Nat} {l : List Int} (hf : l.length ≤ f) : tk f (n + 1) l = match tk1 l with
    | none => none
    | some (hs, r) => match tk r.length n r with
      | none => none
      | some (gs, r') => some (Hydra.mk hs :: gs, r') := by
  cases l with
  | nil => cases f <;> simp [tk, tk1]
  | cons x l =>
    obtain ⟨f, rfl⟩ : ∃ g, f = g + 1 := ⟨f - 1, by simp at hf; omega⟩
    simp only [List.length_cons] at hf
    simp only [tk, tk1]
    split
    · rfl
    · rw [tk_fuel f l.length x.toNat l (by omega) (by omega)]
      cases h : tk l.length x.toNat l with
      | none => rfl
      | some p =>
        obtain ⟨hs, r⟩ := p
        have := (tk_len _ _ l h).1
        simp only
        rw [tk_fuel f r.length n r (by omega) (by omega)]
theorem take_ev : ∀ (N : Nat) (l : List Int), l.length ≤ N → Ev (fun k => impl_takeHydra.f k l) (tko [] (tk1 l)) := by
  intro N
  induction N with
  | zero =>
    intro l hl
    obtain rfl : l = [] := List.eq_nil_of_length_eq_zero (by omega)
    exact ev_succ (fun k => impl_takeHydra.f_eq k _) (ev_dt (by simp) (ev_some.2 rfl))
  | succ N ih =>
    have loop : ∀ (d i : Nat) (l : List Int) (acc : List Hydra), l.length ≤ N → i + d ≤ 60 → acc.length ≤ i → Ev (fun k => impl_takeHydra.l0 k l acc ((i + d : Nat) : Int) (i : Int)) (tko acc (tk l.length d l)) := by
      intro d
      induction d with
      | zero =>
        intro i l acc hl hi ha
        refine ev_succ (fun k => impl_takeHydra.l0_eq k _ _ _ _) (ev_df (by omega) (ev_some.2 ?_))
        simp [tk, tko]
      | succ d ihd =>
        intro i l acc hl hi ha
        refine ev_succ (fun k => impl_takeHydra.l0_eq k _ _ _ _) (ev_dt (by omega) (ev_bind (ih l hl) ?_))
        rw [tk_step (Nat.le_refl _)]
        cases h : tk1 l with
        | none => exact ev_nt rfl (ev_some.2 rfl)
        | some p =>
          obtain ⟨hs, r⟩ := p
          have hr : r.length < l.length := by
            cases l with
            | nil => simp [tk1] at h
            | cons x l =>
              simp only [tk1] at h
              split at h
              · cases h
              · have := (tk_len _ _ l h).1; simp; omega
          refine ev_nf rfl (ev_gd (by simp [limE]; omega) ?_)
          rw [w_succ (by omega)]
          have := ihd (i + 1) r (acc ++ [Hydra.mk hs]) (by omega) (by omega) (by simp <;> omega)
          rw [show i + 1 + d = i + (d + 1) by omega] at this
          simp only [tko, List.nil_append]
          revert this
          cases tk r.length d r with
          | none => exact id
          | some q => intro this; simpa [tko] using this
    intro l hl
    refine ev_succ (fun k => impl_takeHydra.f_eq k _) ?_
    cases l with
    | nil => exact ev_dt (by simp) (ev_some.2 rfl)
    | cons x l =>
      refine ev_df (by simp <;> omega) (ev_gd (by simp <;> omega) ?_)
      have hx : (x :: l).getD (0 : Int).toNat 0 = x := rfl
      rw [hx]
      by_cases h0 : x < 0
      · exact ev_dt h0 (ev_some.2 (by simp [tk1, h0, tko]))
      · refine ev_df h0 (ev_gd (by simp <;> omega) ?_)
        by_cases h1 : x > 60
        · exact ev_dt h1 (ev_some.2 (by simp [tk1, h1, tko]))
        · refine ev_df h1 (ev_gd (by simp <;> omega) (ev_gd (by simp <;> omega) ?_))
          have hl2 : ((x :: l).take ((x :: l).length : Int).toNat).drop (1 : Int).toNat = l := by
            rw [Int.toNat_natCast, List.take_length]
            rfl
          rw [hl2]
          have := loop x.toNat 0 l [] (by simp at hl; omega) (by omega) (by simp)
          have e : ((0 + x.toNat : Nat) : Int) = x := by omega
          rw [e] at this
          have e2 : tk1 (x :: l) = tk l.length x.toNat l := by simp only [tk1]; rw [if_neg (by omega)]
          rw [e2]
          exact this
/-- Where the hydra at a place ends. -/
def endO (n : Nat) : Option (List Hydra × List Int) → Int
  | some (_, r) => (n : Int) - r.length
  | none => -1
theorem l1In_ev (a b c : Int) : Ev (fun k => spec_l1In.f k a b c) (decide (a ≥ b) && decide (a ≤ c)) := by
  refine ev_succ (fun k => spec_l1In.f_eq k a b c) ?_
  by_cases h : a ≥ b
  · exact ev_dt h (ev_some.2 (by simp [h]))
  · exact ev_df h (ev_some.2 (by simp [h]))
theorem end_ev (h : List Int) (hh : h.length < 9000000000000000000) : ∀ (N p : Nat), h.length ≤ p + N → p ≤ h.length → Ev (fun k => spec_l5End.f k h (p : Int)) (endO h.length (tk1 (h.drop p))) := by
  intro N
  induction N with
  | zero =>
    intro p hN hp
    refine ev_succ (fun k => spec_l5End.f_eq k h _) (ev_dt (by omega) (ev_some.2 ?_))
    rw [List.drop_eq_nil_of_le (by omega)]
    rfl
  | succ N ih =>
    have loop : ∀ (d i p : Nat) (_ : h.length ≤ p + N) (_ : p ≤ h.length) (_ : i + d ≤ 60), Ev (fun k => spec_l5End.l0 k h (p : Int) ((i + d : Nat) : Int) (i : Int)) (endO h.length (tk (h.drop p).length d (h.drop p))) := by
      intro d
      induction d with
      | zero =>
        intro i p hN hp hi
        refine ev_succ (fun k => spec_l5End.l0_eq k _ _ _ _) (ev_df (by omega) (ev_some.2 ?_))
        simp only [tk, endO, List.length_drop]
        omega
      | succ d ihd =>
        intro i p hN hp hi
        refine ev_succ (fun k => spec_l5End.l0_eq k _ _ _ _) (ev_dt (by omega) (ev_dt (by omega) (ev_bind (ih p hN hp) ?_)))
        rw [tk_step (Nat.le_refl _), w_succ (by omega)]
        cases ht : tk1 (h.drop p) with
        | none =>
          simp only [endO]
          by_cases hd : ((i + 1 : Nat) : Int) < ((i + (d + 1) : Nat) : Int)
          · exact ev_succ (fun k => spec_l5End.l0_eq k _ _ _ _) (ev_dt hd (ev_df (by omega) (ev_some.2 rfl)))
          · exact ev_succ (fun k => spec_l5End.l0_eq k _ _ _ _) (ev_df hd (ev_some.2 rfl))
        | some q =>
          obtain ⟨hs, r⟩ := q
          have hr : r.length < (h.drop p).length ∧ r = (h.drop p).drop ((h.drop p).length - r.length) := by
            cases hl : h.drop p with
            | nil => rw [hl] at ht; simp [tk1] at ht
            | cons x l =>
              rw [hl] at ht
              simp only [tk1] at ht
              split at ht
              · cases ht
              · obtain ⟨a1, a2, _⟩ := tk_len _ _ l ht
                refine ⟨by simp <;> omega, ?_⟩
                have e : (x :: l).length - r.length = (l.length - r.length) + 1 := by simp <;> omega
                rw [e, List.drop_succ_cons]
                exact a2
          have hlen := hr.1
          rw [List.length_drop] at hlen
          have hr2 := hr.2
          rw [List.drop_drop, List.length_drop] at hr2
          have ep : p + (h.length - p - r.length) = h.length - r.length := by omega
          rw [ep] at hr2
          simp only [endO]
          have e1 : (h.length : Int) - (r.length : Int) = ((h.length - r.length : Nat) : Int) := by omega
          rw [e1]
          have := ihd (i + 1) (h.length - r.length) (by omega) (by omega) (by omega)
          rw [show i + 1 + d = i + (d + 1) by omega, ← hr2] at this
          revert this
          cases tk r.length d r with
          | none => exact id
          | some q => exact id
    intro p hN hp
    refine ev_succ (fun k => spec_l5End.f_eq k h _) ?_
    by_cases hlt : p < h.length
    · refine ev_df (by omega) (ev_gd (by omega) (ev_bind (l1In_ev _ _ _) ?_))
      rw [get_nat hlt, List.drop_eq_getElem_cons hlt]
      simp only [tk1]
      by_cases hx : h[p] < 0 ∨ h[p] > 60
      · rw [if_pos hx]
        refine ev_nt ?_ (ev_some.2 rfl)
        rcases hx with hx | hx
        · simp; omega
        · simp; omega
      · rw [if_neg hx]
        refine ev_nf (by simp <;> omega) (ev_gd (by omega) ?_)
        rw [w_succ (by omega)]
        have := loop h[p].toNat 0 (p + 1) (by omega) (by omega) (by omega)
        have e : ((0 + h[p].toNat : Nat) : Int) = h[p] := by omega
        rw [e] at this
        exact this
    · refine ev_dt (by omega) (ev_some.2 ?_)
      rw [List.drop_eq_nil_of_le (by omega)]
      rfl
theorem sameInts_l0 (l : List Int) (hl : l.length < 9223372036854775807) : ∀ d i : Nat, i + d = l.length → Ev (fun k => laws_sameInts.l0 k l l (i : Int)) true := by
  intro d
  induction d with
  | zero =>
    intro i hi
    exact ev_succ (fun k => laws_sameInts.l0_eq k _ _ _) (ev_df (by omega) (ev_some.2 rfl))
  | succ d ih =>
    intro i hi
    refine ev_succ (fun k => laws_sameInts.l0_eq k _ _ _) (ev_dt (by omega) (ev_gd (by omega) (ev_gd (by omega) (ev_nf (by simp) ?_))))
    rw [w_succ (by omega)]
    exact ih (i + 1) (by omega)
theorem sameInts_self (l : List Int) (hl : l.length < 9223372036854775807) : Ev (fun k => laws_sameInts.f k l l) true :=
  ev_succ (fun k => laws_sameInts.f_eq k _ _) (ev_nf (by simp) (sameInts_l0 l hl l.length 0 (by omega)))
theorem alive_at (j : Nat) : laws_alive.f (j + 12) = some true := by kernel_rfl
theorem alive_ev : Ev (fun k => laws_alive.f k) true := ⟨12, fun k hk => by
  obtain ⟨j, rfl⟩ : ∃ j, k = j + 12 := ⟨k - 12, by omega⟩
  exact alive_at j⟩
/-! Hydras drawn. -/
def TB : Nat → Nat
  | 0 => 1
  | d + 1 => 1 + 3 * TB d
theorem tree_l0 (ts : List (List Int)) (B : Nat) (hB : B ≤ 1000) (h3 : ts.length ≤ 3) (ht : ∀ t ∈ ts, t.length ≤ B) : ∀ (d i : Nat) (acc : List Int), i + d = ts.length → acc.length ≤ 1 + i * B → EvP (fun k => spec_l5Tree.l0 k ts acc (i : Int)) (fun r => r.length ≤ 1 + 3 * B) := by
  intro d
  induction d with
  | zero =>
    intro i acc hi ha
    refine evp_succ (fun k => spec_l5Tree.l0_eq k _ _ _) (evp_d (fun h => by omega) (fun _ => evp_some ?_))
    have : i * B ≤ 3 * B := Nat.mul_le_mul_right _ (by omega)
    omega
  | succ d ih =>
    intro i acc hi ha
    have hlt : i < ts.length := by omega
    refine evp_succ (fun k => spec_l5Tree.l0_eq k _ _ _) (evp_d (fun _ => ?_) (fun h => by omega))
    have hg : ts.getD (i : Int).toNat [] = ts[i] := by
      rw [Int.toNat_natCast, List.getD_eq_getElem?_getD, List.getElem?_eq_getElem hlt]; rfl
    have hb := ht ts[i] (List.getElem_mem hlt)
    have : i * B ≤ 3 * B := Nat.mul_le_mul_right _ (by omega)
    rw [hg, w_succ (by omega)]
    refine evp_gd (by omega) (evp_gd (by rw [limE]; omega) (ih (i + 1) _ (by omega) ?_))
    rw [List.length_append, Nat.add_mul]
    omega
theorem row_ev (ts : List (List Int)) (B : Nat) (hB : B ≤ 1000) (h3 : ts.length ≤ 3) (ht : ∀ t ∈ ts, t.length ≤ B) : EvP (fun k => spec_l5Tree.f k ts) (fun r => r.length ≤ 1 + 3 * B) :=
  evp_succ (fun k => spec_l5Tree.f_eq k _) (tree_l0 ts B hB h3 ht ts.length 0 _ (by omega) (by simp))
theorem tree_ev {b : List Int} (hb : BOK b) : ∀ (d : Nat), d ≤ 3 → ∀ p : Int, 0 ≤ p → p + 2000 * d ≤ 900000000000 → EvP (fun k => spec_l20Tree.f k b p (d : Int)) (fun x => x.1.length ≤ TB d ∧ At b p (p + TB d) x.2) := by
  intro d
  induction d with
  | zero =>
    intro _ p h0 h1
    refine evp_succ (fun k => spec_l20Tree.f_eq k _ _ _) (evp_bind (pick_ev hb h0 (by omega) (by omega)) (fun a ⟨ha, a1, a2⟩ => ?_))
    rw [ha]
    have hrow := row_ev [] 0 (by omega) (by simp) (by simp)
    refine evp_succ (fun k => spec_l20Tree.l0_eq k _ _ _ _ _) (evp_d (fun _ => evp_d (fun h => by omega) (fun _ => ?_)) (fun _ => ?_))
    · exact evp_bind hrow (fun r hr => evp_some ⟨by simpa [TB] using hr, rfl, by simp <;> omega, by simp [TB]⟩)
    · exact evp_bind hrow (fun r hr => evp_some ⟨by simpa [TB] using hr, rfl, by simp <;> omega, by simp [TB]⟩)
  | succ d ih =>
    intro hd p h0 h1
    have hT : TB d ≤ 13 := by
      have : d = 0 ∨ d = 1 ∨ d = 2 := by omega
      rcases this with rfl | rfl | rfl <;> decide
    have loop : ∀ (m : Nat) (acc : List (List Int)) (q : Int), acc.length + m ≤ 3 → (∀ t ∈ acc, t.length ≤ TB d) → 0 ≤ q → q + 13 * m ≤ p + 100 → EvP (fun k => spec_l20Tree.l0 k b q ((d + 1 : Nat) : Int) acc (m : Int)) (fun x => x.1.length ≤ TB (d + 1) ∧ At b q (q + m * TB d) x.2) := by
      intro m
      induction m with
      | zero =>
        intro acc q hl ha q0 q1
        refine evp_succ (fun k => spec_l20Tree.l0_eq k _ _ _ _ _) (evp_d (fun h => by omega) (fun _ => ?_))
        exact evp_bind (row_ev acc (TB d) (by omega) (by omega) ha) (fun r hr => evp_some ⟨by simpa [TB] using hr, rfl, by simp, by simp⟩)
      | succ m ihm =>
        intro acc q hl ha q0 q1
        refine evp_succ (fun k => spec_l20Tree.l0_eq k _ _ _ _ _) (evp_d (fun _ => evp_d (fun _ => ?_) (fun h => by omega)) (fun h => by omega))
        rw [show wr (((d + 1 : Nat) : Int) - 1) = (d : Int) by rw [w64 (by omega) (by omega)]; omega, show wr (((m + 1 : Nat) : Int) - 1) = (m : Int) by rw [w64 (by omega) (by omega)]; omega]
        refine evp_bind (ih (by omega) q q0 (by omega)) (fun a ⟨a1, a2, a3, a4⟩ => ?_)
        obtain ⟨r, b', q', u⟩ := a
        simp only at a1 a2 a3 a4
        subst a2
        dsimp only
        refine evp_gd (by simp [limE]; omega) (evp_mono (ihm (acc ++ [r]) q' (by simp <;> omega) (fun t ht => ?_) (by omega) (by omega)) (fun x ⟨x1, x2, x3, x4⟩ => ⟨x1, x2, by omega, ?_⟩))
        · rcases List.mem_append.1 ht with ht | ht
          · exact ha t ht
          · simp at ht; subst ht; exact a1
        · have : ((m + 1 : Nat) : Int) * (TB d : Int) = (m : Int) * TB d + TB d := by rw [Int.natCast_add, Int.add_mul]; simp
          omega
    refine evp_succ (fun k => spec_l20Tree.f_eq k _ _ _) (evp_bind (pick_ev hb h0 (by omega) (by omega)) (fun a ⟨ha, a1, a2⟩ => ?_))
    rw [ha]
    have := loop a.1.toNat [] (p + 1) (by simp <;> omega) (by simp) (by omega) (by omega)
    rw [show ((a.1.toNat : Nat) : Int) = a.1 by omega] at this
    refine evp_mono this (fun x ⟨x1, x2, x3, x4⟩ => ⟨x1, x2, by omega, ?_⟩)
    have : a.1 * (TB d : Int) ≤ 3 * (TB d : Int) := Int.mul_le_mul_of_nonneg_right (by omega) (by omega)
    simp only [TB]
    omega
theorem hydra_j0 {b : List Int} (hb : BOK b) {p : Int} (h0 : 0 ≤ p) (h1 : p ≤ 900000000000) {x : List Int} (hx : x.length ≤ 60) : EvP (fun k => spec_l20Hydra.j0 k b p 6 x) (fun x => x.1.length ≤ 61 ∧ At b p (p + 2) x.2) := by
  refine evp_succ (fun k => spec_l20Hydra.j0_eq k _ _ _ _) (evp_bind (odd_ev hb h0 (by omega) (by omega)) (fun a ⟨a1, a2, a3⟩ => ?_))
  obtain ⟨c, b', q, u⟩ := a
  simp only at a1 a2 a3
  subst a1
  dsimp only
  refine evp_b (fun _ => evp_bind (pick_ev hb (by omega) (by omega) (by omega)) (fun e ⟨e1, e2, e3⟩ => ?_)) (fun _ => evp_some ⟨by simp <;> omega, rfl, by simp <;> omega, by simp <;> omega⟩)
  rw [e1]
  refine evp_d (fun _ => evp_some ⟨by simp, rfl, by simp <;> omega, by simp <;> omega⟩) (fun _ => evp_d (fun _ => evp_gd (by simp [limE]; omega) (evp_gd (by simp [limE]; omega) (evp_some ⟨by simp <;> omega, rfl, by simp <;> omega, by simp <;> omega⟩))) (fun _ => evp_d (fun _ => ?_) (fun _ => ?_)))
  · exact evp_some ⟨by simp, rfl, by simp <;> omega, by simp <;> omega⟩
  · exact evp_some ⟨by simp, rfl, by simp <;> omega, by simp <;> omega⟩
theorem hydra_l0 {b : List Int} (hb : BOK b) : ∀ (d i : Nat) (p : Int) (x : List Int), i + d = 5 → 0 ≤ p → p ≤ 800000000000 + 100 * i → x.length ≤ 40 → EvP (fun k => spec_l20Hydra.l0 k b p 6 x (i : Int)) (fun x => x.1.length ≤ 61 ∧ At b p (p + 50 * d + 2) x.2) := by
  intro d
  induction d with
  | zero =>
    intro i p x hi h0 h1 hx
    refine evp_succ (fun k => spec_l20Hydra.l0_eq k _ _ _ _ _) (evp_d (fun h => by omega) (fun _ => evp_d (fun h => by omega) (fun _ => ?_)))
    exact evp_mono (hydra_j0 hb h0 (by omega) (by omega)) (fun x ⟨a, b, c, d⟩ => ⟨a, b, c, by omega⟩)
  | succ d ih =>
    intro i p x hi h0 h1 hx
    have again : EvP (fun k => (spec_l20Rd__pick.f k b p 3).bind fun r2 => (spec_l20Tree.f k r2.2.1 r2.2.2.1 (wr (1 + r2.1))).bind fun r3 => spec_l20Hydra.l0 k r3.2.1 r3.2.2.1 6 r3.1 (wr ((i : Int) + 1))) (fun x => x.1.length ≤ 61 ∧ At b p (p + 50 * ((d + 1 : Nat) : Int) + 2) x.2) := by
      refine evp_bind (pick_ev hb h0 (by omega) (by omega)) (fun a ⟨ha, a1, a2⟩ => ?_)
      rw [ha, w_succ (by omega), w64 (by omega) (by omega)]
      have ht := tree_ev hb (1 + a.1).toNat (by omega) (p + 1) (by omega) (by omega)
      have hT : TB (1 + a.1).toNat ≤ 40 := by
        have : (1 + a.1).toNat = 1 ∨ (1 + a.1).toNat = 2 ∨ (1 + a.1).toNat = 3 := by omega
        rcases this with h | h | h <;> rw [h] <;> decide
      rw [show (((1 + a.1).toNat : Nat) : Int) = 1 + a.1 by omega] at ht
      refine evp_bind ht (fun c ⟨c1, c2, c3, c4⟩ => ?_)
      obtain ⟨r, b', q, u⟩ := c
      simp only at c1 c2 c3 c4
      subst c2
      dsimp only
      refine evp_mono (ih (i + 1) q r (by omega) (by omega) (by omega) (by omega)) (fun x ⟨x1, x2, x3, x4⟩ => ⟨x1, x2, by omega, by omega⟩)
    refine evp_succ (fun k => spec_l20Hydra.l0_eq k _ _ _ _ _) (evp_d (fun _ => evp_d (fun _ => again) (fun _ => evp_d (fun _ => again) (fun _ => evp_d (fun h => by omega) (fun _ => ?_)))) (fun h => by omega))
    exact evp_mono (hydra_j0 hb h0 (by omega) (by omega)) (fun x ⟨a, b, c, d⟩ => ⟨a, b, c, by omega⟩)
theorem hydra_ev {b : List Int} (hb : BOK b) : EvP (fun k => spec_l20Hydra.f k b 0 6) (fun x => x.1.length ≤ 61 ∧ At b 0 1000 x.2) := by
  refine evp_succ (fun k => spec_l20Hydra.f_eq k _ _ _) (evp_bind (tree_ev hb 3 (by omega) 0 (by omega) (by omega)) (fun a ⟨a1, a2, a3, a4⟩ => ?_))
  obtain ⟨r, b', q, u⟩ := a
  simp only at a1 a2 a3 a4
  subst a2
  dsimp only
  have : TB 3 = 40 := by decide
  exact evp_mono (hydra_l0 hb 5 0 q r (by omega) (by omega) (by omega) (by omega)) (fun x ⟨x1, x2, x3, x4⟩ => ⟨x1, x2, by omega, by omega⟩)
/-! The law. -/
def HV (h : List Int) : Bool := decide (1 ≤ h.length ∧ h.length ≤ 60) && match tk1 h with
  | some (_, r) => r.isEmpty
  | none => false
theorem valid_ev (h : List Int) (hh : h.length ≤ 100) : Ev (fun k => spec_HydraValid.f k h) (HV h) := by
  refine ev_succ (fun k => spec_HydraValid.f_eq k h) (ev_bind (l1In_ev _ _ _) ?_)
  by_cases hl : 1 ≤ h.length ∧ h.length ≤ 60
  · refine ev_bt (by simp <;> omega) (ev_bind (end_ev h (by omega) h.length 0 (by omega) (by omega)) (ev_some.2 ?_))
    unfold HV
    rw [decide_eq_true hl, Bool.true_and, List.drop_zero]
    cases h1 : tk1 h with
    | none => simp only [endO]; exact decide_eq_false (by omega)
    | some p =>
      obtain ⟨hs, r⟩ := p
      simp only [endO]
      cases r with
      | nil => simp
      | cons x r => exact decide_eq_false (by simp only [List.length_cons]; omega)
  · refine ev_bf ?_ (ev_some.2 ?_)
    · simp <;> omega
    · unfold HV; rw [decide_eq_false hl, Bool.false_and]
theorem hydraOf_ev (h : List Int) (hh : h.length ≤ 100) : EvP (fun k => impl_hydraOf.f k h) (fun x => x.2 = HV h) := by
  refine evp_succ (fun k => impl_hydraOf.f_eq k h) (evp_d (fun hl => evp_some ?_) (fun h1 => evp_d (fun hl => evp_some ?_) (fun h2 => evp_bindv (take_ev h.length h (Nat.le_refl _)) ?_)))
  · unfold HV; rw [decide_eq_false (by omega), Bool.false_and]
  · unfold HV; rw [decide_eq_false (by omega), Bool.false_and]
  · have hd : decide (1 ≤ h.length ∧ h.length ≤ 60) = true := decide_eq_true ⟨by omega, by omega⟩
    unfold HV
    rw [hd, Bool.true_and]
    cases ht : tk1 h with
    | none => exact evp_some rfl
    | some p =>
      obtain ⟨hs, r⟩ := p
      refine evp_some ?_
      cases r with
      | nil => rfl
      | cons x r => exact decide_eq_false (by show ¬ (((x :: r).length : Nat) : Int) = 0; simp; omega)
theorem implValid_ev (h : List Int) (hh : h.length ≤ 100) : Ev (fun k => impl_HydraValid.f k h) (HV h) := by
  obtain ⟨x, h1, h2⟩ := hydraOf_ev h hh
  exact ev_succ (fun k => impl_HydraValid.f_eq k h) (ev_bind h1 (ev_some.2 h2))
def noB : Battle := ⟨[], 0, [], []⟩
def bat (h : List Int) (c : Int) : Battle := if HV h = true ∧ 1 ≤ c ∧ c ≤ 9 then ⟨h, c, [], h⟩ else noB
theorem implNew_ev (h : List Int) (c : Int) (hh : h.length ≤ 100) : Ev (fun k => impl_BattleNew.f k h c) (bat h c) := by
  refine ev_succ (fun k => impl_BattleNew.f_eq k h c) (ev_bind (implValid_ev h hh) ?_)
  cases hv : HV h with
  | false => exact ev_nt rfl (ev_some.2 (by simp [bat, hv, noB]))
  | true =>
    refine ev_nf rfl ?_
    by_cases h1 : c < 1
    · exact ev_dt h1 (ev_some.2 (by unfold bat; rw [if_neg (by omega)]; rfl))
    · refine ev_df h1 ?_
      by_cases h2 : c > 9
      · exact ev_dt h2 (ev_some.2 (by unfold bat; rw [if_neg (by omega)]; rfl))
      · have cl : Ev (fun k => slices_Clone_int_int.f k h) h := by
          have : (fun k => slices_Clone_int_int.f k h) = fun k => gate (decide (0 + h.length < lim)) (some h) := funext fun k => slices_Clone_int_int.f_eq k h
          rw [this]
          exact ev_gd (by rw [limE]; omega) (ev_some.2 rfl)
        refine ev_df h2 (ev_bind cl (ev_bind cl (ev_some.2 ?_)))
        unfold bat
        rw [if_pos ⟨hv, by omega, by omega⟩]
theorem specNew_ev (h : List Int) (c : Int) (hh : h.length ≤ 100) : Ev (fun k => spec_BattleNew.f k h c) (bat h c) := by
  refine ev_succ (fun k => spec_BattleNew.f_eq k h c) (ev_bind (valid_ev h hh) ?_)
  cases hv : HV h with
  | false => exact ev_nt rfl (ev_some.2 (by simp [bat, hv, noB]))
  | true =>
    refine ev_nf rfl (ev_bind (l1In_ev _ _ _) ?_)
    by_cases h1 : 1 ≤ c ∧ c ≤ 9
    · refine ev_nf (by simp <;> omega) (ev_gd (by simp [limE]; omega) (ev_gd (by simp [limE]; omega) (ev_some.2 ?_)))
      unfold bat
      rw [if_pos ⟨hv, h1⟩]
      rfl
    · refine ev_nt (by simp <;> omega) (ev_some.2 ?_)
      unfold bat
      rw [if_neg (fun h => h1 h.2)]
      rfl
theorem sameB_self (x : Battle) (h0 : x.f0.length ≤ 100) (h2 : x.f2.length ≤ 100) (h3 : x.f3.length ≤ 100) : Ev (fun k => laws_sameBattle.f k x x) true :=
  ev_succ (fun k => laws_sameBattle.f_eq k _ _) (ev_bind (sameInts_self _ (by omega)) (ev_bt rfl (ev_dt rfl (ev_bind (sameInts_self _ (by omega)) (ev_bt rfl (ev_bind (sameInts_self _ (by omega)) (ev_some.2 rfl)))))))
theorem none_ev : Ev (fun k => laws_FnBattleNew.j0 k noB) true :=
  ev_succ (fun k => laws_FnBattleNew.j0_eq k _) (ev_bind (ev_succ (fun k => laws_noBattle.f_eq k _) (ev_bind (sameB_self noB (by simp [noB]) (by simp [noB]) (by simp [noB])) (ev_some.2 rfl))) (ev_bt rfl (ev_bind alive_ev (ev_some.2 rfl))))
theorem equal_l0 (l : List Int) (hl : l.length < 9223372036854775807) : ∀ d i : Nat, i + d = l.length → Ev (fun k => slices_Equal_int_int.l0 k l l (l.length : Int) (i : Int)) true := by
  intro d
  induction d with
  | zero =>
    intro i hi
    exact ev_succ (fun k => slices_Equal_int_int.l0_eq k _ _ _ _) (ev_df (by omega) (ev_some.2 rfl))
  | succ d ih =>
    intro i hi
    refine ev_succ (fun k => slices_Equal_int_int.l0_eq k _ _ _ _) (ev_dt (by omega) (ev_gd (by omega) (ev_gd (by omega) (ev_nf (by simp) ?_))))
    rw [w_succ (by omega)]
    exact ih (i + 1) (by omega)
theorem equal_self (l : List Int) (hl : l.length < 9223372036854775807) : Ev (fun k => slices_Equal_int_int.f k l l) true :=
  ev_succ (fun k => slices_Equal_int_int.f_eq k _ _) (ev_nf (by simp) (equal_l0 l hl l.length 0 (by omega)))
theorem bvalid_ev (h : List Int) (c : Int) (hh : h.length ≤ 100) (hv : HV h = true) (h1 : 1 ≤ c) (h2 : c ≤ 9) : Ev (fun k => impl_BattleValid.f k ⟨h, c, [], h⟩) true := by
  have cl : Ev (fun k => slices_Clone_int_int.f k h) h := by
    have : (fun k => slices_Clone_int_int.f k h) = fun k => gate (decide (0 + h.length < lim)) (some h) := funext fun k => slices_Clone_int_int.f_eq k h
    rw [this]
    exact ev_gd (by rw [limE]; omega) (ev_some.2 rfl)
  have hr : Ev (fun k => impl_HydraRun.f k h [] c) (h, true) := by
    refine ev_succ (fun k => impl_HydraRun.f_eq k _ _ _) (ev_bind (implValid_ev h hh) (ev_nf hv (ev_df (by simp) (ev_df (by omega) (ev_df (by omega) (ev_bind cl ?_))))))
    exact ev_succ (fun k => impl_HydraRun.l0_eq k _ _ _ _ _) (ev_df (by simp) (ev_some.2 rfl))
  exact ev_succ (fun k => impl_BattleValid.f_eq k _) (ev_bind hr (ev_bt rfl (ev_bind (equal_self h (by omega)) (ev_some.2 rfl))))
theorem pure_FnBattleNew (l : List Int) (h1 : l.length ≤ maxLen) (h3 : ∀ x ∈ l, (Lit.int .u8 x).wf = true) : ∃ k, laws_FnBattleNew.f k l = some true := by
  refine evp_true (evp_succ (fun k => laws_FnBattleNew.f_eq k l) (evp_d (fun _ => evp_some rfl) (fun hl => ?_)))
  have draw : EvP (fun k => spec_DrawBattleNew.f k l) (fun x => x.1.length ≤ 100) := by
    refine evp_succ (fun k => spec_DrawBattleNew.f_eq k l) (evp_bind (open_ev h3 (by omega)) (fun a ⟨hb, ha⟩ => ?_))
    rw [ha]
    refine evp_bind (hydra_ev hb) (fun c ⟨c1, c2, c3, c4⟩ => ?_)
    obtain ⟨r, b', q, u⟩ := c
    simp only at c1 c2 c3 c4
    subst c2
    dsimp only
    refine evp_bind (pick_ev hb (by omega) (by omega) (by omega)) (fun e ⟨e1, e2, e3⟩ => ?_)
    rw [e1]
    refine evp_bind (pick_ev hb (by simp <;> omega) (by simp <;> omega) (by omega)) (fun g ⟨g1, g2, g3⟩ => evp_some ?_)
    simp <;> omega
  refine evp_bind draw (fun a ha => ?_)
  obtain ⟨h, c⟩ := a
  simp only at ha
  have hB : (bat h c).f0.length ≤ 100 ∧ (bat h c).f2.length ≤ 100 ∧ (bat h c).f3.length ≤ 100 := by
    unfold bat
    split
    · exact ⟨ha, by simp, ha⟩
    · simp [noB]
  refine Ev.p ?_ rfl
  refine ev_bind (implNew_ev h c ha) (ev_bind (specNew_ev h c ha) (ev_bind (sameB_self _ hB.1 hB.2.1 hB.2.2) (ev_nf rfl (ev_bind (valid_ev h ha) ?_))))
  cases hv : HV h with
  | false =>
    have e : bat h c = noB := by simp [bat, hv]
    rw [e]
    exact ev_nt rfl none_ev
  | true =>
    refine ev_nf rfl ?_
    by_cases c1 : c < 1
    · have e : bat h c = noB := by unfold bat; rw [if_neg (by omega)]
      rw [e]
      exact ev_dt c1 none_ev
    · refine ev_df c1 ?_
      by_cases c2 : c > 9
      · have e : bat h c = noB := by unfold bat; rw [if_neg (by omega)]
        rw [e]
        exact ev_dt c2 none_ev
      · have e : bat h c = ⟨h, c, [], h⟩ := by unfold bat; rw [if_pos ⟨hv, by omega, by omega⟩]
        rw [e]
        refine ev_df c2 (ev_bind (bvalid_ev h c ha hv (by omega) (by omega)) (ev_bt rfl (ev_bind (sameInts_self h (by omega)) (ev_bt rfl (ev_dt rfl (ev_some.2 ?_))))))
        simp
end Go.Proofs.Ytigeaijocajnhaa.EPure
