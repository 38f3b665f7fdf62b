/-
  The pure statement of FnExactBattleRun.
-/
import Derived.Test.YtigeaijocajnhaaQE
import Derived.ProofKit
import Derived.IntWalk
namespace Go.Proofs.Ytigeaijocajnhaa.EPure
open Go Go.RowKit Go.Proofs.Ytigeaijocajnhaa.Eng
set_option linter.unusedVariables false
set_option linter.unusedSimpArgs false

/-! Rounds without counting them. -/
def Ev {α : Type} (g : Nat → Option α) (r : α) : Prop := ∃ K, ∀ k, K ≤ k → g k = some r
theorem ev_some {α : Type} {a r : α} : Ev (fun _ => some a) r ↔ a = r := by
  constructor
  · rintro ⟨K, h⟩
    exact Option.some.inj (h K (Nat.le_refl _))
  · rintro rfl
    exact ⟨0, fun _ _ => rfl⟩
theorem ev_bind {α β : Type} {g : Nat → Option α} {f : Nat → α → Option β} {a : α} (h : Ev g a) {r : β} (h2 : Ev (fun k => f k a) r) : Ev (fun k => (g k).bind (f k)) r := by
  obtain ⟨K, h⟩ := h
  obtain ⟨L, h2⟩ := h2
  exact ⟨max K L, fun k hk => by simp only [h k (by omega), Option.bind_some]; exact h2 k (by omega)⟩
theorem ev_succ {α : Type} {g f : Nat → Option α} {r : α} (h : ∀ k, g (k + 1) = f k) (e : Ev f r) : Ev g r := by
  obtain ⟨K, e⟩ := e
  refine ⟨K + 1, fun k hk => ?_⟩
  obtain ⟨j, rfl⟩ : ∃ j, k = j + 1 := ⟨k - 1, by omega⟩
  rw [h]
  exact e j (by omega)
theorem ev_true {g : Nat → Option Bool} (h : Ev g true) : ∃ k, g k = some true := by
  obtain ⟨K, h⟩ := h
  exact ⟨K, h K (Nat.le_refl _)⟩
theorem ev_gate {α : Type} {c : Bool} {g : Nat → Option α} {r : α} (hc : c = true) (e : Ev g r) : Ev (fun k => gate c (g k)) r := by
  subst hc
  exact e
theorem ev_gd {α : Type} {p : Prop} [Decidable p] {g : Nat → Option α} {r : α} (hp : p) (e : Ev g r) : Ev (fun k => gate (decide p) (g k)) r := ev_gate (decide_eq_true hp) e
theorem ev_bt {α : Type} {c : Bool} {g h : Nat → Option α} {r : α} (hc : c = true) (e : Ev g r) : Ev (fun k => br c (g k) (h k)) r := by
  subst hc
  exact e
theorem ev_bf {α : Type} {c : Bool} {g h : Nat → Option α} {r : α} (hc : c = false) (e : Ev h r) : Ev (fun k => br c (g k) (h k)) r := by
  subst hc
  exact e
theorem ev_dt {α : Type} {p : Prop} [Decidable p] {g h : Nat → Option α} {r : α} (hp : p) (e : Ev g r) : Ev (fun k => br (decide p) (g k) (h k)) r := ev_bt (decide_eq_true hp) e
theorem ev_df {α : Type} {p : Prop} [Decidable p] {g h : Nat → Option α} {r : α} (hp : ¬ p) (e : Ev h r) : Ev (fun k => br (decide p) (g k) (h k)) r := ev_bf (decide_eq_false hp) e
theorem ev_nt {α : Type} {c : Bool} {g h : Nat → Option α} {r : α} (hc : c = false) (e : Ev g r) : Ev (fun k => br (!c) (g k) (h k)) r := by
  subst hc
  exact e
theorem ev_nf {α : Type} {c : Bool} {g h : Nat → Option α} {r : α} (hc : c = true) (e : Ev h r) : Ev (fun k => br (!c) (g k) (h k)) r := by
  subst hc
  exact e
/-! What comes of some rounds, with a property. -/
def EvP {α : Type} (g : Nat → Option α) (Q : α → Prop) : Prop := ∃ r, Ev g r ∧ Q r
theorem Ev.p {α : Type} {g : Nat → Option α} {Q : α → Prop} {r : α} (h : Ev g r) (q : Q r) : EvP g Q := ⟨r, h, q⟩
theorem evp_some {α : Type} {Q : α → Prop} {r : α} (q : Q r) : EvP (fun _ => some r) Q := ⟨r, ev_some.2 rfl, q⟩
theorem evp_bind {α β : Type} {g : Nat → Option α} {f : Nat → α → Option β} {P : α → Prop} {Q : β → Prop} (h : EvP g P) (e : ∀ a, P a → EvP (fun k => f k a) Q) : EvP (fun k => (g k).bind (f k)) Q := by
  obtain ⟨a, h1, p⟩ := h
  obtain ⟨r, h2, q⟩ := e a p
  exact ⟨r, ev_bind h1 h2, q⟩
theorem evp_bindv {α β : Type} {g : Nat → Option α} {f : Nat → α → Option β} {a : α} {Q : β → Prop} (h : Ev g a) (e : EvP (fun k => f k a) Q) : EvP (fun k => (g k).bind (f k)) Q := by
  obtain ⟨r, h2, q⟩ := e
  exact ⟨r, ev_bind h h2, q⟩
theorem evp_succ {α : Type} {g f : Nat → Option α} {Q : α → Prop} (h : ∀ k, g (k + 1) = f k) (e : EvP f Q) : EvP g Q := by
  obtain ⟨r, h2, q⟩ := e
  exact ⟨r, ev_succ h h2, q⟩
theorem evp_mono {α : Type} {g : Nat → Option α} {P Q : α → Prop} (h : EvP g P) (hq : ∀ a, P a → Q a) : EvP g Q := by
  obtain ⟨r, h2, p⟩ := h
  exact ⟨r, h2, hq r p⟩
theorem evp_gd {α : Type} {p : Prop} [Decidable p] {g : Nat → Option α} {Q : α → Prop} (hp : p) (e : EvP g Q) : EvP (fun k => gate (decide p) (g k)) Q := by
  obtain ⟨r, h, q⟩ := e
  exact ⟨r, ev_gd hp h, q⟩
theorem evp_gn {α : Type} {p : Prop} [Decidable p] {g : Nat → Option α} {Q : α → Prop} (hp : ¬ p) (e : EvP g Q) : EvP (fun k => gate (!decide p) (g k)) Q := by
  obtain ⟨r, h, q⟩ := e
  exact ⟨r, ev_gate (by simp [hp]) h, q⟩
theorem evp_b {α : Type} {c : Bool} {g h : Nat → Option α} {Q : α → Prop} (e1 : c = true → EvP g Q) (e2 : c = false → EvP h Q) : EvP (fun k => br c (g k) (h k)) Q := by
  cases c with
  | true => exact e1 rfl
  | false => exact e2 rfl
theorem evp_d {α : Type} {p : Prop} [Decidable p] {g h : Nat → Option α} {Q : α → Prop} (e1 : p → EvP g Q) (e2 : ¬ p → EvP h Q) : EvP (fun k => br (decide p) (g k) (h k)) Q :=
  evp_b (fun h => e1 (of_decide_eq_true h)) (fun h => e2 (of_decide_eq_false h))
theorem evp_true {g : Nat → Option Bool} (h : EvP g (fun b => b = true)) : ∃ k, g k = some true := by
  obtain ⟨r, h, rfl⟩ := h
  exact ev_true h
theorem wr_eq (x : Int) : wr x = wrap64 x := by unfold wrap64; exact IntKind.wrap_i64 x
theorem w64 {x : Int} (h0 : -9223372036854775808 ≤ x) (h1 : x ≤ 9223372036854775807) : wr x = x := by
  rw [wr_eq]
  unfold wrap64
  omega
theorem w_succ {i : Nat} (h : i < 9223372036854775807) : wr ((i : Int) + 1) = ((i + 1 : Nat) : Int) := by rw [w64] <;> omega
theorem get_nat {l : List Int} {i : Nat} (h : i < l.length) : l.getD (i : Int).toNat 0 = l[i] := by
  rw [Int.toNat_natCast, List.getD_eq_getElem?_getD, List.getElem?_eq_getElem h]
  rfl
theorem limE : lim = 1099511627776 := rfl
theorem ev_const {α : Type} {x : Option α} {r : α} (h : x = some r) : Ev (fun _ => x) r := ⟨0, fun _ _ => h⟩
theorem l1In_ev (a b c : Int) : Ev (fun k => spec_l1In.f k a b c) (decide (a ≥ b) && decide (a ≤ c)) := by
  refine ev_succ (fun k => spec_l1In.f_eq k a b c) ?_
  by_cases h : a ≥ b
  · exact ev_dt h (ev_some.2 (by simp [h]))
  · exact ev_df h (ev_some.2 (by simp [h]))
/-! Hydras read off rows. -/
def tk : Nat → Nat → List Int → Option (List Hydra × List Int)
  | _, 0, l => some ([], l)
  | 0, _ + 1, _ => none
  | _ + 1, _ + 1, [] => none
  | f + 1, n + 1, x :: l => if x < 0 ∨ x > 60 then none else match tk f x.toNat l with
    | none => none
    | some (hs, r) => match tk f n r with
      | none => none
      | some (gs, r') => some (Hydra.mk hs :: gs, r')
theorem tk_len : ∀ (f n : Nat) (l : List Int) {hs : List Hydra} {r : List Int}, tk f n l = some (hs, r) → r.length + n ≤ l.length ∧ r = l.drop (l.length - r.length) ∧ hs.length = n
  | f, 0, l, hs, r, h => by
    unfold tk at h
    simp only [Option.some.injEq, Prod.mk.injEq] at h
    obtain ⟨rfl, rfl⟩ := h
    simp
  | 0, n + 1, l, hs, r, h => by simp [tk] at h
  | f + 1, n + 1, [], hs, r, h => by simp [tk] at h
  | f + 1, n + 1, x :: l, hs, r, h => by
    simp only [tk] at h
    split at h
    · cases h
    · split at h
      · cases h
      · rename_i hs1 r1 h1
        split at h
        · cases h
        · rename_i gs r2 h2
          simp only [Option.some.injEq, Prod.mk.injEq] at h
          obtain ⟨rfl, rfl⟩ := h
          obtain ⟨a1, a2, a3⟩ := tk_len f _ l h1
          obtain ⟨b1, b2, b3⟩ := tk_len f _ r1 h2
          refine ⟨by simp <;> omega, ?_, by simp [b3]⟩
          rw [a2, List.drop_drop] at b2
          rw [List.length_drop] at b2
          have e : l.length - r1.length + (l.length - (l.length - r1.length) - r2.length) + 1 = (x :: l).length - r2.length := by simp <;> omega
          rw [← e, List.drop_succ_cons]
          exact b2
theorem tk_fuel : ∀ (f g n : Nat) (l : List Int), l.length ≤ f → l.length ≤ g → tk f n l = tk g n l
  | f, g, 0, l, _, _ => by simp [tk]
  | 0, 0, n + 1, l, _, _ => rfl
  | 0, g + 1, n + 1, l, h, _ => by
    obtain rfl : l = [] := List.eq_nil_of_length_eq_zero (by omega)
    simp [tk]
  | f + 1, 0, n + 1, l, _, h => by
    obtain rfl : l = [] := List.eq_nil_of_length_eq_zero (by omega)
    simp [tk]
  | f + 1, g + 1, n + 1, [], _, _ => by simp [tk]
  | f + 1, g + 1, n + 1, x :: l, hf, hg => by
    simp only [List.length_cons] at hf hg
    simp only [tk]
    split
    · rfl
    · rw [tk_fuel f g x.toNat l (by omega) (by omega)]
      cases h : tk g x.toNat l with
      | none => rfl
      | some p =>
        obtain ⟨hs, r⟩ := p
        have := (tk_len g _ l h).1
        simp only
        rw [tk_fuel f g n r (by omega) (by omega)]
def tko (acc : List Hydra) : Option (List Hydra × List Int) → List Hydra × List Int × Bool
  | some (hs, r) => (acc ++ hs, r, true)
  | none => ([], [], false)
/-- One hydra at the head of a row. -/
def tk1 (l : List Int) : Option (List Hydra × List Int) := match l with
  | [] => none
  | x :: l' => if x < 0 ∨ x > 60 then none else tk l'.length x.toNat l'
theorem tk_step {f n : Nat} {l : List Int} (hf : l.length ≤ f) : tk f (n + 1) l = match tk1 l with
    | none => none
    | some (hs, r) => match tk r.length n r with
      | none => none
      | some (gs, r') => some (Hydra.mk hs :: gs, r') := by
  cases l with
  | nil => cases f <;> simp [tk, tk1]
  | cons x l =>
    obtain ⟨f, rfl⟩ : ∃ g, f = g + 1 := ⟨f - 1, by simp at hf; omega⟩
    simp only [List.length_cons] at hf
    simp only [tk, tk1]
    split
    · rfl
    · rw [tk_fuel f l.length x.toNat l (by omega) (by omega)]
      cases h : tk l.length x.toNat l with
      | none => rfl
      | some p =>
        obtain ⟨hs, r⟩ := p
        have := (tk_len _ _ l h).1
        simp only
        rw [tk_fuel f r.length n r (by omega) (by omega)]
theorem htake_ev : ∀ (N : Nat) (l : List Int), l.length ≤ N → Ev (fun k => impl_takeHydra.f k l) (tko [] (tk1 l)) := by
  intro N
  induction N with
  | zero =>
    intro l hl
    obtain rfl : l = [] := List.eq_nil_of_length_eq_zero (by omega)
    exact ev_succ (fun k => impl_takeHydra.f_eq k _) (ev_dt (by simp) (ev_some.2 rfl))
  | succ N ih =>
    have loop : ∀ (d i : Nat) (l : List Int) (acc : List Hydra), l.length ≤ N → i + d ≤ 60 → acc.length ≤ i → Ev (fun k => impl_takeHydra.l0 k l acc ((i + d : Nat) : Int) (i : Int)) (tko acc (tk l.length d l)) := by
      intro d
      induction d with
      | zero =>
        intro i l acc hl hi ha
        refine ev_succ (fun k => impl_takeHydra.l0_eq k _ _ _ _) (ev_df (by omega) (ev_some.2 ?_))
        simp [tk, tko]
      | succ d ihd =>
        intro i l acc hl hi ha
        refine ev_succ (fun k => impl_takeHydra.l0_eq k _ _ _ _) (ev_dt (by omega) (ev_bind (ih l hl) ?_))
        rw [tk_step (Nat.le_refl _)]
        cases h : tk1 l with
        | none => exact ev_nt rfl (ev_some.2 rfl)
        | some p =>
          obtain ⟨hs, r⟩ := p
          have hr : r.length < l.length := by
            cases l with
            | nil => simp [tk1] at h
            | cons x l =>
              simp only [tk1] at h
              split at h
              · cases h
              · have := (tk_len _ _ l h).1; simp; omega
          refine ev_nf rfl (ev_gd (by simp [limE]; omega) ?_)
          rw [w_succ (by omega)]
          have := ihd (i + 1) r (acc ++ [Hydra.mk hs]) (by omega) (by omega) (by simp <;> omega)
          rw [show i + 1 + d = i + (d + 1) by omega] at this
          simp only [tko, List.nil_append]
          revert this
          cases tk r.length d r with
          | none => exact id
          | some q => intro this; simpa [tko] using this
    intro l hl
    refine ev_succ (fun k => impl_takeHydra.f_eq k _) ?_
    cases l with
    | nil => exact ev_dt (by simp) (ev_some.2 rfl)
    | cons x l =>
      refine ev_df (by simp <;> omega) (ev_gd (by simp <;> omega) ?_)
      have hx : (x :: l).getD (0 : Int).toNat 0 = x := rfl
      rw [hx]
      by_cases h0 : x < 0
      · exact ev_dt h0 (ev_some.2 (by simp [tk1, h0, tko]))
      · refine ev_df h0 (ev_gd (by simp <;> omega) ?_)
        by_cases h1 : x > 60
        · exact ev_dt h1 (ev_some.2 (by simp [tk1, h1, tko]))
        · refine ev_df h1 (ev_gd (by simp <;> omega) (ev_gd (by simp <;> omega) ?_))
          have hl2 : ((x :: l).take ((x :: l).length : Int).toNat).drop (1 : Int).toNat = l := by
            rw [Int.toNat_natCast, List.take_length]
            rfl
          rw [hl2]
          have := loop x.toNat 0 l [] (by simp at hl; omega) (by omega) (by simp)
          have e : ((0 + x.toNat : Nat) : Int) = x := by omega
          rw [e] at this
          have e2 : tk1 (x :: l) = tk l.length x.toNat l := by simp only [tk1]; rw [if_neg (by omega)]
          rw [e2]
          exact this
/-- Where the hydra at a place ends. -/
def endO (n : Nat) : Option (List Hydra × List Int) → Int
  | some (_, r) => (n : Int) - r.length
  | none => -1
theorem hend_ev (h : List Int) (hh : h.length < 9000000000000000000) : ∀ (N p : Nat), h.length ≤ p + N → p ≤ h.length → Ev (fun k => spec_l5End.f k h (p : Int)) (endO h.length (tk1 (h.drop p))) := by
  intro N
  induction N with
  | zero =>
    intro p hN hp
    refine ev_succ (fun k => spec_l5End.f_eq k h _) (ev_dt (by omega) (ev_some.2 ?_))
    rw [List.drop_eq_nil_of_le (by omega)]
    rfl
  | succ N ih =>
    have loop : ∀ (d i p : Nat) (_ : h.length ≤ p + N) (_ : p ≤ h.length) (_ : i + d ≤ 60), Ev (fun k => spec_l5End.l0 k h (p : Int) ((i + d : Nat) : Int) (i : Int)) (endO h.length (tk (h.drop p).length d (h.drop p))) := by
      intro d
      induction d with
      | zero =>
        intro i p hN hp hi
        refine ev_succ (fun k => spec_l5End.l0_eq k _ _ _ _) (ev_df (by omega) (ev_some.2 ?_))
        simp only [tk, endO, List.length_drop]
        omega
      | succ d ihd =>
        intro i p hN hp hi
        refine ev_succ (fun k => spec_l5End.l0_eq k _ _ _ _) (ev_dt (by omega) (ev_dt (by omega) (ev_bind (ih p hN hp) ?_)))
        rw [tk_step (Nat.le_refl _), w_succ (by omega)]
        cases ht : tk1 (h.drop p) with
        | none =>
          simp only [endO]
          by_cases hd : ((i + 1 : Nat) : Int) < ((i + (d + 1) : Nat) : Int)
          · exact ev_succ (fun k => spec_l5End.l0_eq k _ _ _ _) (ev_dt hd (ev_df (by omega) (ev_some.2 rfl)))
          · exact ev_succ (fun k => spec_l5End.l0_eq k _ _ _ _) (ev_df hd (ev_some.2 rfl))
        | some q =>
          obtain ⟨hs, r⟩ := q
          have hr : r.length < (h.drop p).length ∧ r = (h.drop p).drop ((h.drop p).length - r.length) := by
            cases hl : h.drop p with
            | nil => rw [hl] at ht; simp [tk1] at ht
            | cons x l =>
              rw [hl] at ht
              simp only [tk1] at ht
              split at ht
              · cases ht
              · obtain ⟨a1, a2, _⟩ := tk_len _ _ l ht
                refine ⟨by simp <;> omega, ?_⟩
                have e : (x :: l).length - r.length = (l.length - r.length) + 1 := by simp <;> omega
                rw [e, List.drop_succ_cons]
                exact a2
          have hlen := hr.1
          rw [List.length_drop] at hlen
          have hr2 := hr.2
          rw [List.drop_drop, List.length_drop] at hr2
          have ep : p + (h.length - p - r.length) = h.length - r.length := by omega
          rw [ep] at hr2
          simp only [endO]
          have e1 : (h.length : Int) - (r.length : Int) = ((h.length - r.length : Nat) : Int) := by omega
          rw [e1]
          have := ihd (i + 1) (h.length - r.length) (by omega) (by omega) (by omega)
          rw [show i + 1 + d = i + (d + 1) by omega, ← hr2] at this
          revert this
          cases tk r.length d r with
          | none => exact id
          | some q => exact id
    intro p hN hp
    refine ev_succ (fun k => spec_l5End.f_eq k h _) ?_
    by_cases hlt : p < h.length
    · refine ev_df (by omega) (ev_gd (by omega) (ev_bind (l1In_ev _ _ _) ?_))
      rw [get_nat hlt, List.drop_eq_getElem_cons hlt]
      simp only [tk1]
      by_cases hx : h[p] < 0 ∨ h[p] > 60
      · rw [if_pos hx]
        refine ev_nt ?_ (ev_some.2 rfl)
        rcases hx with hx | hx
        · simp; omega
        · simp; omega
      · rw [if_neg hx]
        refine ev_nf (by simp <;> omega) (ev_gd (by omega) ?_)
        rw [w_succ (by omega)]
        have := loop h[p].toNat 0 (p + 1) (by omega) (by omega) (by omega)
        have e : ((0 + h[p].toNat : Nat) : Int) = h[p] := by omega
        rw [e] at this
        exact this
    · refine ev_dt (by omega) (ev_some.2 ?_)
      rw [List.drop_eq_nil_of_le (by omega)]
      rfl
/-! Hydras, their rows, heads and cuts. -/
mutual
def hR : Hydra → List Int
  | .mk l => (l.length : Int) :: hF l
def hF : List Hydra → List Int
  | [] => []
  | b :: x => hR b ++ hF x
end
theorem hF_nil : hF [] = [] := by rw [hF]
theorem hF_cons (b : Hydra) (x : List Hydra) : hF (b :: x) = hR b ++ hF x := by rw [hF]
def hrow (x : List Hydra) : List Int := (x.length : Int) :: hF x
theorem hR_eq (b : Hydra) : hR b = hrow b.f0 := by cases b; rw [hR]; rfl
theorem hF_app (x y : List Hydra) : hF (x ++ y) = hF x ++ hF y := by
  induction x with
  | nil => rw [hF_nil]; rfl
  | cons b x ih => rw [List.cons_append, hF_cons, hF_cons, ih, List.append_assoc]
def hsize (x : List Hydra) : Nat := (hrow x).length
theorem hsize_eq (x : List Hydra) : hsize x = 1 + (hF x).length := by simp [hsize, hrow, Nat.add_comm]
theorem hsize_nil : hsize [] = 1 := by rw [hsize_eq, hF_nil]; rfl
theorem hsize_cons (b : Hydra) (x : List Hydra) : hsize (b :: x) = hsize b.f0 + hsize x := by
  rw [hsize_eq, hF_cons, hR_eq, List.length_append, hsize_eq x]
  show 1 + (hsize b.f0 + (hF x).length) = _
  omega
theorem hsize_pos (x : List Hydra) : 1 ≤ hsize x := by rw [hsize_eq]; omega
theorem hsize_app (x y : List Hydra) : hsize (x ++ y) + 1 = hsize x + hsize y := by
  simp only [hsize_eq, hF_app, List.length_append]; omega
theorem hsize_len (x : List Hydra) : 1 + x.length ≤ hsize x := by
  induction x with
  | nil => rw [hsize_nil]; simp
  | cons b x ih => rw [hsize_cons]; have := hsize_pos b.f0; simp; omega
theorem hsize_mem {x : List Hydra} {b : Hydra} (h : b ∈ x) : hsize b.f0 + 1 ≤ hsize x := by
  induction x with
  | nil => cases h
  | cons c x ih =>
    rw [hsize_cons]
    rcases List.mem_cons.1 h with h | h
    · rw [h]; have := hsize_pos x; omega
    · have := ih h; omega
theorem hyd_ind {P : List Hydra → Prop} (h0 : P []) (h1 : ∀ b x, P b.f0 → P x → P (b :: x)) : ∀ x, P x
  | [] => h0
  | .mk l :: x => h1 (.mk l) x (hyd_ind h0 h1 l) (hyd_ind h0 h1 x)
termination_by x => SizeOf.sizeOf x
theorem hyd_mem {P : List Hydra → Prop} (h : ∀ x, (∀ b ∈ x, P b.f0) → P x) (x : List Hydra) : P x := by
  have : (∀ b ∈ x, P b.f0) ∧ P x := by
    refine hyd_ind (P := fun x => (∀ b ∈ x, P b.f0) ∧ P x) ⟨(by intro t ht; cases ht), h _ (by intro t ht; cases ht)⟩ ?_ x
    intro b x h1 h2
    have : ∀ s ∈ b :: x, P s.f0 := by
      intro s hs
      rcases List.mem_cons.1 hs with e | e
      · rw [e]; exact h1.2
      · exact h2.1 s e
    exact ⟨this, h _ this⟩
  exact this.2
/-! Rows tell hydras. -/
theorem tk_sound : ∀ (f n : Nat) (l : List Int) {x : List Hydra} {r : List Int}, tk f n l = some (x, r) → l = hF x ++ r ∧ x.length = n
  | f, 0, l, x, r, h => by
    unfold tk at h
    simp only [Option.some.injEq, Prod.mk.injEq] at h
    obtain ⟨rfl, rfl⟩ := h
    exact ⟨by rw [hF_nil]; rfl, rfl⟩
  | 0, n + 1, l, x, r, h => by simp [tk] at h
  | f + 1, n + 1, [], x, r, h => by simp [tk] at h
  | f + 1, n + 1, m :: l, x, r, h => by
    simp only [tk] at h
    split at h
    · cases h
    · rename_i hm
      split at h
      · cases h
      · rename_i hs r1 h1
        split at h
        · cases h
        · rename_i gs r2 h2
          simp only [Option.some.injEq, Prod.mk.injEq] at h
          obtain ⟨rfl, rfl⟩ := h
          obtain ⟨a1, a2⟩ := tk_sound f _ l h1
          obtain ⟨b1, b2⟩ := tk_sound f _ r1 h2
          refine ⟨?_, by simp [b2]⟩
          rw [hF_cons, hR_eq]
          show m :: l = (((hs.length : Nat) : Int) :: hF hs) ++ hF gs ++ r2
          rw [a1, b1]
          simp
          omega
theorem tk_complete : ∀ (f : Nat) (x : List Hydra) (r : List Int), hsize x ≤ 61 → (hF x).length ≤ f → tk f x.length (hF x ++ r) = some (x, r)
  | f, [], r, _, _ => by simp [hF_nil, tk]
  | 0, b :: x, r, _, h => by
    rw [hF_cons, hR_eq, List.length_append] at h
    have := hsize_pos b.f0
    have e : (hrow b.f0).length = hsize b.f0 := rfl
    omega
  | f + 1, .mk l :: x, r, hs, h => by
    rw [hsize_cons] at hs
    have hb : (Hydra.mk l).f0 = l := rfl
    rw [hb] at hs
    have hz := hsize_pos x
    have hz2 := hsize_len l
    have hz3 := hsize_eq l
    have hz4 := hsize_eq x
    rw [hF_cons, hR_eq, hb, List.length_append] at h
    have e : (hrow l).length = hsize l := rfl
    rw [hF_cons, hR_eq, hb]
    simp only [hrow, List.cons_append, List.length_cons, List.append_assoc]
    rw [tk, if_neg (by omega), Int.toNat_natCast, tk_complete f l (hF x ++ r) (by omega) (by omega)]
    simp only []
    rw [tk_complete f x r (by omega) (by omega)]
theorem tk1_sound {l : List Int} {x : List Hydra} {r : List Int} (h : tk1 l = some (x, r)) : l = hrow x ++ r := by
  cases l with
  | nil => simp [tk1] at h
  | cons m l =>
    simp only [tk1] at h
    split at h
    · cases h
    · obtain ⟨a1, a2⟩ := tk_sound _ _ l h
      rw [a1, hrow, a2, List.cons_append]
      congr 1
      omega
theorem tk1_complete {x : List Hydra} (r : List Int) (hs : hsize x ≤ 61) : tk1 (hrow x ++ r) = some (x, r) := by
  have := hsize_len x
  simp only [hrow, List.cons_append, tk1]
  rw [if_neg (by omega), Int.toNat_natCast]
  exact tk_complete _ x r hs (by simp)
/-- A valid row. -/
def HV (h : List Int) : Bool := decide (1 ≤ h.length ∧ h.length ≤ 60) && match tk1 h with
  | some (_, r) => r.isEmpty
  | none => false
def ht (r : List Int) : List Hydra := match tk1 r with
  | some (x, _) => x
  | none => []
theorem HV_row (x : List Hydra) : HV (hrow x) = decide (hsize x ≤ 60) := by
  have hz := hsize_pos x
  have hr : (hrow x).length = hsize x := rfl
  by_cases hf : hsize x ≤ 60
  · rw [decide_eq_true hf]
    unfold HV
    have := tk1_complete (x := x) [] (by omega)
    rw [List.append_nil] at this
    rw [this, hr, decide_eq_true (by omega)]
    rfl
  · unfold HV
    rw [decide_eq_false hf, hr, decide_eq_false (by omega), Bool.false_and]
theorem ht_row {x : List Hydra} (h : hsize x ≤ 60) : ht (hrow x) = x := by
  have := tk1_complete (x := x) [] (by omega)
  rw [List.append_nil] at this
  simp only [ht, this]
theorem ht_fit {r : List Int} (h : HV r = true) : r = hrow (ht r) ∧ hsize (ht r) ≤ 60 ∧ tk1 r = some (ht r, []) := by
  unfold HV at h
  rw [Bool.and_eq_true, decide_eq_true_eq] at h
  obtain ⟨h1, h2⟩ := h
  cases hk : tk1 r with
  | none => rw [hk] at h2; cases h2
  | some q =>
    obtain ⟨x, r'⟩ := q
    rw [hk] at h2
    cases r' with
    | cons _ _ => cases h2
    | nil =>
      have a1 := tk1_sound hk
      rw [List.append_nil] at a1
      have e : ht r = x := by simp only [ht, hk]
      rw [e]
      exact ⟨a1, by unfold hsize; rw [← a1]; exact h1.2, rfl⟩
/-! Heads. -/
mutual
def hH : Hydra → Nat
  | .mk l => (if l.isEmpty then 1 else 0) + hd l
def hd : List Hydra → Nat
  | [] => 0
  | b :: x => hH b + hd x
end
theorem hd_nil : hd [] = 0 := by rw [hd]
theorem hd_cons (b : Hydra) (x : List Hydra) : hd (b :: x) = (if b.f0.isEmpty then 1 else 0) + hd b.f0 + hd x := by
  cases b
  rw [hd, hH]
  rfl
def zs (l : List Int) : Nat := l.countP fun n => decide (n = 0)
theorem zs_app (a b : List Int) : zs (a ++ b) = zs a + zs b := by simp [zs]
theorem zs_row (x : List Hydra) : zs (hrow x) = (if x.isEmpty then 1 else 0) + hd x ∧ zs (hF x) = hd x := by
  refine hyd_ind (P := fun x => zs (hrow x) = (if x.isEmpty then 1 else 0) + hd x ∧ zs (hF x) = hd x) ?_ ?_ x
  · refine ⟨?_, by rw [hF_nil, hd_nil]; rfl⟩
    rw [hd_nil]; simp [hrow, hF_nil, zs]
  · intro b x h1 h2
    have e : zs (hF (b :: x)) = hd (b :: x) := by rw [hF_cons, hR_eq, zs_app, h1.1, h2.2, hd_cons]
    refine ⟨?_, e⟩
    have : zs (hrow (b :: x)) = zs (hF (b :: x)) := by
      unfold hrow zs
      rw [List.countP_cons_of_neg (by simp; omega)]
    rw [this, e]
    simp
theorem hd_le (x : List Hydra) : hd x ≤ (hF x).length := by
  rw [← (zs_row x).2]
  exact List.countP_le_length
theorem hd_pos {x : List Hydra} (h : x ≠ []) : 1 ≤ hd x := by
  revert h
  refine hyd_ind (P := fun x => x ≠ [] → 1 ≤ hd x) (fun h => absurd rfl h) (fun b x h1 _ _ => ?_) x
  rw [hd_cons]
  cases hb : b.f0 with
  | nil => simp; omega
  | cons c y => have := h1 (by rw [hb]; simp); rw [hb] at this; simp; omega
/-! A cut. -/
def cut (c : Nat) : List Hydra → Nat → Option (List Hydra × Bool)
  | [], _ => none
  | .mk l :: x, h =>
    if l.isEmpty then (if h = 0 then some (x, true) else match cut c x (h - 1) with
      | some (y, o) => some (.mk l :: y, o)
      | none => none)
    else match cut c l h with
      | some (y, own) => some (List.replicate (if own then c else 1) (.mk y) ++ x, false)
      | none => match cut c x (h - hd l) with
        | some (y, o) => some (.mk l :: y, o)
        | none => none
termination_by x => SizeOf.sizeOf x
theorem cut_nil (c h : Nat) : cut c [] h = none := by rw [cut]
theorem cut_leaf (c h : Nat) (b : Hydra) (x : List Hydra) (hb : b.f0.isEmpty = true) : cut c (b :: x) h = if h = 0 then some (x, true) else (cut c x (h - 1)).map fun q => (b :: q.1, q.2) := by
  cases b with
  | mk l =>
    have hb' : l.isEmpty = true := hb
    rw [cut, if_pos hb']
    split
    · rfl
    · cases cut c x (h - 1) <;> rfl
theorem cut_node (c h : Nat) (b : Hydra) (x : List Hydra) (hb : b.f0.isEmpty = false) : cut c (b :: x) h = match cut c b.f0 h with
    | some (y, own) => some (List.replicate (if own then c else 1) (.mk y) ++ x, false)
    | none => (cut c x (h - hd b.f0)).map fun q => (b :: q.1, q.2) := by
  cases b with
  | mk l =>
    have e : (Hydra.mk l).f0 = l := rfl
    rw [cut, if_neg (by intro hh; have : l.isEmpty = false := hb; rw [this] at hh; cases hh), e]
    cases cut c l h with
    | some q => rfl
    | none =>
      simp only []
      cases cut c x (h - hd l) <;> rfl
theorem cut_some (c : Nat) (x : List Hydra) : ∀ h, (cut c x h).isSome = decide (h < hd x) := by
  refine hyd_ind (P := fun x => ∀ h, (cut c x h).isSome = decide (h < hd x)) ?_ ?_ x
  · intro h; rw [cut_nil, hd_nil]; simp
  · intro b x h1 h2 h
    rw [hd_cons]
    cases hb : b.f0.isEmpty with
    | true =>
      have hl : b.f0 = [] := List.isEmpty_iff.1 hb
      rw [cut_leaf c h b x hb, hl, hd_nil]
      by_cases h0 : h = 0
      · rw [if_pos h0]; simp; omega
      · rw [if_neg h0, Option.isSome_map, h2]
        by_cases hlt : h - 1 < hd x
        · rw [decide_eq_true hlt]; exact (decide_eq_true (by simp; omega)).symm
        · rw [decide_eq_false hlt]; exact (decide_eq_false (by simp; omega)).symm
    | false =>
      rw [cut_node c h b x hb]
      have := h1 h
      cases hc : cut c b.f0 h with
      | some q =>
        rw [hc] at this
        have hlt : h < hd b.f0 := of_decide_eq_true this.symm
        simp
        omega
      | none =>
        rw [hc] at this
        have hge : ¬ h < hd b.f0 := of_decide_eq_false this.symm
        simp only [Option.isSome_map]
        rw [h2]
        by_cases hlt : h - hd b.f0 < hd x
        · rw [decide_eq_true hlt]; exact (decide_eq_true (by simp; omega)).symm
        · rw [decide_eq_false hlt]; exact (decide_eq_false (by simp; omega)).symm
theorem hsize_rep (n : Nat) (y x : List Hydra) : hsize (List.replicate n (.mk y) ++ x) = n * hsize y + hsize x := by
  induction n with
  | zero => simp
  | succ n ih =>
    rw [List.replicate_succ, List.cons_append, hsize_cons, ih, Nat.add_mul]
    show hsize y + _ = _
    omega
/-- How much a hydra grows at most. -/
theorem cut_size (c : Nat) (hc : c ≤ 9) (x : List Hydra) : ∀ h {y : List Hydra} {o : Bool}, cut c x h = some (y, o) → hsize y ≤ 9 * hsize x ∧ (o = true → hsize y + 1 = hsize x) := by
  refine hyd_ind (P := fun x => ∀ h {y : List Hydra} {o : Bool}, cut c x h = some (y, o) → hsize y ≤ 9 * hsize x ∧ (o = true → hsize y + 1 = hsize x)) ?_ ?_ x
  · intro h y o hc; rw [cut_nil] at hc; cases hc
  · intro b x h1 h2 h y o hq
    rw [hsize_cons]
    cases hb : b.f0.isEmpty with
    | true =>
      have hl : b.f0 = [] := List.isEmpty_iff.1 hb
      rw [cut_leaf c h b x hb] at hq
      rw [hl, hsize_nil]
      split at hq
      · cases hq; exact ⟨by omega, fun _ => by omega⟩
      · cases hx : cut c x (h - 1) with
        | none => rw [hx] at hq; cases hq
        | some q =>
          rw [hx] at hq
          obtain ⟨y', o'⟩ := q
          cases hq
          have := h2 _ hx
          simp only
          rw [hsize_cons, hl, hsize_nil]
          exact ⟨by omega, fun ho => by have := this.2 ho; omega⟩
    | false =>
      rw [cut_node c h b x hb] at hq
      cases hl : cut c b.f0 h with
      | some q =>
        rw [hl] at hq
        obtain ⟨y', o'⟩ := q
        cases hq
        have := h1 _ hl
        rw [hsize_rep]
        refine ⟨?_, fun h => by cases h⟩
        cases o' with
        | true =>
          have h3 := this.2 rfl
          simp only [if_true]
          have : c * hsize y' ≤ 9 * hsize y' := Nat.mul_le_mul_right _ hc
          omega
        | false =>
          simp only [Bool.false_eq_true, if_false, Nat.one_mul]
          omega
      | none =>
        rw [hl] at hq
        cases hx : cut c x (h - hd b.f0) with
        | none => rw [hx] at hq; cases hq
        | some q =>
          rw [hx] at hq
          obtain ⟨y', o'⟩ := q
          cases hq
          have := h2 _ hx
          simp only
          rw [hsize_cons]
          exact ⟨by omega, fun ho => by have := this.2 ho; omega⟩
/-! The functions on hydras, both sides. -/
theorem hget_at {α : Type} {l : List α} {i : Nat} (h : i < l.length) (d : α) : l.getD (i : Int).toNat d = l[i] := by
  rw [Int.toNat_natCast, List.getD_eq_getElem?_getD, List.getElem?_eq_getElem h]
  rfl
theorem ev_eq {α : Type} {g : Nat → Option α} {a b : α} (h : Ev g a) (e : a = b) : Ev g b := e ▸ h
theorem hvalid_ev (h : List Int) : Ev (fun k => spec_HydraValid.f k h) (HV h) := by
  refine ev_succ (fun k => spec_HydraValid.f_eq k h) (ev_bind (l1In_ev _ _ _) ?_)
  by_cases hl : 1 ≤ h.length ∧ h.length ≤ 60
  · refine ev_bt (by simp <;> omega) (ev_bind (hend_ev h (by omega) h.length 0 (by omega) (by omega)) (ev_some.2 ?_))
    unfold HV
    rw [decide_eq_true hl, Bool.true_and, List.drop_zero]
    cases h1 : tk1 h with
    | none => simp only [endO]; exact decide_eq_false (by omega)
    | some p =>
      obtain ⟨hs, r⟩ := p
      simp only [endO]
      cases r with
      | nil => simp
      | cons x r => exact decide_eq_false (by simp only [List.length_cons]; omega)
  · refine ev_bf ?_ (ev_some.2 ?_)
    · simp <;> omega
    · unfold HV; rw [decide_eq_false hl, Bool.false_and]
theorem hydraOf_ev (h : List Int) : EvP (fun k => impl_hydraOf.f k h) (fun x => x.2 = HV h ∧ (HV h = true → x.1 = ht h)) := by
  refine evp_succ (fun k => impl_hydraOf.f_eq k h) (evp_d (fun hl => evp_some ?_) (fun h1 => evp_d (fun hl => evp_some ?_) (fun h2 => evp_bindv (htake_ev h.length h (Nat.le_refl _)) ?_)))
  · have : HV h = false := by unfold HV; rw [decide_eq_false (by omega), Bool.false_and]
    rw [this]; exact ⟨rfl, fun h => by cases h⟩
  · have : HV h = false := by unfold HV; rw [decide_eq_false (by omega), Bool.false_and]
    rw [this]; exact ⟨rfl, fun h => by cases h⟩
  · have hd : decide (1 ≤ h.length ∧ h.length ≤ 60) = true := decide_eq_true ⟨by omega, by omega⟩
    unfold HV ht
    rw [hd, Bool.true_and]
    cases ht : tk1 h with
    | none => exact evp_some ⟨rfl, fun h => by cases h⟩
    | some p =>
      obtain ⟨hs, r⟩ := p
      refine evp_some ⟨?_, fun _ => rfl⟩
      cases r with
      | nil => rfl
      | cons x r => exact decide_eq_false (by show ¬ (((x :: r).length : Nat) : Int) = 0; simp; omega)
theorem implHV_ev (h : List Int) : Ev (fun k => impl_HydraValid.f k h) (HV h) := by
  obtain ⟨x, h1, h2, _⟩ := hydraOf_ev h
  exact ev_succ (fun k => impl_HydraValid.f_eq k h) (ev_bind h1 (ev_some.2 h2))
theorem hsize_take (x : List Hydra) (i : Nat) : hsize (x.take i) ≤ hsize x := by
  have := hsize_app (x.take i) (x.drop i)
  rw [List.take_append_drop] at this
  have := hsize_pos (x.drop i)
  omega
theorem hsize_drop (x : List Hydra) (i : Nat) : hsize (x.drop i) ≤ hsize x := by
  have := hsize_app (x.take i) (x.drop i)
  rw [List.take_append_drop] at this
  have := hsize_pos (x.take i)
  omega
theorem hF_take {x : List Hydra} {i : Nat} (h : i < x.length) : hF (x.take (i + 1)) = hF (x.take i) ++ hrow x[i].f0 := by
  rw [← List.take_append_getElem h, hF_app, hF_cons, hF_nil, List.append_nil, hR_eq]
theorem hF_at {x : List Hydra} {i : Nat} (h : i < x.length) : (hF (x.take i)).length + hsize x[i].f0 + 1 ≤ hsize x := by
  have h1 := hsize_take x (i + 1)
  rw [hsize_eq, hF_take h, List.length_append] at h1
  have : (hrow x[i].f0).length = hsize x[i].f0 := rfl
  omega
theorem row_ev (x : List Hydra) : hsize x ≤ 1000000 → Ev (fun k => impl_hydra__row.f k x) (hrow x) := by
  refine hyd_mem (P := fun x => hsize x ≤ 1000000 → Ev (fun k => impl_hydra__row.f k x) (hrow x)) ?_ x
  intro x ih hs
  have hl := hsize_len x
  have loop : ∀ d i : Nat, i + d = x.length → Ev (fun k => impl_hydra__row.l0 k ((x.length : Int) :: hF (x.take i)) x (x.length : Int) (i : Int)) (hrow x) := by
    intro d
    induction d with
    | zero =>
      intro i hi
      refine ev_succ (fun k => impl_hydra__row.l0_eq k _ _ _ _) (ev_df (by omega) (ev_some.2 ?_))
      rw [List.take_of_length_le (by omega)]; rfl
    | succ d ihd =>
      intro i hi
      have hlt : i < x.length := by omega
      have hm : x[i] ∈ x := List.getElem_mem hlt
      have hz := hsize_mem hm
      refine ev_succ (fun k => impl_hydra__row.l0_eq k _ _ _ _) (ev_dt (by omega) (ev_gd (by omega) ?_))
      rw [hget_at hlt]
      refine ev_bind (ih _ hm (by omega)) (ev_gd ?_ ?_)
      · have := hF_at hlt
        have e : (hrow x[i].f0).length = hsize x[i].f0 := rfl
        rw [limE, List.length_cons, e]; omega
      · rw [w_succ (by omega), List.cons_append, ← hF_take hlt]
        exact ihd (i + 1) (by omega)
  have := loop x.length 0 (by omega)
  rw [List.take_zero, hF_nil] at this
  exact ev_succ (fun k => impl_hydra__row.f_eq k _) this
theorem hd_app (a b : List Hydra) : hd (a ++ b) = hd a + hd b := by
  induction a with
  | nil => rw [hd_nil]; simp
  | cons c a ih => rw [List.cons_append, hd_cons, hd_cons, ih]; omega
theorem hd_take {x : List Hydra} {i : Nat} (h : i < x.length) : hd (x.take (i + 1)) = hd (x.take i) + ((if x[i].f0.isEmpty then 1 else 0) + hd x[i].f0) := by
  rw [← List.take_append_getElem h, hd_app, hd_cons, hd_nil]
  omega
theorem hd_size (x : List Hydra) : hd x + 1 ≤ hsize x := by rw [hsize_eq]; have := hd_le x; omega
theorem heads_ev (x : List Hydra) : hsize x ≤ 1000000 → Ev (fun k => impl_hydra__heads.f k x) (hd x : Int) := by
  refine hyd_mem (P := fun x => hsize x ≤ 1000000 → Ev (fun k => impl_hydra__heads.f k x) (hd x : Int)) ?_ x
  intro x ih hs
  have hl := hsize_len x
  have loop : ∀ d i : Nat, i + d = x.length → Ev (fun k => impl_hydra__heads.l0 k (hd (x.take i) : Int) x (x.length : Int) (i : Int)) (hd x : Int) := by
    intro d
    induction d with
    | zero =>
      intro i hi
      refine ev_succ (fun k => impl_hydra__heads.l0_eq k _ _ _ _) (ev_df (by omega) (ev_some.2 ?_))
      rw [List.take_of_length_le (by omega)]
    | succ d ihd =>
      intro i hi
      have hlt : i < x.length := by omega
      have hm : x[i] ∈ x := List.getElem_mem hlt
      have hz := hsize_mem hm
      have h1 := hd_size (x.take i)
      have h1' := hsize_take x i
      have h2 := hd_size x[i].f0
      have h3 := hd_take hlt
      have j0 : ∀ (n : Nat), (n : Int) = hd (x.take i) + (if x[i].f0.isEmpty then 1 else 0) → Ev (fun k => impl_hydra__heads.j0 k (n : Int) x[i].f0 x (x.length : Int) (i : Int)) (hd x : Int) := by
        intro n hn
        refine ev_succ (fun k => impl_hydra__heads.j0_eq k _ _ _ _ _) (ev_bind (ih _ hm (by omega)) ?_)
        have e : wr ((n : Int) + (hd x[i].f0 : Int)) = (hd (x.take (i + 1)) : Int) := by
          rw [h3, w64]
          · split at hn <;> simp_all <;> omega
          · omega
          · split at hn <;> omega
        rw [e, w_succ (by omega)]
        exact ihd (i + 1) (by omega)
      refine ev_succ (fun k => impl_hydra__heads.l0_eq k _ _ _ _) (ev_dt (by omega) (ev_gd (by omega) ?_))
      rw [hget_at hlt]
      cases hb : x[i].f0.isEmpty with
      | true =>
        have : x[i].f0 = [] := List.isEmpty_iff.1 hb
        refine ev_dt (by rw [this]; rfl) ?_
        rw [w_succ (by omega)]
        exact j0 _ (by rw [hb]; simp)
      | false =>
        refine ev_df (by intro h; have : x[i].f0 = [] := List.eq_nil_of_length_eq_zero (by omega); rw [this] at hb; cases hb) ?_
        exact j0 _ (by rw [hb]; simp)
  have := loop x.length 0 (by omega)
  rw [List.take_zero, hd_nil] at this
  exact ev_succ (fun k => impl_hydra__heads.f_eq k _) this
/-! Heads counted in a row. -/
theorem zs_at {l : List Int} {i : Nat} (h : i < l.length) : zs (l.drop i) = (if l[i] = 0 then 1 else 0) + zs (l.drop (i + 1)) := by
  rw [List.drop_eq_getElem_cons h]
  unfold zs
  by_cases h0 : l[i] = 0
  · rw [if_pos h0, List.countP_cons_of_pos (by simp [h0])]; omega
  · rw [if_neg h0, List.countP_cons_of_neg (by simp [h0])]; omega
theorem zs_le (l : List Int) : zs l ≤ l.length := List.countP_le_length
theorem sHeads_l0 (l : List Int) (hl : l.length ≤ 1000000) : ∀ d i a : Nat, i + d = l.length → a ≤ 1000000000 → Ev (fun k => spec_HydraHeads.l0 k l (a : Int) (i : Int)) ((a + zs (l.drop i) : Nat) : Int) := by
  have gen : ∀ d i a : Nat, i + d = l.length → a + d ≤ 1001000000 → Ev (fun k => spec_HydraHeads.l0 k l (a : Int) (i : Int)) ((a + zs (l.drop i) : Nat) : Int) := by
    intro d
    induction d with
    | zero =>
      intro i a hi ha
      refine ev_succ (fun k => spec_HydraHeads.l0_eq k _ _ _) (ev_df (by omega) (ev_some.2 ?_))
      rw [List.drop_eq_nil_of_le (by omega)]; simp [zs]
    | succ d ih =>
      intro i a hi ha
      have hlt : i < l.length := by omega
      refine ev_succ (fun k => spec_HydraHeads.l0_eq k _ _ _) (ev_dt (by omega) (ev_gd (by omega) ?_))
      rw [hget_at hlt, zs_at hlt, w_succ (i := i) (by omega)]
      by_cases h0 : l[i] = 0
      · refine ev_dt h0 ?_
        rw [w_succ (by omega), if_pos h0, ← Nat.add_assoc]
        exact ih (i + 1) (a + 1) (by omega) (by omega)
      · refine ev_df h0 ?_
        rw [if_neg h0, Nat.zero_add]
        exact ih (i + 1) a (by omega) (by omega)
  intro d i a hi ha
  exact gen d i a hi (by omega)
theorem lHeads_l0 (l : List Int) (hl : l.length ≤ 1000000) : ∀ d i a : Nat, i + d = l.length → a + d ≤ 1001000000 → Ev (fun k => spec_l5Heads.l0 k l (a : Int) (i : Int)) ((a + zs (l.drop i) : Nat) : Int) := by
  intro d
  induction d with
  | zero =>
    intro i a hi ha
    refine ev_succ (fun k => spec_l5Heads.l0_eq k _ _ _) (ev_df (by omega) (ev_some.2 ?_))
    rw [List.drop_eq_nil_of_le (by omega)]; simp [zs]
  | succ d ih =>
    intro i a hi ha
    have hlt : i < l.length := by omega
    refine ev_succ (fun k => spec_l5Heads.l0_eq k _ _ _) (ev_dt (by omega) (ev_gd (by omega) ?_))
    rw [hget_at hlt, zs_at hlt, w_succ (i := i) (by omega)]
    by_cases h0 : l[i] = 0
    · refine ev_dt h0 ?_
      rw [w_succ (by omega), if_pos h0, ← Nat.add_assoc]
      exact ih (i + 1) (a + 1) (by omega) (by omega)
    · refine ev_df h0 ?_
      rw [if_neg h0, Nat.zero_add]
      exact ih (i + 1) a (by omega) (by omega)
theorem lHeads_ev (x : List Hydra) (hs : hsize x ≤ 1000000) : Ev (fun k => spec_l5Heads.f k (hrow x)) (((if x.isEmpty then 1 else 0) + hd x : Nat) : Int) := by
  have := lHeads_l0 (hrow x) hs (hrow x).length 0 0 (by omega) (by have : (hrow x).length = hsize x := rfl; omega)
  rw [List.drop_zero, (zs_row x).1, Nat.zero_add] at this
  exact ev_succ (fun k => spec_l5Heads.f_eq k _) this
def headsR (r : List Int) : Int := if HV r = true then (hd (ht r) : Int) else -1
theorem sHeads_ev (r : List Int) : Ev (fun k => spec_HydraHeads.f k r) (headsR r) := by
  refine ev_succ (fun k => spec_HydraHeads.f_eq k _) (ev_bind (hvalid_ev r) ?_)
  unfold headsR
  cases hv : HV r with
  | false => exact ev_nt rfl (ev_some.2 (by simp))
  | true =>
    refine ev_nf rfl ?_
    obtain ⟨e, hs, _⟩ := ht_fit hv
    have hl : r.length = hsize (ht r) := by rw [hsize, ← e]
    have := sHeads_l0 r (by omega) (r.length - 1) 1 0 (by have := hsize_pos (ht r); omega) (by omega)
    have e2 : zs (r.drop 1) = hd (ht r) := by
      rw [← (zs_row (ht r)).2]
      have : r.drop 1 = hF (ht r) := (congrArg (List.drop 1) e).trans rfl
      rw [this]
    rw [e2, Nat.zero_add] at this
    rw [if_pos rfl]
    exact this
theorem iHeads_ev (r : List Int) : Ev (fun k => impl_HydraHeads.f k r) (headsR r) := by
  obtain ⟨x, h1, h2, h3⟩ := hydraOf_ev r
  refine ev_succ (fun k => impl_HydraHeads.f_eq k _) (ev_bind h1 ?_)
  rw [h2]
  unfold headsR
  cases hv : HV r with
  | false => exact ev_nt rfl (ev_some.2 (by simp))
  | true =>
    rw [h3 hv]
    exact ev_nf rfl (ev_bind (heads_ev _ (by have := (ht_fit hv).2.1; omega)) (ev_some.2 (by simp)))
/-! The branches of a row. -/
def brs (x : List Hydra) : List (List Int) := x.map fun b => hrow b.f0
theorem brs_at {x : List Hydra} {i : Nat} (h : i < x.length) : (brs x).getD (i : Int).toNat [] = hrow x[i].f0 := by
  rw [hget_at (by simpa [brs] using h)]
  simp [brs]
theorem hrow_slice {x : List Hydra} {i : Nat} (h : i < x.length) : (hrow x).drop (1 + (hF (x.take i)).length) = hF (x.drop i) := by
  rw [hrow, Nat.add_comm, List.drop_succ_cons]
  have : hF x = hF (x.take i) ++ hF (x.drop i) := by rw [← hF_app, List.take_append_drop]
  rw [this]
  simp
theorem branches_ev (x : List Hydra) (hs : hsize x ≤ 60) : Ev (fun k => spec_l5Branches.f k (hrow x)) (brs x) := by
  have hl := hsize_len x
  have hrl : (hrow x).length = hsize x := rfl
  have loop : ∀ d i : Nat, i + d = x.length → Ev (fun k => spec_l5Branches.l0 k (hrow x) (brs (x.take i)) ((1 + (hF (x.take i)).length : Nat) : Int)) (brs x) := by
    intro d
    induction d with
    | zero =>
      intro i hi
      refine ev_succ (fun k => spec_l5Branches.l0_eq k _ _ _) ?_
      rw [List.take_of_length_le (by omega)]
      refine ev_df ?_ (ev_some.2 rfl)
      rw [hrl, hsize_eq]; omega
    | succ d ih =>
      intro i hi
      have hlt : i < x.length := by omega
      have hz := hF_at hlt
      have hp := hsize_pos x[i].f0
      have hd0 := hrow_slice hlt
      have e1 : x.drop i = x[i] :: x.drop (i + 1) := List.drop_eq_getElem_cons hlt
      rw [e1, hF_cons, hR_eq] at hd0
      have hE := hend_ev (hrow x) (by omega) (hrow x).length (1 + (hF (x.take i)).length) (by omega) (by omega)
      rw [hd0, tk1_complete _ (by omega)] at hE
      have hlen : ((hrow x).drop (1 + (hF (x.take i)).length)).length = hsize x[i].f0 + (hF (x.drop (i + 1))).length := by
        rw [hd0, List.length_append]; rfl
      rw [List.length_drop] at hlen
      have hend : endO (hrow x).length (some (x[i].f0, hF (x.drop (i + 1)))) = ((1 + (hF (x.take (i + 1))).length : Nat) : Int) := by
        have : (hrow x[i].f0).length = hsize x[i].f0 := rfl
        rw [endO, hF_take hlt, List.length_append]
        omega
      rw [hend] at hE
      have h2 : (hF (x.take (i + 1))).length = (hF (x.take i)).length + hsize x[i].f0 := by
        rw [hF_take hlt, List.length_append]; rfl
      refine ev_succ (fun k => spec_l5Branches.l0_eq k _ _ _) (ev_dt (by omega) (ev_bind hE (ev_gd (by omega) (ev_gd ?_ ?_))))
      · rw [limE]; simp [brs]; omega
      · have e3 : ((hrow x).take ((1 + (hF (x.take (i + 1))).length : Nat) : Int).toNat).drop ((1 + (hF (x.take i)).length : Nat) : Int).toNat = hrow x[i].f0 := by
          rw [Int.toNat_natCast, Int.toNat_natCast, List.drop_take, hd0]
          have : 1 + (hF (x.take (i + 1))).length - (1 + (hF (x.take i)).length) = (hrow x[i].f0).length := by
            rw [h2]; show _ = hsize x[i].f0; omega
          rw [this, List.take_left]
        rw [e3]
        have e4 : brs (x.take i) ++ [hrow x[i].f0] = brs (x.take (i + 1)) := by
          rw [← List.take_append_getElem hlt]; unfold brs; rw [List.map_append]; rfl
        rw [e4]
        exact ih (i + 1) (by omega)
  have := loop x.length 0 (by omega)
  rw [List.take_zero, hF_nil] at this
  exact ev_succ (fun k => spec_l5Branches.f_eq k _) this
theorem tree_ev (x : List Hydra) (hs : hsize x ≤ 1000000) : Ev (fun k => spec_l5Tree.f k (brs x)) (hrow x) := by
  have hl := hsize_len x
  have hbl : (brs x).length = x.length := by simp [brs]
  have loop : ∀ d i : Nat, i + d = x.length → Ev (fun k => spec_l5Tree.l0 k (brs x) ((x.length : Int) :: hF (x.take i)) (i : Int)) (hrow x) := by
    intro d
    induction d with
    | zero =>
      intro i hi
      refine ev_succ (fun k => spec_l5Tree.l0_eq k _ _ _) (ev_df (by omega) (ev_some.2 ?_))
      rw [List.take_of_length_le (by omega)]; rfl
    | succ d ihd =>
      intro i hi
      have hlt : i < x.length := by omega
      refine ev_succ (fun k => spec_l5Tree.l0_eq k _ _ _) (ev_dt (by omega) (ev_gd (by omega) ?_))
      rw [brs_at hlt]
      refine ev_gd ?_ ?_
      · have := hF_at hlt
        have e : (hrow x[i].f0).length = hsize x[i].f0 := rfl
        rw [limE, List.length_cons, e]; omega
      · rw [w_succ (by omega), List.cons_append, ← hF_take hlt]
        exact ihd (i + 1) (by omega)
  have := loop x.length 0 (by omega)
  rw [List.take_zero, hF_nil, ← hbl] at this
  exact ev_succ (fun k => spec_l5Tree.f_eq k _) this
/-! A cut, the program's way. -/
theorem clone_ev (x : List Hydra) (h : x.length < lim) : Ev (fun k => slices_Clone_hydra_hydra.f k x) x := by
  have : (fun k => slices_Clone_hydra_hydra.f k x) = fun k => gate (decide (0 + x.length < lim)) (some x) := funext fun k => slices_Clone_hydra_hydra.f_eq k x
  rw [this]
  exact ev_gd (by omega) (ev_some.2 rfl)
theorem delete_ev (x : List Hydra) (i : Nat) (h : i < x.length) : Ev (fun k => slices_Delete_hydra_hydra.f k x (i : Int) ((i + 1 : Nat) : Int)) (x.take i ++ x.drop (i + 1)) := by
  have hA : (x.take i ++ (x.drop (i + 1) ++ x.drop (i + (x.length - (i + 1))))).length = x.length := by simp; omega
  have hT : (((x.take i ++ (x.drop (i + 1) ++ x.drop (i + (x.length - (i + 1))))).take (i + (x.length - (i + 1)))).drop 0).length = x.length - 1 := by
    rw [List.drop_zero, List.length_take, hA]; omega
  refine ev_succ (fun k => slices_Delete_hydra_hydra.f_eq k _ _ _) (ev_gd (by omega) (ev_df (by omega) (ev_gd (by omega) (ev_gd (by omega) (ev_gd (by omega) (ev_gd ?_ (ev_some.2 ?_)))))))
  · simp only [Int.toNat_natCast]
    rw [hT, hA]; omega
  simp only [Int.toNat_natCast]
  rw [hT]
  have e1 : i + (x.length - (i + 1)) = x.length - 1 := by omega
  rw [e1] at hA ⊢
  rw [List.take_append_of_le_length (by rw [List.length_take, hA]; omega), List.take_take, Nat.min_self, ← List.append_assoc, List.take_append_of_le_length (by simp; omega)]
  exact List.take_of_length_le (by simp; omega)
def cutI (x : List Hydra) (h : Nat) : Option (List Hydra × Bool) → List Hydra × Bool × Int
  | some (y, o) => (y, o, -1)
  | none => (x, false, (h : Int) - hd x)
theorem iCut_ev (c : Nat) (hc1 : 1 ≤ c) (hc9 : c ≤ 9) (x : List Hydra) : hsize x ≤ 60 → ∀ (h : Nat) (b : Bool), h ≤ 1000000 → Ev (fun k => impl_hydra__cut.f k x (h : Int) (c : Int) b) (cutI x h (cut c x h)) := by
  refine hyd_mem (P := fun x => hsize x ≤ 60 → ∀ (h : Nat) (b : Bool), h ≤ 1000000 → Ev (fun k => impl_hydra__cut.f k x (h : Int) (c : Int) b) (cutI x h (cut c x h))) ?_ x
  intro x ih hs h b hh
  have hl := hsize_len x
  have loop : ∀ d i g : Nat, i + d = x.length → g ≤ 1000000 → Ev (fun k => impl_hydra__cut.l0 k x (g : Int) (c : Int) x (x.length : Int) (i : Int)) (match cut c (x.drop i) g with
      | some (y, o) => (x.take i ++ y, o, (-1 : Int))
      | none => (x, false, (g : Int) - hd (x.drop i))) := by
    intro d
    induction d with
    | zero =>
      intro i g hi hg
      refine ev_succ (fun k => impl_hydra__cut.l0_eq k _ _ _ _ _ _) (ev_df (by omega) (ev_some.2 ?_))
      rw [List.drop_eq_nil_of_le (by omega), cut_nil, hd_nil]
      simp
    | succ d ihd =>
      intro i g hi hg
      have hlt : i < x.length := by omega
      have hm : x[i] ∈ x := List.getElem_mem hlt
      have hz := hsize_mem hm
      have hpz := hd_size x[i].f0
      have e1 : x.drop i = x[i] :: x.drop (i + 1) := List.drop_eq_getElem_cons hlt
      have tk : ∀ y : List Hydra, x.take i ++ x[i] :: y = x.take (i + 1) ++ y := by
        intro y; rw [← List.take_append_getElem hlt, List.append_assoc]; rfl
      refine ev_succ (fun k => impl_hydra__cut.l0_eq k _ _ _ _ _ _) (ev_dt (by omega) (ev_gd (by omega) ?_))
      rw [hget_at hlt, e1]
      cases hb : x[i].f0.isEmpty with
      | true =>
        have hn : x[i].f0 = [] := List.isEmpty_iff.1 hb
        refine ev_dt (by rw [hn]; rfl) ?_
        rw [cut_leaf c g _ _ hb, hd_cons, hb, hn, hd_nil]
        by_cases hg0 : g = 0
        · refine ev_dt (by omega) (ev_bind (clone_ev x (by rw [limE]; omega)) ?_)
          rw [w_succ (by omega), if_pos hg0]
          exact ev_bind (delete_ev x i hlt) (ev_some.2 rfl)
        · refine ev_df (by omega) ?_
          have e2 : wr ((g : Int) - 1) = ((g - 1 : Nat) : Int) := by rw [w64] <;> omega
          rw [e2, w_succ (by omega), if_neg hg0]
          have := ihd (i + 1) (g - 1) (by omega) (by omega)
          have hsm := cut_some c (x.drop (i + 1)) (g - 1)
          cases hq : cut c (x.drop (i + 1)) (g - 1) with
          | some q =>
            rw [hq] at this
            obtain ⟨y, o⟩ := q
            simp only [Option.map_some]
            rw [tk]
            exact this
          | none =>
            rw [hq] at this
            simp only [Option.map_none]
            exact ev_eq this (by simp <;> omega)
      | false =>
        refine ev_df (by intro h; have : x[i].f0 = [] := List.eq_nil_of_length_eq_zero (by omega); rw [this] at hb; cases hb) ?_
        rw [cut_node c g _ _ hb, hd_cons, hb]
        have h0 := ih _ hm (by omega) g false hg
        have hsm := cut_some c x[i].f0 g
        cases hq : cut c x[i].f0 g with
        | none =>
          rw [hq] at hsm h0
          have hge : ¬ g < hd x[i].f0 := of_decide_eq_false hsm.symm
          have e2 : (g : Int) - (hd x[i].f0 : Int) = ((g - hd x[i].f0 : Nat) : Int) := by omega
          have h1 := ev_eq h0 (b := (x[i].f0, false, ((g - hd x[i].f0 : Nat) : Int))) (by simp only [cutI]; rw [e2])
          refine ev_bind h1 (ev_dt (by show (((g - hd x[i].f0 : Nat)) : Int) ≥ 0; omega) ?_)
          rw [w_succ (by omega)]
          have := ihd (i + 1) (g - hd x[i].f0) (by omega) (by omega)
          cases hq : cut c (x.drop (i + 1)) (g - hd x[i].f0) with
          | some q =>
            rw [hq] at this
            obtain ⟨y, o⟩ := q
            simp only [Option.map_some]
            rw [tk]
            exact this
          | none =>
            rw [hq] at this
            simp only [Option.map_none]
            exact ev_eq this (by simp <;> omega)
        | some q =>
          obtain ⟨y, o⟩ := q
          rw [hq] at h0
          have h1 := ev_eq h0 (b := (y, o, (-1 : Int))) rfl
          have etk : (x.take (i : Int).toNat).drop (0 : Int).toNat = x.take i := by rw [Int.toNat_natCast]; rfl
          refine ev_bind h1 ?_
          rw [etk]
          refine ev_df (by show ¬ (-1 : Int) ≥ 0; omega) (ev_gd (by omega) (ev_bind (clone_ev (x.take i) (by rw [limE, List.length_take]; omega)) ?_))
          have l1 : ∀ (m : Nat), m ≤ 9 → ∀ d j : Nat, j + d = m → Ev (fun k => impl_hydra__cut.l1 k x (-1) (i : Int) y (x.take i ++ List.replicate j (Hydra.mk y)) (m : Int) (j : Int)) (x.take i ++ (List.replicate m (Hydra.mk y) ++ x.drop (i + 1)), false, -1) := by
            intro m hm d
            induction d with
            | zero =>
              intro j hj
              refine ev_succ (fun k => impl_hydra__cut.l1_eq k _ _ _ _ _ _ _) (ev_df (by omega) ?_)
              rw [w_succ (by omega), Int.toNat_natCast, Int.toNat_natCast, List.take_length]
              refine ev_gd (by omega) (ev_gd (by rw [limE]; simp; omega) (ev_some.2 ?_))
              rw [show j = m by omega, List.append_assoc]
            | succ d ihd =>
              intro j hj
              refine ev_succ (fun k => impl_hydra__cut.l1_eq k _ _ _ _ _ _ _) (ev_dt (by omega) (ev_gd (by rw [limE]; simp; omega) ?_))
              rw [w_succ (by omega), List.append_assoc, ← List.replicate_succ']
              exact ihd (j + 1) (by omega)
          cases o with
          | true =>
            refine ev_nf rfl (ev_succ (fun k => impl_hydra__cut.j0_eq k _ _ _ _ _ _) ?_)
            have := l1 c hc9 c 0 (by omega)
            rw [List.replicate_zero, List.append_nil] at this
            exact this
          | false =>
            refine ev_nt rfl (ev_succ (fun k => impl_hydra__cut.j0_eq k _ _ _ _ _ _) ?_)
            have := l1 1 (by omega) 1 0 (by omega)
            rw [List.replicate_zero, List.append_nil] at this
            exact this
  have := loop x.length 0 h (by omega) hh
  refine ev_succ (fun k => impl_hydra__cut.f_eq k _ _ _ _) ?_
  rw [List.drop_zero] at this
  cases hq : cut c x h with
  | some q => rw [hq] at this; obtain ⟨y, o⟩ := q; exact this
  | none => rw [hq] at this; exact this
/-! A cut, the statements' way. -/
theorem brs_snoc (z : List Hydra) (y : List Hydra) : brs z ++ [hrow y] = brs (z ++ [Hydra.mk y]) := by
  unfold brs; rw [List.map_append]; rfl
theorem sCut_done (c : Nat) (x : List Hydra) (hs : hsize x ≤ 60) : ∀ (d i : Nat) (v : Int) (z : List Hydra) (o : Bool), i + d = x.length → hsize z + 60 * d ≤ 100000 → v < 0 → -1000 * (i + 1 : Int) ≤ v → Ev (fun k => spec_l5Cut.l0 k v (c : Int) (brs x) (brs z) o (i : Int)) (hrow (z ++ x.drop i), o) := by
  have hl := hsize_len x
  have hbl : (brs x).length = x.length := by simp [brs]
  intro d
  induction d with
  | zero =>
    intro i v z o hi hz hv hv2
    refine ev_succ (fun k => spec_l5Cut.l0_eq k _ _ _ _ _ _) (ev_df (by omega) ?_)
    rw [List.drop_eq_nil_of_le (by omega), List.append_nil]
    exact ev_bind (tree_ev z (by omega)) (ev_some.2 rfl)
  | succ d ih =>
    intro i v z o hi hz hv hv2
    have hlt : i < x.length := by omega
    have hm : x[i] ∈ x := List.getElem_mem hlt
    have hsz := hsize_mem hm
    have hpz := hd_size x[i].f0
    have hzl := hsize_len z
    have e1 : x.drop i = x[i] :: x.drop (i + 1) := List.drop_eq_getElem_cons hlt
    refine ev_succ (fun k => spec_l5Cut.l0_eq k _ _ _ _ _ _) (ev_dt (by omega) (ev_gd (by omega) ?_))
    rw [brs_at hlt]
    refine ev_bind (lHeads_ev _ (by omega)) (ev_dt (by omega) (ev_succ (fun k => spec_l5Cut.j0_eq k _ _ _ _ _ _ _) (ev_gd (by omega) ?_)))
    rw [brs_at hlt]
    refine ev_gd (by rw [limE]; simp [brs]; omega) ?_
    have hh : (if x[i].f0.isEmpty = true then 1 else 0) + hd x[i].f0 ≤ 100 := by split <;> omega
    rw [brs_snoc, w_succ (by omega), w64 (by omega) (by omega)]
    have := ih (i + 1) (v - (((if x[i].f0.isEmpty = true then 1 else 0) + hd x[i].f0 : Nat) : Int)) (z ++ [Hydra.mk x[i].f0]) o (by omega) (by
      have h1 := hsize_app z [Hydra.mk x[i].f0]
      rw [hsize_cons, hsize_nil] at h1
      have e : (Hydra.mk x[i].f0).f0 = x[i].f0 := rfl
      rw [e] at h1
      omega) (by omega) (by omega)
    rw [List.append_assoc] at this
    rw [e1]
    have em : Hydra.mk x[i].f0 = x[i] := by cases x[i]; rfl
    rw [em] at this
    rw [em]
    exact this
theorem sCut_ev (c : Nat) (hc1 : 1 ≤ c) (hc9 : c ≤ 9) (x : List Hydra) : hsize x ≤ 60 → ∀ (h : Nat), h < hd x → EvP (fun k => spec_l5Cut.f k (hrow x) (h : Int) (c : Int)) (fun p => ∃ y o, cut c x h = some (y, o) ∧ p = (hrow y, o)) := by
  refine hyd_mem (P := fun x => hsize x ≤ 60 → ∀ (h : Nat), h < hd x → EvP (fun k => spec_l5Cut.f k (hrow x) (h : Int) (c : Int)) (fun p => ∃ y o, cut c x h = some (y, o) ∧ p = (hrow y, o))) ?_ x
  intro x ih hs h hh
  have hl := hsize_len x
  have hbl : (brs x).length = x.length := by simp [brs]
  have loop : ∀ d i g : Nat, i + d = x.length → g < hd (x.drop i) → EvP (fun k => spec_l5Cut.l0 k (g : Int) (c : Int) (brs x) (brs (x.take i)) false (i : Int)) (fun p => ∃ y o, cut c (x.drop i) g = some (y, o) ∧ p = (hrow (x.take i ++ y), o)) := by
    intro d
    induction d with
    | zero =>
      intro i g hi hg
      rw [List.drop_eq_nil_of_le (by omega), hd_nil] at hg
      omega
    | succ d ihd =>
      intro i g hi hg
      have hlt : i < x.length := by omega
      have hm : x[i] ∈ x := List.getElem_mem hlt
      have hsz := hsize_mem hm
      have hpz := hd_size x[i].f0
      have hpx := hd_size (x.drop i)
      have hsx := hsize_drop x i
      have htx := hsize_take x i
      have e1 : x.drop i = x[i] :: x.drop (i + 1) := List.drop_eq_getElem_cons hlt
      have em : Hydra.mk x[i].f0 = x[i] := by cases x[i]; rfl
      have tk : ∀ y : List Hydra, x.take i ++ x[i] :: y = x.take (i + 1) ++ y := by
        intro y; rw [← List.take_append_getElem hlt, List.append_assoc]; rfl
      have etk : x.take i ++ [x[i]] = x.take (i + 1) := by rw [← List.take_append_getElem hlt]
      have hg2 := hg
      rw [e1, hd_cons] at hg2
      have hh : (if x[i].f0.isEmpty = true then 1 else 0) + hd x[i].f0 ≤ 100 := by split <;> omega
      have skip : (if x[i].f0.isEmpty = true then 1 else 0) + hd x[i].f0 ≤ g → cut c (x.drop i) g = (cut c (x.drop (i + 1)) (g - ((if x[i].f0.isEmpty = true then 1 else 0) + hd x[i].f0))).map (fun q => (x[i] :: q.1, q.2)) → EvP (fun k => spec_l5Cut.j0 k (g : Int) (c : Int) (brs x) (brs (x.take i)) false (i : Int) (((if x[i].f0.isEmpty = true then 1 else 0) + hd x[i].f0 : Nat) : Int)) (fun p => ∃ y o, cut c (x.drop i) g = some (y, o) ∧ p = (hrow (x.take i ++ y), o)) := by
        intro hge hcut
        refine evp_succ (fun k => spec_l5Cut.j0_eq k _ _ _ _ _ _ _) (evp_gd (by omega) ?_)
        rw [brs_at hlt]
        refine evp_gd (by rw [limE]; simp [brs]; omega) ?_
        rw [brs_snoc, em, etk, w_succ (by omega), w64 (by omega) (by omega), ← Int.natCast_sub hge]
        refine evp_mono (ihd (i + 1) _ (by omega) (by omega)) ?_
        rintro p ⟨y, o, h1, h2⟩
        refine ⟨x[i] :: y, o, ?_, ?_⟩
        · rw [hcut, h1]; rfl
        · rw [h2, tk]
      refine evp_succ (fun k => spec_l5Cut.l0_eq k _ _ _ _ _ _) (evp_d (fun _ => evp_gd (by omega) ?_) (fun hn => absurd (by omega) hn))
      rw [brs_at hlt]
      refine evp_bindv (lHeads_ev _ (by omega)) (evp_d (fun hn => absurd hn (by omega)) (fun _ => evp_d (fun hge => skip (by omega) ?_) (fun hge => evp_gd (by omega) ?_)))
      · rw [e1]
        cases hb : x[i].f0.isEmpty with
        | true =>
          have hn : x[i].f0 = [] := List.isEmpty_iff.1 hb
          rw [hb] at hge
          rw [cut_leaf c g _ _ hb, hn, hd_nil, if_neg (by simp at hge; omega)]
          rfl
        | false =>
          rw [hb] at hge
          have hsm := cut_some c x[i].f0 g
          rw [decide_eq_false (by simp at hge; omega)] at hsm
          rw [cut_node c g _ _ hb]
          cases hq : cut c x[i].f0 g with
          | some q => rw [hq] at hsm; cases hsm
          | none => simp
      · have hrl : (hrow x[i].f0).length = hsize x[i].f0 := rfl
        cases hb : x[i].f0.isEmpty with
        | true =>
          have hn : x[i].f0 = [] := List.isEmpty_iff.1 hb
          rw [hb, hn, hd_nil] at hge
          have hg0 : g = 0 := by simp at hge; omega
          refine evp_d (fun _ => ?_) (fun hne => absurd (by rw [hrl, hn, hsize_nil]; rfl) hne)
          rw [w_succ (by omega)]
          have hx1 : (hd (x.take i)) + 1 ≤ hsize (x.take i) := hd_size _
          refine (sCut_done c x hs d (i + 1) (-1) (x.take i) true (by omega) (by omega) (by omega) (by omega)).p ⟨x.drop (i + 1), true, ?_, rfl⟩
          rw [e1, cut_leaf c g _ _ hb, if_pos hg0]
        | false =>
          rw [hb] at hge
          have hgl : g < hd x[i].f0 := by simp at hge; omega
          have hne : ¬ ((hrow x[i].f0).length : Int) = 1 := by
            intro h
            rw [hrl] at h
            have := hsize_len x[i].f0
            have h0 : x[i].f0 = [] := List.eq_nil_of_length_eq_zero (by omega)
            rw [h0] at hb; cases hb
          refine evp_d (fun h => absurd h hne) (fun _ => evp_gd (by omega) ?_)
          refine evp_bind (ih _ hm (by omega) g hgl) (fun p hp => ?_)
          obtain ⟨y, o, hc, rfl⟩ := hp
          have hy := (cut_size c hc9 _ _ hc).1
          have hyl := hsize_len y
          refine evp_gd (by rw [limE]; simp [brs]; omega) ?_
          rw [brs_snoc]
          have ecut : cut c (x.drop i) g = some (List.replicate (if o then c else 1) (.mk y) ++ x.drop (i + 1), false) := by
            rw [e1, cut_node c g _ _ hb, hc]
          have fin : ∀ m : Nat, m ≤ 9 → m = (if o then c else 1) → Ev (fun k => spec_l5Cut.l0 k (-1) (c : Int) (brs x) (brs (x.take i ++ List.replicate m (Hydra.mk y))) false (wr ((i : Int) + 1))) (hrow (x.take i ++ (List.replicate m (Hydra.mk y) ++ x.drop (i + 1))), false) := by
            intro m hm1 hm2
            rw [w_succ (by omega)]
            have := sCut_done c x hs d (i + 1) (-1) (x.take i ++ List.replicate m (Hydra.mk y)) false (by omega) (by
              have h1 := hsize_app (x.take i) (List.replicate m (Hydra.mk y))
              have h2 := hsize_rep m y []
              rw [List.append_nil, hsize_nil] at h2
              have h3 : m * hsize y ≤ 9 * hsize y := Nat.mul_le_mul_right _ hm1
              omega) (by omega) (by omega)
            rw [List.append_assoc] at this
            exact this
          cases o with
          | false =>
            have l1 : Ev (fun k => spec_l5Cut.l1 k (c : Int) (brs x) (brs (x.take i ++ [Hydra.mk y])) false (i : Int) (hrow y) false 1) (hrow (x.take i ++ (List.replicate 1 (Hydra.mk y) ++ x.drop (i + 1))), false) := by
              refine ev_succ (fun k => spec_l5Cut.l1_eq k _ _ _ _ _ _ _ _) ?_
              by_cases h1 : (1 : Int) < c
              · exact ev_dt h1 (ev_bf rfl (fin 1 (by omega) rfl))
              · exact ev_df h1 (fin 1 (by omega) rfl)
            exact l1.p ⟨_, _, ecut, rfl⟩
          | true =>
            have l1 : ∀ d j : Nat, j + d = c → 1 ≤ j → Ev (fun k => spec_l5Cut.l1 k (c : Int) (brs x) (brs (x.take i ++ List.replicate j (Hydra.mk y))) false (i : Int) (hrow y) true (j : Int)) (hrow (x.take i ++ (List.replicate c (Hydra.mk y) ++ x.drop (i + 1))), false) := by
              intro d
              induction d with
              | zero =>
                intro j hj _
                refine ev_succ (fun k => spec_l5Cut.l1_eq k _ _ _ _ _ _ _ _) (ev_df (by omega) ?_)
                rw [show j = c by omega]
                exact fin c hc9 rfl
              | succ d ihd =>
                intro j hj hj1
                refine ev_succ (fun k => spec_l5Cut.l1_eq k _ _ _ _ _ _ _ _) (ev_dt (by omega) (ev_bt rfl (ev_gd (by rw [limE]; simp [brs]; omega) ?_)))
                rw [brs_snoc, w_succ (by omega), List.append_assoc, ← List.replicate_succ']
                exact ihd (j + 1) (by omega) (by omega)
            exact (l1 (c - 1) 1 (by omega) (by omega)).p ⟨_, _, ecut, rfl⟩
  have := loop x.length 0 h (by omega) (by rw [List.drop_zero]; exact hh)
  refine evp_succ (fun k => spec_l5Cut.f_eq k _ _ _) (evp_bindv (branches_ev x hs) ?_)
  exact this
/-! A cut of a row. -/
def cutR (r : List Int) (h c : Int) : List Int × Bool := if HV r = true ∧ (1 ≤ c ∧ c ≤ 9) ∧ 0 ≤ h ∧ h < hd (ht r) then
    (match cut c.toNat (ht r) h.toNat with
      | some (y, _) => if hsize y ≤ 60 then (hrow y, true) else ([], false)
      | none => ([], false))
  else ([], false)
theorem cutR_valid {r : List Int} {h c : Int} (e : (cutR r h c).2 = true) : HV (cutR r h c).1 = true := by
  unfold cutR at e ⊢
  split
  · split
    · split
      · rename_i h1; rw [HV_row]; exact decide_eq_true h1
      · simp_all
    · simp_all
  · simp_all
theorem clip_ev (x : List Int) : Ev (fun k => slices_Clip_int_int.f k x) x := by
  refine ev_succ (fun k => slices_Clip_int_int.f_eq k _) (ev_gd (by omega) (ev_some.2 ?_))
  rw [Int.toNat_natCast, List.take_length]
theorem grown_ev (y : List Hydra) (hs : hsize y ≤ 1000000) : Ev (fun k => impl_grown.f k y) (if hsize y ≤ 60 then (hrow y, true) else ([], false)) := by
  refine ev_succ (fun k => impl_grown.f_eq k _) (ev_bind (row_ev y hs) ?_)
  have e : (hrow y).length = hsize y := rfl
  by_cases h : hsize y ≤ 60
  · rw [if_pos h]
    exact ev_df (by omega) (ev_bind (clip_ev _) (ev_some.2 rfl))
  · rw [if_neg h]
    exact ev_dt (by omega) (ev_some.2 rfl)
theorem iHCut_ev (r : List Int) (h c : Int) : Ev (fun k => impl_HydraCut.f k r h c) (cutR r h c) := by
  obtain ⟨x, h1, h2, h3⟩ := hydraOf_ev r
  refine ev_succ (fun k => impl_HydraCut.f_eq k _ _ _) (ev_bind h1 ?_)
  rw [h2]
  unfold cutR
  by_cases hc : HV r = true ∧ (1 ≤ c ∧ c ≤ 9) ∧ 0 ≤ h ∧ h < hd (ht r)
  · rw [if_pos hc]
    obtain ⟨hv, ⟨c1, c9⟩, h0, hh⟩ := hc
    have hs := (ht_fit hv).2.1
    have hpx := hd_size (ht r)
    rw [h3 hv]
    refine ev_nf hv (ev_df (by omega) (ev_df (by omega) (ev_df (by omega) (ev_bind (heads_ev _ (by omega)) (ev_df (by omega) ?_)))))
    have hcut := iCut_ev c.toNat (by omega) (by omega) (ht r) hs h.toNat true (by omega)
    have hsm := cut_some c.toNat (ht r) h.toNat
    rw [decide_eq_true (by omega)] at hsm
    rw [Int.toNat_of_nonneg h0, Int.toNat_of_nonneg (show 0 ≤ c by omega)] at hcut
    refine ev_bind hcut ?_
    cases hq : cut c.toNat (ht r) h.toNat with
    | none => rw [hq] at hsm; cases hsm
    | some q =>
      obtain ⟨y, o⟩ := q
      have := (cut_size c.toNat (by omega) _ _ hq).1
      exact ev_bind (grown_ev y (by omega)) (ev_some.2 rfl)
  · rw [if_neg hc]
    cases hv : HV r with
    | false => exact ev_nt rfl (ev_some.2 rfl)
    | true =>
      refine ev_nf rfl ?_
      by_cases c1 : c < 1
      · exact ev_dt c1 (ev_some.2 rfl)
      · refine ev_df c1 ?_
        by_cases c9 : c > 9
        · exact ev_dt c9 (ev_some.2 rfl)
        · refine ev_df c9 ?_
          by_cases h0 : h < 0
          · exact ev_dt h0 (ev_some.2 rfl)
          · refine ev_df h0 ?_
            rw [h3 hv]
            refine ev_bind (heads_ev _ (by have := (ht_fit hv).2.1; omega)) (ev_dt ?_ (ev_some.2 rfl))
            have : ¬ h < hd (ht r) := fun h1 => hc ⟨hv, ⟨by omega, by omega⟩, by omega, h1⟩
            omega
theorem sHCut_ev (r : List Int) (h c : Int) : Ev (fun k => spec_HydraCut.f k r h c) (cutR r h c) := by
  refine ev_succ (fun k => spec_HydraCut.f_eq k _ _ _) (ev_bind (hvalid_ev r) ?_)
  unfold cutR
  cases hv : HV r with
  | false => exact ev_nt rfl (ev_some.2 (by simp))
  | true =>
    have hs := (ht_fit hv).2.1
    have er := (ht_fit hv).1
    have hpx := hd_size (ht r)
    refine ev_nf rfl (ev_bind (l1In_ev _ _ _) ?_)
    by_cases hc : 1 ≤ c ∧ c ≤ 9
    · refine ev_nf (by simp; omega) (ev_bind (sHeads_ev r) (ev_bind (l1In_ev _ _ _) ?_))
      have eh : headsR r = hd (ht r) := by rw [headsR, if_pos hv]
      rw [eh, w64 (by omega) (by omega)]
      by_cases hh : 0 ≤ h ∧ h < hd (ht r)
      · refine ev_nf (by simp; omega) ?_
        rw [if_pos ⟨rfl, hc, hh⟩]
        obtain ⟨p, hp, y, o, hq, rfl⟩ := sCut_ev c.toNat (by omega) (by omega) (ht r) hs h.toNat (by omega)
        rw [← er, Int.toNat_of_nonneg hh.1, Int.toNat_of_nonneg (show 0 ≤ c by omega)] at hp
        refine ev_bind hp (ev_bind (hvalid_ev _) ?_)
        rw [hq]
        show Ev (fun k => br (!HV (hrow y)) _ _) (if hsize y ≤ 60 then (hrow y, true) else ([], false))
        rw [HV_row]
        by_cases hy : hsize y ≤ 60
        · rw [if_pos hy, decide_eq_true hy]; exact ev_nf rfl (ev_some.2 rfl)
        · rw [if_neg hy, decide_eq_false hy]; exact ev_nt rfl (ev_some.2 rfl)
      · refine ev_nt (by simp; omega) (ev_some.2 ?_)
        rw [if_neg (fun h => hh h.2.2)]
    · refine ev_nt (by simp; omega) (ev_some.2 ?_)
      rw [if_neg (fun h => hc h.2.1)]
/-! A run of cuts. -/
def runL (c : Int) : List Int → List Int → List Int × Bool
  | [], r => (r, true)
  | h :: t, r => if (cutR r h c).2 = true then runL c t (cutR r h c).1 else ([], false)
def runR (r cuts : List Int) (c : Int) : List Int × Bool := if HV r = true ∧ cuts.length ≤ 400 ∧ 1 ≤ c ∧ c ≤ 9 then runL c cuts r else ([], false)
theorem iRun_l0 (c : Int) (l : List Int) (hl : l.length ≤ 400) : ∀ (d i : Nat) (r : List Int), i + d = l.length → Ev (fun k => impl_HydraRun.l0 k c r l (l.length : Int) (i : Int)) (runL c (l.drop i) r) := by
  intro d
  induction d with
  | zero =>
    intro i r hi
    refine ev_succ (fun k => impl_HydraRun.l0_eq k _ _ _ _ _) (ev_df (by omega) (ev_some.2 ?_))
    rw [List.drop_eq_nil_of_le (by omega)]; rfl
  | succ d ih =>
    intro i r hi
    have hlt : i < l.length := by omega
    refine ev_succ (fun k => impl_HydraRun.l0_eq k _ _ _ _ _) (ev_dt (by omega) (ev_gd (by omega) ?_))
    rw [hget_at hlt, List.drop_eq_getElem_cons hlt, runL]
    refine ev_bind (iHCut_ev _ _ _) ?_
    cases hc : (cutR r l[i] c).2 with
    | false => exact ev_nt rfl (ev_some.2 (by simp))
    | true =>
      refine ev_nf rfl ?_
      rw [w_succ (by omega), if_pos rfl]
      exact ih (i + 1) _ (by omega)
theorem sRun_l0 (c : Int) (l : List Int) (hl : l.length ≤ 400) : ∀ (d i : Nat) (r : List Int), i + d = l.length → Ev (fun k => spec_HydraRun.l0 k l c r (i : Int)) (runL c (l.drop i) r) := by
  intro d
  induction d with
  | zero =>
    intro i r hi
    refine ev_succ (fun k => spec_HydraRun.l0_eq k _ _ _ _) (ev_df (by omega) (ev_some.2 ?_))
    rw [List.drop_eq_nil_of_le (by omega)]; rfl
  | succ d ih =>
    intro i r hi
    have hlt : i < l.length := by omega
    refine ev_succ (fun k => spec_HydraRun.l0_eq k _ _ _ _) (ev_dt (by omega) (ev_gd (by omega) ?_))
    rw [hget_at hlt, List.drop_eq_getElem_cons hlt, runL]
    refine ev_bind (sHCut_ev _ _ _) ?_
    cases hc : (cutR r l[i] c).2 with
    | false => exact ev_nt rfl (ev_some.2 (by simp))
    | true =>
      refine ev_nf rfl ?_
      rw [w_succ (by omega), if_pos rfl]
      exact ih (i + 1) _ (by omega)
theorem cloneI_ev (x : List Int) (h : x.length < lim) : Ev (fun k => slices_Clone_int_int.f k x) x := by
  have : (fun k => slices_Clone_int_int.f k x) = fun k => gate (decide (0 + x.length < lim)) (some x) := funext fun k => slices_Clone_int_int.f_eq k x
  rw [this]
  exact ev_gd (by omega) (ev_some.2 rfl)
theorem HV_len {r : List Int} (h : HV r = true) : 1 ≤ r.length ∧ r.length ≤ 60 := by
  obtain ⟨e, hs, _⟩ := ht_fit h
  have hl : r.length = hsize (ht r) := by rw [hsize, ← e]
  have := hsize_pos (ht r)
  omega
theorem iRun_ev (r cuts : List Int) (c : Int) : Ev (fun k => impl_HydraRun.f k r cuts c) (runR r cuts c) := by
  refine ev_succ (fun k => impl_HydraRun.f_eq k _ _ _) (ev_bind (implHV_ev r) ?_)
  unfold runR
  cases hv : HV r with
  | false => exact ev_nt rfl (ev_some.2 (by simp))
  | true =>
    have := HV_len hv
    refine ev_nf rfl ?_
    by_cases h4 : cuts.length ≤ 400
    · refine ev_df (by omega) ?_
      by_cases c1 : c < 1
      · exact ev_dt c1 (ev_some.2 (by rw [if_neg (by omega)]))
      · refine ev_df c1 ?_
        by_cases c9 : c > 9
        · exact ev_dt c9 (ev_some.2 (by rw [if_neg (by omega)]))
        · refine ev_df c9 (ev_bind (cloneI_ev r (by rw [limE]; omega)) ?_)
          rw [if_pos ⟨rfl, h4, by omega, by omega⟩]
          exact iRun_l0 c cuts h4 cuts.length 0 r (by omega)
    · exact ev_dt (by omega) (ev_some.2 (by rw [if_neg (by omega)]))
theorem sRun_ev (r cuts : List Int) (c : Int) : Ev (fun k => spec_HydraRun.f k r cuts c) (runR r cuts c) := by
  refine ev_succ (fun k => spec_HydraRun.f_eq k _ _ _) (ev_bind (hvalid_ev r) ?_)
  unfold runR
  cases hv : HV r with
  | false => exact ev_nt rfl (ev_some.2 (by simp))
  | true =>
    have := HV_len hv
    refine ev_nf rfl ?_
    by_cases h4 : cuts.length ≤ 400
    · refine ev_df (by omega) (ev_bind (l1In_ev _ _ _) ?_)
      by_cases hc : 1 ≤ c ∧ c ≤ 9
      · refine ev_nf (by simp; omega) (ev_gd (by rw [limE]; simp; omega) ?_)
        rw [if_pos ⟨rfl, h4, hc⟩]
        exact sRun_l0 c cuts h4 cuts.length 0 r (by omega)
      · exact ev_nt (by simp; omega) (ev_some.2 (by rw [if_neg (fun h => hc h.2.2)]))
    · exact ev_dt (by omega) (ev_some.2 (by rw [if_neg (by omega)]))
/-! A fight to the end. -/
def fightL (c : Int) : Nat → List Int → Int
  | 0, _ => -1
  | d + 1, r => if r.length = 1 then 400 - (d : Int) else if (cutR r (wr (headsR r - 1)) c).2 = true then fightL c d (cutR r (wr (headsR r - 1)) c).1 else -1
def fightR (r : List Int) (c : Int) : Int := if HV r = true ∧ 1 ≤ c ∧ c ≤ 9 then fightL c 401 r else -1
theorem sFight_l0 (c : Int) : ∀ (d : Nat) (r : List Int), d ≤ 401 → Ev (fun k => spec_HydraFight.l0 k r c (401 - (d : Int))) (fightL c d r) := by
  intro d
  induction d with
  | zero => intro r _; exact ev_succ (fun k => spec_HydraFight.l0_eq k _ _ _) (ev_df (by omega) (ev_some.2 rfl))
  | succ d ih =>
    intro r hd
    refine ev_succ (fun k => spec_HydraFight.l0_eq k _ _ _) (ev_dt (by omega) ?_)
    rw [fightL]
    by_cases h1 : r.length = 1
    · refine ev_dt (by omega) (ev_some.2 ?_)
      rw [if_pos h1]; omega
    · refine ev_df (by omega) (ev_bind (sHeads_ev r) (ev_bind (sHCut_ev _ _ _) ?_))
      rw [if_neg h1]
      cases hc : (cutR r (wr (headsR r - 1)) c).2 with
      | false => exact ev_nt rfl (ev_some.2 (by simp))
      | true =>
        refine ev_nf rfl ?_
        rw [if_pos rfl, w64 (x := 401 - ((d + 1 : Nat) : Int) + 1) (by omega) (by omega)]
        have := ih (cutR r (wr (headsR r - 1)) c).1 (by omega)
        rw [show (401 : Int) - ((d + 1 : Nat) : Int) + 1 = 401 - (d : Int) by omega]
        exact this
theorem HV_one {r : List Int} (h : HV r = true) : r.getD (0 : Int).toNat 0 = 0 ↔ r.length = 1 := by
  obtain ⟨e, hs, _⟩ := ht_fit h
  have hl : r.length = hsize (ht r) := by rw [hsize, ← e]
  have h0 : r.getD (0 : Int).toNat 0 = ((ht r).length : Int) := (congrArg (fun z => z.getD (0 : Int).toNat 0) e).trans rfl
  rw [h0, hl]
  constructor
  · intro h
    have : ht r = [] := List.eq_nil_of_length_eq_zero (by omega)
    rw [this, hsize_nil]
  · intro h
    have := hsize_len (ht r)
    omega
theorem iFight_l0 (c : Int) : ∀ (d : Nat) (r : List Int), d ≤ 401 → HV r = true → Ev (fun k => impl_HydraFight.l0 k r c (401 - (d : Int))) (fightL c d r) := by
  intro d
  induction d with
  | zero => intro r _ _; exact ev_succ (fun k => impl_HydraFight.l0_eq k _ _ _) (ev_df (by omega) (ev_some.2 rfl))
  | succ d ih =>
    intro r hd hv
    have := HV_len hv
    refine ev_succ (fun k => impl_HydraFight.l0_eq k _ _ _) (ev_dt (by omega) (ev_gd (by omega) ?_))
    rw [fightL]
    by_cases h1 : r.length = 1
    · refine ev_dt ((HV_one hv).2 h1) (ev_some.2 ?_)
      rw [if_pos h1]; omega
    · refine ev_df (fun h => h1 ((HV_one hv).1 h)) (ev_bind (iHeads_ev r) (ev_bind (iHCut_ev _ _ _) ?_))
      rw [if_neg h1]
      cases hc : (cutR r (wr (headsR r - 1)) c).2 with
      | false => exact ev_nt rfl (ev_some.2 (by simp))
      | true =>
        refine ev_nf rfl ?_
        rw [if_pos rfl, w64 (x := 401 - ((d + 1 : Nat) : Int) + 1) (by omega) (by omega)]
        have := ih (cutR r (wr (headsR r - 1)) c).1 (by omega) (cutR_valid hc)
        rw [show (401 : Int) - ((d + 1 : Nat) : Int) + 1 = 401 - (d : Int) by omega]
        exact this
theorem sFight_ev (r : List Int) (c : Int) : Ev (fun k => spec_HydraFight.f k r c) (fightR r c) := by
  refine ev_succ (fun k => spec_HydraFight.f_eq k _ _) (ev_bind (hvalid_ev r) ?_)
  unfold fightR
  cases hv : HV r with
  | false => exact ev_nt rfl (ev_some.2 (by simp))
  | true =>
    refine ev_nf rfl (ev_bind (l1In_ev _ _ _) ?_)
    by_cases hc : 1 ≤ c ∧ c ≤ 9
    · refine ev_nf (by simp; omega) ?_
      rw [if_pos ⟨rfl, hc⟩]
      exact sFight_l0 c 401 r (by omega)
    · exact ev_nt (by simp; omega) (ev_some.2 (by rw [if_neg (fun h => hc h.2)]))
theorem iFight_ev (r : List Int) (c : Int) : Ev (fun k => impl_HydraFight.f k r c) (fightR r c) := by
  refine ev_succ (fun k => impl_HydraFight.f_eq k _ _) (ev_bind (implHV_ev r) ?_)
  unfold fightR
  cases hv : HV r with
  | false => exact ev_nt rfl (ev_some.2 (by simp))
  | true =>
    refine ev_nf rfl ?_
    by_cases c1 : c < 1
    · exact ev_dt c1 (ev_some.2 (by rw [if_neg (by omega)]))
    · refine ev_df c1 ?_
      by_cases c9 : c > 9
      · exact ev_dt c9 (ev_some.2 (by rw [if_neg (by omega)]))
      · refine ev_df c9 ?_
        rw [if_pos ⟨rfl, by omega, by omega⟩]
        exact iFight_l0 c 401 r (by omega) hv
/-! Rows held against each other. -/
theorem eq_step {a b : List Int} {i : Nat} (h1 : i < a.length) (h2 : i < b.length) : decide (a.drop i = b.drop i) = (decide (a[i] = b[i]) && decide (a.drop (i + 1) = b.drop (i + 1))) := by
  have e : (a.drop i = b.drop i) ↔ (a[i] = b[i] ∧ a.drop (i + 1) = b.drop (i + 1)) := by
    have e1 := List.drop_eq_getElem_cons h1
    have e2 := List.drop_eq_getElem_cons h2
    constructor
    · intro h
      rw [e1, e2] at h
      exact ⟨(List.cons.inj h).1, (List.cons.inj h).2⟩
    · rintro ⟨h, h'⟩
      rw [e1, e2, h, h']
  rw [← Bool.decide_and]
  exact decide_eq_decide.2 e
theorem equal_ev (a b : List Int) (ha : a.length ≤ 1000000000) : Ev (fun k => slices_Equal_int_int.f k a b) (decide (a = b)) := by
  refine ev_succ (fun k => slices_Equal_int_int.f_eq k _ _) ?_
  by_cases hl : a.length = b.length
  · refine ev_nf (by simp [hl]) ?_
    have loop : ∀ d i : Nat, i + d = a.length → Ev (fun k => slices_Equal_int_int.l0 k a b (a.length : Int) (i : Int)) (decide (a.drop i = b.drop i)) := by
      intro d
      induction d with
      | zero =>
        intro i hi
        refine ev_succ (fun k => slices_Equal_int_int.l0_eq k _ _ _ _) (ev_df (by omega) (ev_some.2 ?_))
        rw [List.drop_eq_nil_of_le (by omega), List.drop_eq_nil_of_le (by omega)]; simp
      | succ d ih =>
        intro i hi
        refine ev_succ (fun k => slices_Equal_int_int.l0_eq k _ _ _ _) (ev_dt (by omega) (ev_gd (by omega) (ev_gd (by omega) ?_)))
        rw [hget_at (by omega : i < a.length), hget_at (by omega : i < b.length), eq_step (by omega) (by omega), w_succ (by omega)]
        cases h : decide (a[i] = b[i]) with
        | false => exact ev_nt rfl (ev_some.2 rfl)
        | true => exact ev_nf rfl (by rw [Bool.true_and]; exact ih (i + 1) (by omega))
    exact loop a.length 0 (by omega)
  · refine ev_nt (by simp; omega) (ev_some.2 ?_)
    exact (decide_eq_false (fun h => hl (by rw [h]))).symm
theorem same_ev (a b : List Int) (ha : a.length ≤ 1000000000) : Ev (fun k => spec_l1Same.f k a b) (decide (a = b)) := by
  refine ev_succ (fun k => spec_l1Same.f_eq k _ _) ?_
  have loop : ∀ d i : Nat, i + d = a.length → i ≤ b.length → Ev (fun k => spec_l1Same.l0 k a b (i : Int)) (decide (a.drop i = b.drop i)) := by
    intro d
    induction d with
    | zero =>
      intro i hi hb
      refine ev_succ (fun k => spec_l1Same.l0_eq k _ _ _) (ev_df (by omega) (ev_some.2 ?_))
      rw [List.drop_eq_nil_of_le (by omega : a.length ≤ i)]
      by_cases h : a.length = b.length
      · rw [List.drop_eq_nil_of_le (by omega)]; simp [h]
      · rw [decide_eq_false (by omega)]
        refine (decide_eq_false (fun h2 => h ?_)).symm
        have := congrArg List.length h2
        rw [List.length_drop] at this
        simp at this
        omega
    | succ d ih =>
      intro i hi hb
      refine ev_succ (fun k => spec_l1Same.l0_eq k _ _ _) (ev_dt (by omega) ?_)
      by_cases h : i < b.length
      · refine ev_dt (by omega) (ev_gd (by omega) (ev_gd (by omega) ?_))
        rw [hget_at (by omega : i < a.length), hget_at h, eq_step (by omega) h, w_succ (by omega)]
        cases h : decide (a[i] = b[i]) with
        | false => exact ev_nt rfl (ev_some.2 rfl)
        | true => exact ev_nf rfl (by rw [Bool.true_and]; exact ih (i + 1) (by omega) (by omega))
      · refine ev_df (by omega) (ev_some.2 ?_)
        rw [decide_eq_false (by omega), List.drop_eq_nil_of_le (by omega : b.length ≤ i)]
        refine (decide_eq_false (fun h2 => ?_)).symm
        have := congrArg List.length h2
        rw [List.length_drop] at this
        simp at this
        omega
  exact loop a.length 0 (by omega) (by omega)
/-! Battles. -/
def bvalR (b : Battle) : Bool := (runR b.f0 b.f2 b.f1).2 && decide ((runR b.f0 b.f2 b.f1).1 = b.f3)
theorem runL_len (c : Int) : ∀ (l r : List Int), r.length ≤ 60 → (runL c l r).1.length ≤ 60
  | [], r, h => h
  | x :: l, r, h => by
    rw [runL]
    split
    · rename_i hc
      exact runL_len c l _ (HV_len (cutR_valid hc)).2
    · simp
theorem runR_len (r l : List Int) (c : Int) : (runR r l c).1.length ≤ 60 := by
  unfold runR
  split
  · rename_i h; exact runL_len c l r (HV_len h.1).2
  · simp
theorem iBV_ev (b : Battle) : Ev (fun k => impl_BattleValid.f k b) (bvalR b) := by
  refine ev_succ (fun k => impl_BattleValid.f_eq k _) (ev_bind (iRun_ev _ _ _) ?_)
  unfold bvalR
  have := runR_len b.f0 b.f2 b.f1
  cases h : (runR b.f0 b.f2 b.f1).2 with
  | false => exact ev_bf rfl (ev_some.2 rfl)
  | true => exact ev_bt rfl (ev_bind (equal_ev _ _ (by omega)) (ev_some.2 (by simp)))
theorem sBV_ev (b : Battle) : Ev (fun k => spec_BattleValid.f k b) (bvalR b) := by
  refine ev_succ (fun k => spec_BattleValid.f_eq k _) (ev_bind (sRun_ev _ _ _) ?_)
  unfold bvalR
  have := runR_len b.f0 b.f2 b.f1
  cases h : (runR b.f0 b.f2 b.f1).2 with
  | false => exact ev_bf rfl (ev_some.2 rfl)
  | true => exact ev_bt rfl (ev_bind (same_ev _ _ (by omega)) (ev_some.2 (by simp)))
def leftR (b : Battle) : Int := if bvalR b = true then fightR b.f3 b.f1 else -1
theorem iBL_ev (b : Battle) : Ev (fun k => impl_BattleLeft.f k b) (leftR b) := by
  refine ev_succ (fun k => impl_BattleLeft.f_eq k _) (ev_bind (iBV_ev _) ?_)
  unfold leftR
  cases h : bvalR b with
  | false => exact ev_nt rfl (ev_some.2 (by simp))
  | true => exact ev_nf rfl (ev_bind (iFight_ev _ _) (ev_some.2 (by simp)))
theorem sBL_ev (b : Battle) : Ev (fun k => spec_BattleLeft.f k b) (leftR b) := by
  refine ev_succ (fun k => spec_BattleLeft.f_eq k _) (ev_bind (sBV_ev _) ?_)
  unfold leftR
  cases h : bvalR b with
  | false => exact ev_nt rfl (ev_some.2 (by simp))
  | true => exact ev_nf rfl (ev_bind (sFight_ev _ _) (ev_some.2 (by simp)))
/-! One act of a battle. -/
theorem runL_app (c : Int) : ∀ (a b r : List Int), runL c (a ++ b) r = if (runL c a r).2 = true then runL c b (runL c a r).1 else ([], false)
  | [], b, r => by simp [runL]
  | x :: a, b, r => by
    rw [List.cons_append, runL, runL]
    split
    · exact runL_app c a b _
    · simp
def lasts (c : Int) : Nat → List Int → Option (List Int)
  | 0, _ => some []
  | d + 1, r => if (cutR r (wr (headsR r - 1)) c).2 = true then (lasts c d (cutR r (wr (headsR r - 1)) c).1).map (fun hs => wr (headsR r - 1) :: hs) else none
theorem lasts_run (c : Int) : ∀ (d : Nat) (r hs : List Int), lasts c d r = some hs → (runL c hs r).2 = true ∧ hs.length = d
  | 0, r, hs, h => by simp [lasts] at h; subst h; simp [runL]
  | d + 1, r, hs, h => by
    rw [lasts] at h
    split at h
    · rename_i hc
      rw [Option.map_eq_some_iff] at h
      obtain ⟨hs', h1, rfl⟩ := h
      have := lasts_run c d _ hs' h1
      rw [runL, if_pos hc]
      exact ⟨this.1, by simp [this.2]⟩
    · cases h
def wth (b : Battle) (cuts : List Int) : Battle := ⟨b.f0, b.f1, cuts, (runR b.f0 cuts b.f1).1⟩
def didV (b : Battle) (a : TwoInts) : List Int × Bool :=
  if a.f0 = 0 then (if (cutR b.f3 a.f1 b.f1).2 = true ∧ b.f2.length < 400 then (b.f2 ++ [a.f1], true) else (b.f2, false))
  else if a.f0 = 1 then (if 1 ≤ a.f1 ∧ a.f1 ≤ (b.f2.length : Int) then (b.f2.take ((b.f2.length : Int) - a.f1).toNat, true) else (b.f2, false))
  else if a.f0 = 2 then (if 1 ≤ a.f1 ∧ a.f1 ≤ 400 - (b.f2.length : Int) then (match lasts b.f1 a.f1.toNat b.f3 with
      | some hs => (b.f2 ++ hs, true)
      | none => (b.f2, false)) else (b.f2, false))
  else (b.f2, false)
def emptyB : Battle := ⟨[], 0, [], []⟩
def doV (b : Battle) (a : TwoInts) : Battle × Bool := if bvalR b = true then (wth b (didV b a).1, (didV b a).2) else (emptyB, false)
theorem bval_spec {b : Battle} (h : bvalR b = true) : HV b.f0 = true ∧ b.f2.length ≤ 400 ∧ (1 ≤ b.f1 ∧ b.f1 ≤ 9) ∧ runL b.f1 b.f2 b.f0 = (b.f3, true) := by
  unfold bvalR at h
  rw [Bool.and_eq_true, decide_eq_true_eq] at h
  obtain ⟨h1, h2⟩ := h
  unfold runR at h1 h2
  split at h1
  · rename_i hc
    rw [if_pos hc] at h2
    exact ⟨hc.1, hc.2.1, hc.2.2, Prod.ext h2 h1⟩
  · cases h1
theorem didV_len {b : Battle} (h : bvalR b = true) (a : TwoInts) : (didV b a).1.length ≤ 400 := by
  obtain ⟨_, h2, _, _⟩ := bval_spec h
  unfold didV
  split
  · split
    · simp; omega
    · exact h2
  · split
    · split
      · simp; omega
      · exact h2
    · split
      · split
        · split
          · rename_i hs hl
            have := (lasts_run _ _ _ _ hl).2
            simp only [List.length_append]
            omega
          · exact h2
        · exact h2
      · exact h2
/-- A battle, taken apart. -/
def fl (b : Battle) : List Int × Int × List Int × List Int := (b.f0, b.f1, b.f2, b.f3)
def fl5 {α : Type} (x : Battle × α) : List Int × Int × List Int × List Int × α := (x.1.f0, x.1.f1, x.1.f2, x.1.f3, x.2)
theorem iWith_ev (b : Battle) (cuts : List Int) (h : b.f0.length ≤ 1000000) (h2 : cuts.length ≤ 1000000) : Ev (fun k => impl_withCuts.f k b cuts) (fl (wth b cuts)) :=
  ev_succ (fun k => impl_withCuts.f_eq k _ _) (ev_bind (iRun_ev _ _ _) (ev_bind (cloneI_ev _ (by rw [limE]; omega)) (ev_bind (cloneI_ev _ (by rw [limE]; omega)) (ev_some.2 rfl))))
theorem sWith_ev (b : Battle) (cuts : List Int) (hv : HV b.f0 = true) (hc : 1 ≤ b.f1 ∧ b.f1 ≤ 9) (h2 : cuts.length ≤ 1000000) : Ev (fun k => spec_l10With.f k b cuts) (wth b cuts) := by
  have := HV_len hv
  have hnew : Ev (fun k => spec_BattleNew.f k b.f0 b.f1) ⟨b.f0, b.f1, [], b.f0⟩ := by
    refine ev_succ (fun k => spec_BattleNew.f_eq k _ _) (ev_bind (hvalid_ev _) ?_)
    rw [hv]
    refine ev_nf rfl (ev_bind (l1In_ev _ _ _) (ev_nf (by simp; omega) (ev_gd (by rw [limE]; simp; omega) (ev_gd (by rw [limE]; simp; omega) (ev_some.2 rfl)))))
  exact ev_succ (fun k => spec_l10With.f_eq k _ _) (ev_bind hnew (ev_gd (by rw [limE]; simp; omega) (ev_bind (sRun_ev _ _ _) (ev_some.2 rfl))))
theorem iDid_ev (b : Battle) (a : TwoInts) (h : bvalR b = true) : Ev (fun k => impl_did.f k b a) (didV b a) := by
  obtain ⟨h1, h2, h3, h4⟩ := bval_spec h
  refine ev_succ (fun k => impl_did.f_eq k _ _) ?_
  unfold didV
  by_cases k0 : a.f0 = 0
  · refine ev_dt k0 (ev_bind (iHCut_ev _ _ _) ?_)
    rw [if_pos k0]
    cases hc : (cutR b.f3 a.f1 b.f1).2 with
    | false => exact ev_bf rfl (ev_some.2 (by simp))
    | true =>
      refine ev_bt rfl ?_
      by_cases hl : b.f2.length < 400
      · rw [if_pos ⟨rfl, hl⟩]
        exact ev_dt (by omega) (ev_succ (fun k => impl_did.j0_eq k _ _) (ev_bind (cloneI_ev _ (by rw [limE]; omega)) (ev_gd (by rw [limE]; simp; omega) (ev_some.2 rfl))))
      · rw [if_neg (fun h => hl h.2)]
        exact ev_df (by omega) (ev_some.2 rfl)
  · refine ev_df k0 ?_
    rw [if_neg k0]
    by_cases k1 : a.f0 = 1
    · refine ev_dt k1 ?_
      rw [if_pos k1]
      by_cases n1 : a.f1 ≥ 1
      · refine ev_dt n1 ?_
        by_cases n2 : a.f1 ≤ (b.f2.length : Int)
        · rw [if_pos ⟨n1, n2⟩]
          refine ev_dt n2 (ev_succ (fun k => impl_did.j1_eq k _ _) ?_)
          rw [w64 (by omega) (by omega)]
          exact ev_gd (by omega) (ev_some.2 rfl)
        · rw [if_neg (fun h => n2 h.2)]
          exact ev_df n2 (ev_some.2 rfl)
      · rw [if_neg (fun h => n1 h.1)]
        exact ev_df n1 (ev_some.2 rfl)
    · refine ev_df k1 ?_
      rw [if_neg k1]
      by_cases k2 : a.f0 = 2
      · refine ev_dt k2 (ev_bind (cloneI_ev _ (by rw [limE]; omega)) ?_)
        rw [if_pos k2, w64 (x := 400 - (b.f2.length : Int)) (by omega) (by omega)]
        by_cases n1 : a.f1 < 1
        · rw [if_neg (by omega)]
          exact ev_dt n1 (ev_some.2 rfl)
        · refine ev_df n1 ?_
          by_cases n2 : a.f1 > 400 - (b.f2.length : Int)
          · rw [if_neg (by omega)]
            exact ev_dt n2 (ev_some.2 rfl)
          · rw [if_pos ⟨by omega, by omega⟩]
            refine ev_df n2 ?_
            have loop : ∀ (d i : Nat) (r cuts : List Int), (i : Int) + d = a.f1 → cuts.length ≤ 400 + i → Ev (fun k => impl_did.l0 k b cuts r a.f1 (i : Int)) (match lasts b.f1 d r with
                | some hs => (cuts ++ hs, true)
                | none => (b.f2, false)) := by
              intro d
              induction d with
              | zero =>
                intro i r cuts hi hc
                exact ev_succ (fun k => impl_did.l0_eq k _ _ _ _ _) (ev_df (by omega) (ev_some.2 (by simp [lasts])))
              | succ d ih =>
                intro i r cuts hi hc
                refine ev_succ (fun k => impl_did.l0_eq k _ _ _ _ _) (ev_dt (by omega) (ev_bind (iHeads_ev r) (ev_bind (iHCut_ev _ _ _) ?_)))
                rw [lasts]
                cases hq : (cutR r (wr (headsR r - 1)) b.f1).2 with
                | false => exact ev_nt rfl (ev_some.2 (by simp))
                | true =>
                  refine ev_nf rfl (ev_gd (by rw [limE]; simp; omega) ?_)
                  have := ih (i + 1) (cutR r (wr (headsR r - 1)) b.f1).1 (cuts ++ [wr (headsR r - 1)]) (by omega) (by simp; omega)
                  rw [if_pos rfl, w_succ (by omega)]
                  cases hl : lasts b.f1 d (cutR r (wr (headsR r - 1)) b.f1).1 with
                  | none => rw [hl] at this; exact this
                  | some hs => rw [hl] at this; simp only [List.append_assoc, List.singleton_append] at this; exact this
            have := loop a.f1.toNat 0 b.f3 b.f2 (by omega) (by omega)
            exact this
      · rw [if_neg k2]
        exact ev_df k2 (ev_some.2 rfl)
theorem iDo_ev (b : Battle) (a : TwoInts) : Ev (fun k => impl_BattleDo.f k b a) (fl5 (doV b a)) := by
  refine ev_succ (fun k => impl_BattleDo.f_eq k _ _) (ev_bind (iBV_ev b) ?_)
  unfold doV
  cases h : bvalR b with
  | false => exact ev_nt rfl (ev_some.2 rfl)
  | true =>
    have h1 := HV_len (bval_spec h).1
    have h2 := didV_len h a
    exact ev_nf rfl (ev_bind (iDid_ev b a h) (ev_bind (iWith_ev b _ (by omega) (by omega)) (ev_some.2 rfl)))
theorem run_more {b : Battle} (h : bvalR b = true) (hs : List Int) : (runR b.f0 (b.f2 ++ hs) b.f1).2 = (decide (b.f2.length + hs.length ≤ 400) && (runL b.f1 hs b.f3).2) := by
  obtain ⟨h1, h2, h3, h4⟩ := bval_spec h
  unfold runR
  by_cases hl : b.f2.length + hs.length ≤ 400
  · rw [if_pos ⟨h1, by rw [List.length_append]; exact hl, h3⟩, runL_app, h4, if_pos rfl, decide_eq_true hl, Bool.true_and]
  · rw [if_neg (fun h => hl (by rw [← List.length_append]; exact h.2.1)), decide_eq_false hl, Bool.false_and]
theorem sDo_ev (b : Battle) (a : TwoInts) : Ev (fun k => spec_BattleDo.f k b a) (doV b a) := by
  refine ev_succ (fun k => spec_BattleDo.f_eq k _ _) (ev_bind (sBV_ev b) ?_)
  unfold doV
  cases h : bvalR b with
  | false => exact ev_nt rfl (ev_some.2 rfl)
  | true =>
    obtain ⟨h1, h2, h3, h4⟩ := bval_spec h
    have hl0 := HV_len h1
    refine ev_nf rfl (ev_bind (sWith_ev b _ h1 h3 (by omega)) (ev_gd (by rw [limE]; simp; omega) ?_))
    rw [List.nil_append, if_pos rfl]
    have j0 : ∀ (w : Battle) (hs : List Int), hs.length ≤ 1000 → Ev (fun k => spec_BattleDo.j0 k b w (wth b b.f2) (b.f2 ++ hs)) (if (runR b.f0 (b.f2 ++ hs) b.f1).2 = true then (wth b (b.f2 ++ hs), true) else (wth b b.f2, false)) := by
      intro w hs hh
      refine ev_succ (fun k => spec_BattleDo.j0_eq k _ _ _ _) (ev_bind (sRun_ev _ _ _) ?_)
      cases hr : (runR b.f0 (b.f2 ++ hs) b.f1).2 with
      | false => exact ev_nt rfl (ev_some.2 (by simp))
      | true => exact ev_nf rfl (ev_bind (sWith_ev b _ h1 h3 (by rw [List.length_append]; omega)) (ev_some.2 (by simp)))
    unfold didV
    by_cases k0 : a.f0 = 0
    · refine ev_dt k0 (ev_gd (by rw [limE]; simp; omega) ?_)
      have := j0 ⟨[], 0, [], []⟩ [a.f1] (by simp)
      refine ev_eq this ?_
      rw [run_more h, if_pos k0, runL]
      cases hc : (cutR b.f3 a.f1 b.f1).2 with
      | false => simp
      | true =>
        have hr : (runL b.f1 [] (cutR b.f3 a.f1 b.f1).1).2 = true := rfl
        by_cases hl : b.f2.length < 400
        · have hd : b.f2.length + [a.f1].length ≤ 400 := by simp; omega
          have hc2 : True ∧ b.f2.length < 400 := ⟨trivial, hl⟩
          simp only [decide_eq_true hd, if_true, hr, Bool.and_true, hl, and_self]
        · have hd : ¬ b.f2.length + [a.f1].length ≤ 400 := by simp; omega
          simp only [decide_eq_false hd, Bool.false_and, Bool.false_eq_true, if_false, hl, and_false]
    · refine ev_df k0 ?_
      rw [if_neg k0]
      have bad : a.f0 ≠ 2 → Ev (fun k => spec_BattleDo.j2 k b a ⟨[], 0, [], []⟩ (wth b b.f2) b.f2) (wth b b.f2, false) := fun hk => ev_succ (fun k => spec_BattleDo.j2_eq k _ _ _ _ _) (ev_df hk (ev_some.2 rfl))
      by_cases k1 : a.f0 = 1
      · refine ev_dt k1 (ev_bind (l1In_ev _ _ _) ?_)
        rw [if_pos k1]
        by_cases n1 : 1 ≤ a.f1 ∧ a.f1 ≤ (b.f2.length : Int)
        · rw [if_pos n1]
          refine ev_bt (by simp; omega) (ev_succ (fun k => spec_BattleDo.j1_eq k _ _ _ _) ?_)
          rw [w64 (by omega) (by omega)]
          exact ev_gd (by omega) (ev_bind (sWith_ev b _ h1 h3 (by simp; omega)) (ev_some.2 rfl))
        · rw [if_neg n1]
          exact ev_bf (by simp; omega) (bad (by omega))
      · refine ev_df k1 ?_
        rw [if_neg k1]
        by_cases k2 : a.f0 = 2
        · rw [if_pos k2]
          refine ev_succ (fun k => spec_BattleDo.j2_eq k _ _ _ _ _) (ev_dt k2 (ev_bind (l1In_ev _ _ _) ?_))
          by_cases n1 : 1 ≤ a.f1 ∧ a.f1 ≤ 400
          · refine ev_bt (by simp; omega) ?_
            have loop : ∀ (d i : Nat) (r hs : List Int), (i : Int) + d = a.f1 → hs.length = i → Ev (fun k => spec_BattleDo.l0 k b a ⟨[], 0, [], []⟩ (wth b b.f2) (b.f2 ++ hs) r (i : Int)) (match lasts b.f1 d r with
                | some hs' => if (runR b.f0 (b.f2 ++ (hs ++ hs')) b.f1).2 = true then (wth b (b.f2 ++ (hs ++ hs')), true) else (wth b b.f2, false)
                | none => (wth b b.f2, false)) := by
              intro d
              induction d with
              | zero =>
                intro i r hs hi hc
                refine ev_succ (fun k => spec_BattleDo.l0_eq k _ _ _ _ _ _ _) (ev_df (by omega) ?_)
                rw [lasts]
                simp only [List.append_nil]
                exact j0 _ hs (by omega)
              | succ d ih =>
                intro i r hs hi hc
                refine ev_succ (fun k => spec_BattleDo.l0_eq k _ _ _ _ _ _ _) (ev_dt (by omega) (ev_bind (sHeads_ev r) (ev_bind (sHCut_ev _ _ _) ?_)))
                rw [lasts]
                cases hq : (cutR r (wr (headsR r - 1)) b.f1).2 with
                | false => exact ev_nt rfl (ev_some.2 (by simp))
                | true =>
                  refine ev_nf rfl (ev_gd (by rw [limE]; simp; omega) ?_)
                  have := ih (i + 1) (cutR r (wr (headsR r - 1)) b.f1).1 (hs ++ [wr (headsR r - 1)]) (by omega) (by simp; omega)
                  rw [if_pos rfl, w_succ (by omega), List.append_assoc]
                  cases hl : lasts b.f1 d (cutR r (wr (headsR r - 1)) b.f1).1 with
                  | none => rw [hl] at this; exact this
                  | some hs' => rw [hl] at this; simp only [List.append_assoc, List.singleton_append] at this; exact this
            have := loop a.f1.toNat 0 b.f3 [] (by omega) rfl
            rw [List.append_nil] at this
            refine ev_eq this ?_
            cases hl : lasts b.f1 a.f1.toNat b.f3 with
            | none => simp
            | some hs =>
              obtain ⟨r1, r2⟩ := lasts_run _ _ _ _ hl
              simp only [List.nil_append]
              rw [run_more h, r1, Bool.and_true]
              by_cases hle : a.f1 ≤ 400 - (b.f2.length : Int)
              · have hd : b.f2.length + hs.length ≤ 400 := by omega
                have hc : 1 ≤ a.f1 ∧ a.f1 ≤ 400 - (b.f2.length : Int) := ⟨n1.1, hle⟩
                simp only [if_pos hc, decide_eq_true hd, if_true]
              · have hd : ¬ b.f2.length + hs.length ≤ 400 := by omega
                have hc : ¬ (1 ≤ a.f1 ∧ a.f1 ≤ 400 - (b.f2.length : Int)) := fun h => hle h.2
                simp only [if_neg hc, decide_eq_false hd, Bool.false_eq_true, if_false]
          · refine ev_bf (by simp; omega) (ev_some.2 ?_)
            rw [if_neg (by omega)]
        · rw [if_neg k2]
          exact bad k2
/-! Acts one after the other. -/
def actsV : List TwoInts → Battle → Int → Battle × Int
  | [], b, n => (b, n)
  | a :: t, b, n => if (doV b a).2 = true then actsV t (doV b a).1 (n + 1) else actsV t b n
def brunV (b : Battle) (l : List TwoInts) : Battle × Int := if bvalR b = true ∧ l.length ≤ 40 then actsV l (wth b b.f2) 0 else (emptyB, 0)
theorem tw_at {l : List TwoInts} {i : Nat} (h : i < l.length) : l.getD (i : Int).toNat (⟨0, 0⟩ : TwoInts) = l[i] := hget_at h _
theorem iBRun_ev (b : Battle) (l : List TwoInts) : Ev (fun k => impl_BattleRun.f k b l) (fl5 (brunV b l)) := by
  refine ev_succ (fun k => impl_BattleRun.f_eq k _ _) (ev_bind (iBV_ev b) ?_)
  unfold brunV
  cases h : bvalR b with
  | false => exact ev_nt rfl (ev_some.2 (by simp [emptyB, fl5]))
  | true =>
    obtain ⟨h1, h2, h3, h4⟩ := bval_spec h
    have hl0 := HV_len h1
    refine ev_nf rfl ?_
    by_cases hl : l.length ≤ 40
    · rw [if_pos ⟨rfl, hl⟩]
      refine ev_df (by omega) (ev_bind (iWith_ev b _ (by omega) (by omega)) ?_)
      have loop : ∀ (d i : Nat) (x : Battle) (n : Int), i + d = l.length → 0 ≤ n → n ≤ i → Ev (fun k => impl_BattleRun.l0 k x.f0 x.f1 x.f2 x.f3 [] 0 [] [] n l (l.length : Int) (i : Int)) (fl5 (actsV (l.drop i) x n)) := by
        intro d
        induction d with
        | zero =>
          intro i x n hi _ _
          refine ev_succ (fun k => impl_BattleRun.l0_eq k _ _ _ _ _ _ _ _ _ _ _ _) (ev_df (by omega) (ev_some.2 ?_))
          rw [List.drop_eq_nil_of_le (by omega)]; rfl
        | succ d ih =>
          intro i x n hi hn hn2
          have hlt : i < l.length := by omega
          refine ev_succ (fun k => impl_BattleRun.l0_eq k _ _ _ _ _ _ _ _ _ _ _ _) (ev_dt (by omega) (ev_gd (by omega) ?_))
          rw [tw_at hlt, List.drop_eq_getElem_cons hlt, actsV, w_succ (by omega), w64 (x := n + 1) (by omega) (by omega)]
          refine ev_bind (iDo_ev x _) ?_
          cases hd : (doV x l[i]).2 with
          | false =>
            refine ev_bf (show (fl5 (doV x l[i])).2.2.2.2 = false from hd) ?_
            rw [if_neg (by simp)]
            exact ih (i + 1) x _ (by omega) hn (by omega)
          | true =>
            refine ev_bt (show (fl5 (doV x l[i])).2.2.2.2 = true from hd) ?_
            rw [if_pos rfl]
            exact ih (i + 1) (doV x l[i]).1 _ (by omega) (by omega) (by omega)
      exact loop l.length 0 (wth b b.f2) 0 (by omega) (by omega) (by omega)
    · rw [if_neg (fun h => hl h.2)]
      exact ev_dt (by omega) (ev_some.2 rfl)
theorem sBRun_ev (b : Battle) (l : List TwoInts) : Ev (fun k => spec_BattleRun.f k b l) (brunV b l) := by
  refine ev_succ (fun k => spec_BattleRun.f_eq k _ _) (ev_bind (sBV_ev b) ?_)
  unfold brunV
  cases h : bvalR b with
  | false => exact ev_nt rfl (ev_some.2 (by simp [emptyB]))
  | true =>
    obtain ⟨h1, h2, h3, h4⟩ := bval_spec h
    have hl0 := HV_len h1
    refine ev_nf rfl ?_
    by_cases hl : l.length ≤ 40
    · rw [if_pos ⟨rfl, hl⟩]
      refine ev_df (by omega) (ev_bind (sWith_ev b _ h1 h3 (by omega)) ?_)
      have loop : ∀ (d i : Nat) (x : Battle) (n : Int), i + d = l.length → 0 ≤ n → n ≤ i → Ev (fun k => spec_BattleRun.l0 k l ⟨[], 0, [], []⟩ x n (i : Int)) (actsV (l.drop i) x n) := by
        intro d
        induction d with
        | zero =>
          intro i x n hi _ _
          refine ev_succ (fun k => spec_BattleRun.l0_eq k _ _ _ _ _) (ev_df (by omega) (ev_some.2 ?_))
          rw [List.drop_eq_nil_of_le (by omega)]; rfl
        | succ d ih =>
          intro i x n hi hn hn2
          have hlt : i < l.length := by omega
          refine ev_succ (fun k => spec_BattleRun.l0_eq k _ _ _ _ _) (ev_dt (by omega) (ev_gd (by omega) ?_))
          rw [tw_at hlt, List.drop_eq_getElem_cons hlt, actsV, w_succ (by omega), w64 (x := n + 1) (by omega) (by omega)]
          refine ev_bind (sDo_ev x _) ?_
          cases hd : (doV x l[i]).2 with
          | false =>
            refine ev_bf rfl ?_
            rw [if_neg (by simp)]
            exact ih (i + 1) _ _ (by omega) hn (by omega)
          | true =>
            refine ev_bt rfl ?_
            rw [if_pos rfl]
            exact ih (i + 1) _ _ (by omega) (by omega) (by omega)
      exact loop l.length 0 _ 0 (by omega) (by omega) (by omega)
    · rw [if_neg (fun h => hl h.2)]
      exact ev_dt (by omega) (ev_some.2 rfl)
/-! What a battle stays. -/
theorem runL_valid (c : Int) : ∀ (l r : List Int), HV r = true → (runL c l r).2 = true → HV (runL c l r).1 = true
  | [], r, h, _ => h
  | x :: l, r, h, h2 => by
    rw [runL] at h2 ⊢
    split at h2
    · rename_i hc
      rw [if_pos hc]
      exact runL_valid c l _ (cutR_valid hc) h2
    · cases h2
theorem runL_take (c : Int) (l r : List Int) (n : Nat) (h : (runL c l r).2 = true) : (runL c (l.take n) r).2 = true := by
  rw [← List.take_append_drop n l, runL_app] at h
  split at h
  · assumption
  · cases h
theorem wth_valid {b : Battle} {cuts : List Int} (hv : HV b.f0 = true) (hc : 1 ≤ b.f1 ∧ b.f1 ≤ 9) (hl : cuts.length ≤ 400) (hr : (runL b.f1 cuts b.f0).2 = true) : bvalR (wth b cuts) = true := by
  unfold bvalR wth runR
  simp only
  rw [if_pos ⟨hv, hl, hc⟩, hr]
  simp
theorem wth_self {b : Battle} (h : bvalR b = true) : wth b b.f2 = b := by
  obtain ⟨h1, h2, h3, h4⟩ := bval_spec h
  unfold wth runR
  rw [if_pos ⟨h1, h2, h3⟩, h4]
theorem didV_run {b : Battle} (h : bvalR b = true) (a : TwoInts) : (runL b.f1 (didV b a).1 b.f0).2 = true := by
  obtain ⟨h1, h2, h3, h4⟩ := bval_spec h
  have h0 : (runL b.f1 b.f2 b.f0).2 = true := by rw [h4]
  have more : ∀ hs, (runL b.f1 hs b.f3).2 = true → (runL b.f1 (b.f2 ++ hs) b.f0).2 = true := by
    intro hs hh
    rw [runL_app, if_pos h0, h4]
    exact hh
  unfold didV
  split
  · split
    · rename_i hc
      exact more _ (by rw [runL, if_pos hc.1]; rfl)
    · exact h0
  · split
    · split
      · exact runL_take _ _ _ _ h0
      · exact h0
    · split
      · split
        · split
          · rename_i hs hl
            exact more _ (lasts_run _ _ _ _ hl).1
          · exact h0
        · exact h0
      · exact h0
theorem doV_valid {b : Battle} (h : bvalR b = true) (a : TwoInts) : bvalR (doV b a).1 = true := by
  obtain ⟨h1, h2, h3, h4⟩ := bval_spec h
  unfold doV
  rw [if_pos h]
  exact wth_valid h1 h3 (didV_len h a) (didV_run h a)
theorem doV_no {b : Battle} (h : bvalR b = true) {a : TwoInts} (hn : (doV b a).2 = false) : (doV b a).1 = b := by
  unfold doV at hn ⊢
  rw [if_pos h] at hn ⊢
  have hd : (didV b a).1 = b.f2 := by
    simp only at hn
    revert hn
    unfold didV
    split
    · split <;> simp
    · split
      · split <;> simp
      · split
        · split
          · split <;> simp
          · simp
        · simp
  simp only
  rw [hd, wth_self h]
/-! Copies of rows of numbers, and rows held against each other. -/
theorem toIntS_l0 (l : List Int) (hl : l.length ≤ 1000000000) : ∀ d i : Nat, i + d = l.length → Ev (fun k => laws_toIntS.l0 k l (l.take i ++ List.replicate d 0) (i : Int)) l := by
  intro d
  induction d with
  | zero =>
    intro i hi
    refine ev_succ (fun k => laws_toIntS.l0_eq k _ _ _) (ev_df (by omega) (ev_some.2 ?_))
    rw [List.take_of_length_le (by omega)]; simp
  | succ d ih =>
    intro i hi
    have hlt : i < l.length := by omega
    have hlen : (l.take i ++ List.replicate (d + 1) (0 : Int)).length = l.length := by simp; omega
    refine ev_succ (fun k => laws_toIntS.l0_eq k _ _ _) (ev_dt (by omega) (ev_gd (by omega) (ev_gd (by rw [hlen]; omega) (ev_gd (by rw [hlen]; omega) ?_))))
    rw [get_nat hlt, w_succ (by omega), Int.toNat_natCast]
    have e : (l.take i ++ List.replicate (d + 1) (0 : Int)).set i l[i] = l.take (i + 1) ++ List.replicate d 0 := by
      rw [List.set_append_right _ _ (by simp; omega), List.length_take, Nat.min_eq_left (by omega), Nat.sub_self, List.replicate_succ, List.set_cons_zero, ← List.take_append_getElem hlt, List.append_assoc]
      rfl
    rw [e]
    exact ih (i + 1) (by omega)
theorem toIntS_ev (l : List Int) (hl : l.length ≤ 1000000000) : Ev (fun k => laws_toIntS.f k l) l := by
  refine ev_succ (fun k => laws_toIntS.f_eq k l) (ev_gd ⟨by omega, by rw [Int.toNat_natCast, limE]; omega, rfl⟩ ?_)
  have := toIntS_l0 l hl l.length 0 (by omega)
  rw [Int.toNat_natCast]
  simpa using this
theorem eqIntS_l0 (l : List Int) (hl : l.length < 9223372036854775807) : ∀ d i : Nat, i + d = l.length → Ev (fun k => laws_eqIntS.l0 k l l (i : Int)) true := by
  intro d
  induction d with
  | zero =>
    intro i hi
    exact ev_succ (fun k => laws_eqIntS.l0_eq k _ _ _) (ev_df (by omega) (ev_some.2 rfl))
  | succ d ih =>
    intro i hi
    refine ev_succ (fun k => laws_eqIntS.l0_eq k _ _ _) (ev_dt (by omega) (ev_gd (by omega) (ev_gd (by omega) (ev_nf (by simp) ?_))))
    rw [w_succ (by omega)]
    exact ih (i + 1) (by omega)
theorem eqIntS_self (l : List Int) (hl : l.length < 9223372036854775807) : Ev (fun k => laws_eqIntS.f k l l) true :=
  ev_succ (fun k => laws_eqIntS.f_eq k _ _) (ev_nf (by simp) (eqIntS_l0 l hl l.length 0 (by omega)))
/-! Rows written over with numbers that follow each other, from any number on. -/
def mkF (c : Int) (n : Nat) : List Int := (List.range n).map fun (i : Nat) => c + (i : Int)
theorem mkF_len (c : Int) (n : Nat) : (mkF c n).length = n := by simp [mkF]
theorem mkF_at {c : Int} {n i : Nat} (h : i < n) : (mkF c n)[i]'(by rw [mkF_len]; exact h) = c + (i : Int) := by simp [mkF]
theorem mkF_succ (c : Int) (n : Nat) : mkF c (n + 1) = mkF c n ++ [c + (n : Int)] := by simp [mkF, List.range_succ]
theorem markc_ev (c : Int) (h0 : 0 ≤ c) (h1 : c ≤ 1000000000) (l : List Int) (hl : l.length ≤ 1000000000) : Ev (fun k => laws_markIntS.f k l c) (c + (l.length : Int), mkF c l.length) := by
  have loop : ∀ d i : Nat, i + d = l.length → Ev (fun k => laws_markIntS.l0 k (mkF c i ++ l.drop i) (c + (i : Int)) (i : Int)) (c + (l.length : Int), mkF c l.length) := by
    intro d
    induction d with
    | zero =>
      intro i hi
      have hlen : (mkF c i ++ l.drop i).length = l.length := by rw [List.length_append, mkF_len, List.length_drop]; omega
      refine ev_succ (fun k => laws_markIntS.l0_eq k _ _ _) (ev_df (by rw [hlen]; omega) (ev_some.2 ?_))
      rw [List.drop_eq_nil_of_le (by omega), List.append_nil, show i = l.length by omega]
    | succ d ih =>
      intro i hi
      have hlen : (mkF c i ++ l.drop i).length = l.length := by rw [List.length_append, mkF_len, List.length_drop]; omega
      have hlt : i < l.length := by omega
      refine ev_succ (fun k => laws_markIntS.l0_eq k _ _ _) (ev_dt (by rw [hlen]; omega) (ev_gd (by rw [hlen]; omega) (ev_gd (by rw [hlen]; omega) ?_)))
      have e : (mkF c i ++ l.drop i).set (i : Int).toNat (c + (i : Int)) = mkF c (i + 1) ++ l.drop (i + 1) := by
        rw [Int.toNat_natCast, List.set_append_right _ _ (by rw [mkF_len]; omega), mkF_len, Nat.sub_self, List.drop_eq_getElem_cons hlt, List.set_cons_zero, mkF_succ, List.append_assoc]
        rfl
      rw [e, w_succ (by omega), w64 (by omega) (by omega)]
      have := ih (i + 1) (by omega)
      rw [show c + (i : Int) + 1 = c + ((i + 1 : Nat) : Int) by omega]
      exact this
  have := loop l.length 0 (by omega)
  refine ev_succ (fun k => laws_markIntS.f_eq k _ _) ?_
  simpa [mkF] using this
theorem heldc_ev (c : Int) (h0 : 0 ≤ c) (h1 : c ≤ 1000000000) (n : Nat) (hn : n ≤ 1000000000) : Ev (fun k => laws_heldIntS.f k (mkF c n) c) (c + (n : Int)) := by
  have loop : ∀ d i : Nat, i + d = n → Ev (fun k => laws_heldIntS.l0 k (mkF c n) (c + (i : Int)) (i : Int)) (c + (n : Int)) := by
    intro d
    induction d with
    | zero =>
      intro i hi
      refine ev_succ (fun k => laws_heldIntS.l0_eq k _ _ _) (ev_df (by rw [mkF_len]; omega) (ev_some.2 (by omega)))
    | succ d ih =>
      intro i hi
      have hlt : i < (mkF c n).length := by rw [mkF_len]; omega
      refine ev_succ (fun k => laws_heldIntS.l0_eq k _ _ _) (ev_dt (by omega) (ev_gd (by omega) (ev_nf ?_ ?_)))
      · rw [get_nat hlt, mkF_at (by omega)]; exact decide_eq_true rfl
      · rw [w_succ (by omega), w64 (by omega) (by omega), show c + (i : Int) + 1 = c + ((i + 1 : Nat) : Int) by omega]
        exact ih (i + 1) (by omega)
  have := loop n 0 (by omega)
  refine ev_succ (fun k => laws_heldIntS.f_eq k _ _) ?_
  simpa using this
/-! A battle's rows written over, and looked at again. -/
def BS (b : Battle) : Prop := b.f0.length ≤ 1048576 ∧ b.f2.length ≤ 1048576 ∧ b.f3.length ≤ 1048576
def tot (b : Battle) : Int := 1 + (b.f0.length : Int) + (b.f2.length : Int) + (b.f3.length : Int)
def mk0 (b : Battle) : List Int := mkF 1 b.f0.length
def mk2 (b : Battle) : List Int := mkF (1 + (b.f0.length : Int)) b.f2.length
def mk3 (b : Battle) : List Int := mkF (1 + (b.f0.length : Int) + (b.f2.length : Int)) b.f3.length
theorem tot_pos (b : Battle) : 1 ≤ tot b := by unfold tot; omega
theorem markB_ev (b : Battle) (h : BS b) : Ev (fun k => laws_markBattle.f k b.f0 b.f1 b.f2 b.f3 1) (tot b, mk0 b, mk2 b, mk3 b) := by
  obtain ⟨h0, h2, h3⟩ := h
  exact ev_succ (fun k => laws_markBattle.f_eq k _ _ _ _ _) (ev_bind (markc_ev 1 (by omega) (by omega) _ (by omega)) (ev_bind (markc_ev _ (by simp only; omega) (by simp only; omega) _ (by omega)) (ev_bind (markc_ev _ (by simp only; omega) (by simp only; omega) _ (by omega)) (ev_some.2 rfl))))
theorem heldB_ev (b : Battle) (c : Int) (h : BS b) : Ev (fun k => laws_heldBattle.f k (⟨mk0 b, c, mk2 b, mk3 b⟩ : Battle) 1) (tot b) := by
  obtain ⟨h0, h2, h3⟩ := h
  refine ev_succ (fun k => laws_heldBattle.f_eq k _ _) (ev_bind (heldc_ev 1 (by omega) (by omega) _ (by omega)) (ev_df (by omega) (ev_bind (heldc_ev _ (by omega) (by omega) _ (by omega)) (ev_df (by omega) (ev_bind (heldc_ev _ (by omega) (by omega) _ (by omega)) (ev_df (by omega) (ev_some.2 rfl)))))))
theorem eqBB (b : Battle) (h : BS b) : Ev (fun k => laws_eqBattle.f k b b) true :=
  ev_succ (fun k => laws_eqBattle.f_eq k _ _) (ev_bind (eqIntS_self _ (by have := h.1; omega)) (ev_nf rfl (ev_nf (by simp) (ev_bind (eqIntS_self _ (by have := h.2.1; omega)) (ev_nf rfl (ev_bind (eqIntS_self _ (by have := h.2.2; omega)) (ev_nf rfl (ev_some.2 rfl))))))))
/-! The size of a row of numbers. -/
theorem szIntS_ev (l : List Int) (n : Int) (h0 : 0 ≤ n) (h1 : n ≤ 1048576) (hl : l.length ≤ maxLen) : Ev (fun k => laws_szIntS.f k l n) (if (l.length : Int) ≤ n then n - l.length else -1) := by
  have hm : maxLen ≤ 9223372036854775807 := by decide
  refine ev_succ (fun k => laws_szIntS.f_eq k _ _) ?_
  rw [w64 (by omega) (by omega)]
  by_cases h : (l.length : Int) ≤ n
  · rw [if_pos h]; exact ev_df (by omega) (ev_some.2 rfl)
  · rw [if_neg h]; exact ev_dt (by omega) (ev_some.2 rfl)
/-! Battles copied (by their parts), sized; what a battle that follows from its cuts keeps. -/
def BatOk (b : Battle) : Prop := (b.f0.length ≤ maxLen ∧ ∀ x ∈ b.f0, (Lit.int .i64 x).wf = true) ∧ (Lit.int .i64 b.f1).wf = true ∧ (b.f2.length ≤ maxLen ∧ ∀ x ∈ b.f2, (Lit.int .i64 x).wf = true) ∧ (b.f3.length ≤ maxLen ∧ ∀ x ∈ b.f3, (Lit.int .i64 x).wf = true)
theorem szB_ev (b : Battle) (h : BatOk b) : EvP (fun k => laws_szBattle.f k b 1048576) (fun r => r ≤ 1048576 ∧ (0 ≤ r → BS b)) := by
  unfold BS
  obtain ⟨⟨h0, _⟩, _, ⟨h2, _⟩, h3, _⟩ := h
  refine evp_succ (fun k => laws_szBattle.f_eq k _ _) (evp_bindv (szIntS_ev _ _ (by omega) (by omega) h0) ?_)
  by_cases c0 : (b.f0.length : Int) ≤ 1048576
  · rw [if_pos c0]
    refine evp_d (fun h => absurd h (by omega)) (fun _ => evp_bindv (szIntS_ev _ _ (by omega) (by omega) h2) ?_)
    by_cases c2 : (b.f2.length : Int) ≤ 1048576 - b.f0.length
    · rw [if_pos c2]
      refine evp_d (fun h => absurd h (by omega)) (fun _ => evp_bindv (szIntS_ev _ _ (by omega) (by omega) h3) ?_)
      by_cases c3 : (b.f3.length : Int) ≤ 1048576 - b.f0.length - b.f2.length
      · rw [if_pos c3]
        exact evp_d (fun h => absurd h (by omega)) (fun _ => evp_some ⟨by omega, fun _ => by omega⟩)
      · rw [if_neg c3]
        exact evp_d (fun _ => evp_some ⟨by omega, fun h => by omega⟩) (fun h => absurd (by omega) h)
    · rw [if_neg c2]
      exact evp_d (fun _ => evp_some ⟨by omega, fun h => by omega⟩) (fun h => absurd (by omega) h)
  · rw [if_neg c0]
    exact evp_d (fun _ => evp_some ⟨by omega, fun h => by omega⟩) (fun h => absurd (by omega) h)
theorem toB_ev (b : Battle) (h : BS b) : Ev (fun k => laws_toBattle.f k b) (fl b) := by
  obtain ⟨h0, h2, h3⟩ := h
  exact ev_succ (fun k => laws_toBattle.f_eq k _) (ev_bind (toIntS_ev _ (by omega)) (ev_bind (toIntS_ev _ (by omega)) (ev_bind (toIntS_ev _ (by omega)) (ev_some.2 rfl))))
theorem bs_valid {b : Battle} (h : bvalR b = true) : BS b := by
  obtain ⟨h1, h2, h3, h4⟩ := bval_spec h
  have hv := runL_valid b.f1 b.f2 b.f0 h1 (by rw [h4])
  rw [h4] at hv
  have a := HV_len h1
  have c := HV_len hv
  exact ⟨by omega, by omega, by simp only at c; omega⟩
theorem bs_empty : BS emptyB := ⟨by simp [emptyB], by simp [emptyB], by simp [emptyB]⟩
theorem bs_do (b : Battle) (a : TwoInts) : BS (doV b a).1 := by
  by_cases h : bvalR b = true
  · exact bs_valid (doV_valid h a)
  · unfold doV
    rw [if_neg h]
    exact bs_empty
theorem acts_valid : ∀ (l : List TwoInts) (b : Battle) (n : Int), bvalR b = true → bvalR (actsV l b n).1 = true
  | [], b, n, h => h
  | a :: l, b, n, h => by
    rw [actsV]
    split
    · exact acts_valid l _ _ (doV_valid h a)
    · exact acts_valid l b n h
theorem bs_run (b : Battle) (l : List TwoInts) : BS (brunV b l).1 := by
  unfold brunV
  split
  · rename_i h
    rw [wth_self h.1]
    exact bs_valid (acts_valid _ _ _ h.1)
  · exact bs_empty
/-! Rows of acts copied, sized, held against themselves, written over. -/
theorem toA_ev (a : TwoInts) : Ev (fun k => laws_toAct.f k a) a := ev_succ (fun k => laws_toAct.f_eq k _) (ev_some.2 rfl)
theorem szAS_ev (l : List TwoInts) (n : Int) (h0 : 0 ≤ n) (h1 : n ≤ 1048576) (hl : l.length ≤ maxLen) : EvP (fun k => laws_szActS.f k l n) (fun r => r ≤ 1048576 ∧ (0 ≤ r → l.length ≤ 1048576)) := by
  have hm : maxLen ≤ 9223372036854775807 := by decide
  refine evp_succ (fun k => laws_szActS.f_eq k _ _) ?_
  rw [w64 (by omega) (by omega)]
  exact evp_d (fun h => evp_some ⟨by omega, fun h => by omega⟩) (fun h => evp_some ⟨by omega, fun _ => by omega⟩)
theorem toAS_ev (a : List TwoInts) (hl : a.length ≤ 1048576) : Ev (fun k => laws_toActS.f k a) a := by
  have loop : ∀ d i : Nat, i + d = a.length → Ev (fun k => laws_toActS.l0 k a (a.take i ++ List.replicate d (⟨0, 0⟩ : TwoInts)) (i : Int)) a := by
    intro d
    induction d with
    | zero =>
      intro i hi
      refine ev_succ (fun k => laws_toActS.l0_eq k _ _ _) (ev_df (by omega) (ev_some.2 ?_))
      rw [List.take_of_length_le (by omega)]; simp
    | succ d ih =>
      intro i hi
      have hlt : i < a.length := by omega
      have hlen : (a.take i ++ List.replicate (d + 1) (⟨0, 0⟩ : TwoInts)).length = a.length := by simp; omega
      refine ev_succ (fun k => laws_toActS.l0_eq k _ _ _) (ev_dt (by omega) (ev_gd (by omega) ?_))
      rw [tw_at hlt]
      refine ev_bind (toA_ev _) (ev_gd (by rw [hlen]; omega) (ev_gd (by rw [hlen]; omega) ?_))
      have e : (a.take i ++ List.replicate (d + 1) (⟨0, 0⟩ : TwoInts)).set (i : Int).toNat a[i] = a.take (i + 1) ++ List.replicate d ⟨0, 0⟩ := by
        rw [Int.toNat_natCast, List.set_append_right _ _ (by simp; omega), List.length_take, Nat.min_eq_left (by omega), Nat.sub_self, List.replicate_succ, List.set_cons_zero, ← List.take_append_getElem hlt, List.append_assoc]
        rfl
      rw [e, w_succ (by omega)]
      exact ih (i + 1) (by omega)
  refine ev_succ (fun k => laws_toActS.f_eq k a) (ev_gd ⟨by omega, by rw [Int.toNat_natCast, limE]; omega, rfl⟩ ?_)
  have := loop a.length 0 (by omega)
  rw [Int.toNat_natCast]
  simpa using this
theorem eqA_self (a : TwoInts) : Ev (fun k => laws_eqAct.f k a a) true := ev_succ (fun k => laws_eqAct.f_eq k _ _) (ev_nf (by simp) (ev_nf (by simp) (ev_some.2 rfl)))
theorem eqAS_self (a : List TwoInts) (hl : a.length ≤ 1048576) : Ev (fun k => laws_eqActS.f k a a) true := by
  have loop : ∀ d i : Nat, i + d = a.length → Ev (fun k => laws_eqActS.l0 k a a (i : Int)) true := by
    intro d
    induction d with
    | zero => intro i hi; exact ev_succ (fun k => laws_eqActS.l0_eq k _ _ _) (ev_df (by omega) (ev_some.2 rfl))
    | succ d ih =>
      intro i hi
      have hlt : i < a.length := by omega
      refine ev_succ (fun k => laws_eqActS.l0_eq k _ _ _) (ev_dt (by omega) (ev_gd (by omega) (ev_gd (by omega) ?_)))
      rw [w_succ (by omega)]
      exact ev_bind (eqA_self _) (ev_nf rfl (ih (i + 1) (by omega)))
  exact ev_succ (fun k => laws_eqActS.f_eq k _ _) (ev_nf (by simp) (loop a.length 0 (by omega)))
theorem markAS_ev (l : List TwoInts) (c : Int) (h0 : 0 ≤ c) (h1 : c ≤ 1000000000) (hl : l.length ≤ 1048576) : EvP (fun k => laws_markActS.f k l c) (fun r => 0 ≤ r.1) := by
  have loop : ∀ (d i : Nat) (x : List TwoInts) (n : Int), i + d = x.length → x.length ≤ 1048576 → 0 ≤ n → n ≤ 1000000000 + 2 * i → EvP (fun k => laws_markActS.l0 k x n (i : Int)) (fun r => 0 ≤ r.1) := by
    intro d
    induction d with
    | zero => intro i x n hi hx hn hn2; exact evp_succ (fun k => laws_markActS.l0_eq k _ _ _) (evp_d (fun h => absurd h (by omega)) (fun _ => evp_some hn))
    | succ d ih =>
      intro i x n hi hx hn hn2
      refine evp_succ (fun k => laws_markActS.l0_eq k _ _ _) (evp_d (fun _ => evp_gd (by omega) (evp_gd (by omega) (evp_gd (by rw [List.length_set]; omega) (evp_gd (by rw [List.length_set]; omega) ?_)))) (fun h => absurd (by omega) h))
      rw [w_succ (by omega), w64 (x := n + 1) (by omega) (by omega), w64 (x := n + 1 + 1) (by omega) (by omega)]
      exact ih (i + 1) _ _ (by simp only [List.length_set]; omega) (by simp only [List.length_set]; omega) (by omega) (by omega)
  exact evp_succ (fun k => laws_markActS.f_eq k _ _) (loop l.length 0 l c (by omega) hl h0 (by omega))
/-! The law. -/
theorem pure_FnExactBattleRun (b : Battle) (l : List TwoInts) (h : BatOk b) (h2 : l.length ≤ maxLen) (h3 : ∀ a ∈ l, (Lit.int .i64 a.f0).wf = true ∧ (Lit.int .i64 a.f1).wf = true) : ∃ k, laws_FnExactBattleRun.f k b l = some true := by
  refine evp_true (evp_succ (fun k => laws_FnExactBattleRun.f_eq k b l) (evp_bind (szB_ev b h) (fun r hr => evp_d (fun _ => evp_some rfl) (fun h0 => ?_))))
  have hl := hr.2 (by omega)
  refine evp_bind (szAS_ev l r (by omega) hr.1 h2) (fun q hq => evp_d (fun _ => evp_some rfl) (fun q0 => ?_))
  have ha := hq.2 (by omega)
  have hb := bs_run b l
  have hp := tot_pos (brunV b l).1
  have hp0 := tot_pos b
  have hp1 : tot b ≤ 1000000000 := by unfold tot; unfold BS at hl; omega
  have tb := toB_ev b hl
  have ta := toAS_ev l ha
  refine evp_bindv tb (evp_bindv ta (evp_bindv (sBRun_ev b l) (evp_bindv tb (evp_bindv ta (evp_bindv (iBRun_ev b l) (evp_bindv (eqBB _ hb) (evp_b (fun h => by simp at h) (fun _ => evp_b (fun h => by simp [fl5] at h) (fun _ => ?_)))))))))
  refine evp_bindv tb (evp_bindv (eqBB b hl) (evp_b (fun h => by simp at h) (fun _ => evp_bindv ta (evp_bindv (eqAS_self l ha) (evp_b (fun h => by simp at h) (fun _ => ?_))))))
  refine evp_bindv (markB_ev b hl) (evp_bind (markAS_ev l _ (by simp only; omega) (by simp only; omega) ha) (fun m hm => evp_d (fun h => absurd h (by omega)) (fun _ => ?_)))
  refine Ev.p ?_ rfl
  refine ev_bind (eqBB _ hb) (ev_nf rfl (ev_nf (by simp [fl5]) ?_))
  refine ev_bind (markB_ev _ hb) (ev_bind (heldB_ev _ _ hb) (ev_df (by omega) (ev_nf (by simp) (ev_bind tb (ev_bind ta (ev_bind (iBRun_ev b l) (ev_bind (eqBB _ hb) (ev_nf rfl (ev_nf (by simp [fl5]) (ev_bind (heldB_ev _ _ hb) (ev_df (by omega) (ev_nf (by simp) (ev_some.2 rfl)))))))))))))
end Go.Proofs.Ytigeaijocajnhaa.EPure
