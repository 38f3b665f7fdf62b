/-
  The pure statement of FnExactBattleSay: its first half.
-/
import Derived.Test.YtkgpkalclblhbaaGreatDoorQE
import Derived.ProofKit
import Derived.IntWalk
namespace Go.Proofs.YtkgpkalclblhbaaGreatDoor.EPure
open Go Go.RowKit Go.Proofs.YtkgpkalclblhbaaGreatDoor.Eng
set_option linter.unusedVariables false
set_option linter.unusedSimpArgs false

/-! Rounds without counting them. -/
def Ev {α : Type} (g : Nat → Option α) (r : α) : Prop := ∃ K, ∀ k, K ≤ k → g k = some r
theorem ev_some {α : Type} {a r : α} : Ev (fun _ => some a) r ↔ a = r := by
  constructor
  · rintro ⟨K, h⟩
    exact Option.some.inj (h K (Nat.le_refl _))
  · rintro rfl
    exact ⟨0, fun _ _ => rfl⟩
theorem ev_bind {α β : Type} {g : Nat → Option α} {f : Nat → α → Option β} {a : α} (h : Ev g a) {r : β} (h2 : Ev (fun k => f k a) r) : Ev (fun k => (g k).bind (f k)) r := by
  obtain ⟨K, h⟩ := h
  obtain ⟨L, h2⟩ := h2
  exact ⟨max K L, fun k hk => by simp only [h k (by omega), Option.bind_some]; exact h2 k (by omega)⟩
theorem ev_succ {α : Type} {g f : Nat → Option α} {r : α} (h : ∀ k, g (k + 1) = f k) (e : Ev f r) : Ev g r := by
  obtain ⟨K, e⟩ := e
  refine ⟨K + 1, fun k hk => ?_⟩
  obtain ⟨j, rfl⟩ : ∃ j, k = j + 1 := ⟨k - 1, by omega⟩
  rw [h]
  exact e j (by omega)
theorem ev_true {g : Nat → Option Bool} (h : Ev g true) : ∃ k, g k = some true := by
  obtain ⟨K, h⟩ := h
  exact ⟨K, h K (Nat.le_refl _)⟩
theorem ev_gate {α : Type} {c : Bool} {g : Nat → Option α} {r : α} (hc : c = true) (e : Ev g r) : Ev (fun k => gate c (g k)) r := by
  subst hc
  exact e
theorem ev_gd {α : Type} {p : Prop} [Decidable p] {g : Nat → Option α} {r : α} (hp : p) (e : Ev g r) : Ev (fun k => gate (decide p) (g k)) r := ev_gate (decide_eq_true hp) e
theorem ev_bt {α : Type} {c : Bool} {g h : Nat → Option α} {r : α} (hc : c = true) (e : Ev g r) : Ev (fun k => br c (g k) (h k)) r := by
  subst hc
  exact e
theorem ev_bf {α : Type} {c : Bool} {g h : Nat → Option α} {r : α} (hc : c = false) (e : Ev h r) : Ev (fun k => br c (g k) (h k)) r := by
  subst hc
  exact e
theorem ev_dt {α : Type} {p : Prop} [Decidable p] {g h : Nat → Option α} {r : α} (hp : p) (e : Ev g r) : Ev (fun k => br (decide p) (g k) (h k)) r := ev_bt (decide_eq_true hp) e
theorem ev_df {α : Type} {p : Prop} [Decidable p] {g h : Nat → Option α} {r : α} (hp : ¬ p) (e : Ev h r) : Ev (fun k => br (decide p) (g k) (h k)) r := ev_bf (decide_eq_false hp) e
theorem ev_nt {α : Type} {c : Bool} {g h : Nat → Option α} {r : α} (hc : c = false) (e : Ev g r) : Ev (fun k => br (!c) (g k) (h k)) r := by
  subst hc
  exact e
theorem ev_nf {α : Type} {c : Bool} {g h : Nat → Option α} {r : α} (hc : c = true) (e : Ev h r) : Ev (fun k => br (!c) (g k) (h k)) r := by
  subst hc
  exact e
/-! What comes of some rounds, with a property. -/
def EvP {α : Type} (g : Nat → Option α) (Q : α → Prop) : Prop := ∃ r, Ev g r ∧ Q r
theorem Ev.p {α : Type} {g : Nat → Option α} {Q : α → Prop} {r : α} (h : Ev g r) (q : Q r) : EvP g Q := ⟨r, h, q⟩
theorem evp_some {α : Type} {Q : α → Prop} {r : α} (q : Q r) : EvP (fun _ => some r) Q := ⟨r, ev_some.2 rfl, q⟩
theorem evp_bind {α β : Type} {g : Nat → Option α} {f : Nat → α → Option β} {P : α → Prop} {Q : β → Prop} (h : EvP g P) (e : ∀ a, P a → EvP (fun k => f k a) Q) : EvP (fun k => (g k).bind (f k)) Q := by
  obtain ⟨a, h1, p⟩ := h
  obtain ⟨r, h2, q⟩ := e a p
  exact ⟨r, ev_bind h1 h2, q⟩
theorem evp_bindv {α β : Type} {g : Nat → Option α} {f : Nat → α → Option β} {a : α} {Q : β → Prop} (h : Ev g a) (e : EvP (fun k => f k a) Q) : EvP (fun k => (g k).bind (f k)) Q := by
  obtain ⟨r, h2, q⟩ := e
  exact ⟨r, ev_bind h h2, q⟩
theorem evp_succ {α : Type} {g f : Nat → Option α} {Q : α → Prop} (h : ∀ k, g (k + 1) = f k) (e : EvP f Q) : EvP g Q := by
  obtain ⟨r, h2, q⟩ := e
  exact ⟨r, ev_succ h h2, q⟩
theorem evp_mono {α : Type} {g : Nat → Option α} {P Q : α → Prop} (h : EvP g P) (hq : ∀ a, P a → Q a) : EvP g Q := by
  obtain ⟨r, h2, p⟩ := h
  exact ⟨r, h2, hq r p⟩
theorem evp_gd {α : Type} {p : Prop} [Decidable p] {g : Nat → Option α} {Q : α → Prop} (hp : p) (e : EvP g Q) : EvP (fun k => gate (decide p) (g k)) Q := by
  obtain ⟨r, h, q⟩ := e
  exact ⟨r, ev_gd hp h, q⟩
theorem evp_gn {α : Type} {p : Prop} [Decidable p] {g : Nat → Option α} {Q : α → Prop} (hp : ¬ p) (e : EvP g Q) : EvP (fun k => gate (!decide p) (g k)) Q := by
  obtain ⟨r, h, q⟩ := e
  exact ⟨r, ev_gate (by simp [hp]) h, q⟩
theorem evp_b {α : Type} {c : Bool} {g h : Nat → Option α} {Q : α → Prop} (e1 : c = true → EvP g Q) (e2 : c = false → EvP h Q) : EvP (fun k => br c (g k) (h k)) Q := by
  cases c with
  | true => exact e1 rfl
  | false => exact e2 rfl
theorem evp_d {α : Type} {p : Prop} [Decidable p] {g h : Nat → Option α} {Q : α → Prop} (e1 : p → EvP g Q) (e2 : ¬ p → EvP h Q) : EvP (fun k => br (decide p) (g k) (h k)) Q :=
  evp_b (fun h => e1 (of_decide_eq_true h)) (fun h => e2 (of_decide_eq_false h))
theorem evp_true {g : Nat → Option Bool} (h : EvP g (fun b => b = true)) : ∃ k, g k = some true := by
  obtain ⟨r, h, rfl⟩ := h
  exact ev_true h
theorem wr_eq (x : Int) : wr x = wrap64 x := by unfold wrap64; exact IntKind.wrap_i64 x
theorem w64 {x : Int} (h0 : -9223372036854775808 ≤ x) (h1 : x ≤ 9223372036854775807) : wr x = x := by
  rw [wr_eq]
  unfold wrap64
  omega
theorem w_succ {i : Nat} (h : i < 9223372036854775807) : wr ((i : Int) + 1) = ((i + 1 : Nat) : Int) := by rw [w64] <;> omega
theorem get_nat {l : List Int} {i : Nat} (h : i < l.length) : l.getD (i : Int).toNat 0 = l[i] := by
  rw [Int.toNat_natCast, List.getD_eq_getElem?_getD, List.getElem?_eq_getElem h]
  rfl
theorem limE : lim = 1099511627776 := rfl
theorem ev_const {α : Type} {x : Option α} {r : α} (h : x = some r) : Ev (fun _ => x) r := ⟨0, fun _ _ => h⟩
theorem get_at {α : Type} {l : List α} {i : Nat} {d : α} (h : i < l.length) : l.getD (i : Int).toNat d = l[i] := by
  rw [Int.toNat_natCast, List.getD_eq_getElem?_getD, List.getElem?_eq_getElem h]
  rfl
theorem ev_eq {α : Type} {g : Nat → Option α} {a b : α} (h : Ev g a) (e : a = b) : Ev g b := e ▸ h
theorem l1In_ev (a b c : Int) : Ev (fun k => spec_l1In.f k a b c) (decide (a ≥ b) && decide (a ≤ c)) := by
  refine ev_succ (fun k => spec_l1In.f_eq k a b c) ?_
  by_cases h : a ≥ b
  · exact ev_dt h (ev_some.2 (by simp [h]))
  · exact ev_df h (ev_some.2 (by simp [h]))
/-! Hydras read off rows. -/
def tk : Nat → Nat → List Int → Option (List Hydra × List Int)
  | _, 0, l => some ([], l)
  | 0, _ + 1, _ => none
  | _ + 1, _ + 1, [] => none
  | f + 1, n + 1, x :: l => if x < 0 ∨ x > 60 then none else match tk f x.toNat l with
    | none => none
    | some (hs, r) => match tk f n r with
      | none => none
      | some (gs, r') => some (Hydra.mk hs :: gs, r')
theorem tk_len : ∀ (f n : Nat) (l : List Int) {hs : List Hydra} {r : List Int}, tk f n l = some (hs, r) → r.length + n ≤ l.length ∧ r = l.drop (l.length - r.length) ∧ hs.length = n
  | f, 0, l, hs, r, h => by
    unfold tk at h
    simp only [Option.some.injEq, Prod.mk.injEq] at h
    obtain ⟨rfl, rfl⟩ := h
    simp
  | 0, n + 1, l, hs, r, h => by simp [tk] at h
  | f + 1, n + 1, [], hs, r, h => by simp [tk] at h
  | f + 1, n + 1, x :: l, hs, r, h => by
    simp only [tk] at h
    split at h
    · cases h
    · split at h
      · cases h
      · rename_i hs1 r1 h1
        split at h
        · cases h
        · rename_i gs r2 h2
          simp only [Option.some.injEq, Prod.mk.injEq] at h
          obtain ⟨rfl, rfl⟩ := h
          obtain ⟨a1, a2, a3⟩ := tk_len f _ l h1
          obtain ⟨b1, b2, b3⟩ := tk_len f _ r1 h2
          refine ⟨by simp <;> omega, ?_, by simp [b3]⟩
          rw [a2, List.drop_drop] at b2
          rw [List.length_drop] at b2
          have e : l.length - r1.length + (l.length - (l.length - r1.length) - r2.length) + 1 = (x :: l).length - r2.length := by simp <;> omega
          rw [← e, List.drop_succ_cons]
          exact b2
theorem tk_fuel : ∀ (f g n : Nat) (l : List Int), l.length ≤ f → l.length ≤ g → tk f n l = tk g n l
  | f, g, 0, l, _, _ => by simp [tk]
  | 0, 0, n + 1, l, _, _ => rfl
  | 0, g + 1, n + 1, l, h, _ => by
    obtain rfl : l = [] := List.eq_nil_of_length_eq_zero (by omega)
    simp [tk]
  | f + 1, 0, n + 1, l, _, h => by
    obtain rfl : l = [] := List.eq_nil_of_length_eq_zero (by omega)
    simp [tk]
  | f + 1, g + 1, n + 1, [], _, _ => by simp [tk]
  | f + 1, g + 1, n + 1, x :: l, hf, hg => by
    simp only [List.length_cons] at hf hg
    simp only [tk]
    split
    · rfl
    · rw [tk_fuel f g x.toNat l (by omega) (by omega)]
      cases h : tk g x.toNat l with
      | none => rfl
      | some p =>
        obtain ⟨hs, r⟩ := p
        have := (tk_len g _ l h).1
        simp only
        rw [tk_fuel f g n r (by omega) (by omega)]
def tko (acc : List Hydra) : Option (List Hydra × List Int) → List Hydra × List Int × Bool
  | some (hs, r) => (acc ++ hs, r, true)
  | none => ([], [], false)
/-- One hydra at the head of a row. -/
def tk1 (l : List Int) : Option (List Hydra × List Int) := match l with
  | [] => none
  | x :: l' => if x < 0 ∨ x > 60 then none else tk l'.length x.toNat l'
theorem tk_step {f n : Nat} {l : List Int} (hf : l.length ≤ f) : tk f (n + 1) l = match tk1 l with
    | none => none
    | some (hs, r) => match tk r.length n r with
      | none => none
      | some (gs, r') => some (Hydra.mk hs :: gs, r') := by
  cases l with
  | nil => cases f <;> simp [tk, tk1]
  | cons x l =>
    obtain ⟨f, rfl⟩ : ∃ g, f = g + 1 := ⟨f - 1, by simp at hf; omega⟩
    simp only [List.length_cons] at hf
    simp only [tk, tk1]
    split
    · rfl
    · rw [tk_fuel f l.length x.toNat l (by omega) (by omega)]
      cases h : tk l.length x.toNat l with
      | none => rfl
      | some p =>
        obtain ⟨hs, r⟩ := p
        have := (tk_len _ _ l h).1
        simp only
        rw [tk_fuel f r.length n r (by omega) (by omega)]
theorem htake_ev : ∀ (N : Nat) (l : List Int), l.length ≤ N → Ev (fun k => impl_takeHydra.f k l) (tko [] (tk1 l)) := by
  intro N
  induction N with
  | zero =>
    intro l hl
    obtain rfl : l = [] := List.eq_nil_of_length_eq_zero (by omega)
    exact ev_succ (fun k => impl_takeHydra.f_eq k _) (ev_dt (by simp) (ev_some.2 rfl))
  | succ N ih =>
    have loop : ∀ (d i : Nat) (l : List Int) (acc : List Hydra), l.length ≤ N → i + d ≤ 60 → acc.length ≤ i → Ev (fun k => impl_takeHydra.l0 k l acc ((i + d : Nat) : Int) (i : Int)) (tko acc (tk l.length d l)) := by
      intro d
      induction d with
      | zero =>
        intro i l acc hl hi ha
        refine ev_succ (fun k => impl_takeHydra.l0_eq k _ _ _ _) (ev_df (by omega) (ev_some.2 ?_))
        simp [tk, tko]
      | succ d ihd =>
        intro i l acc hl hi ha
        refine ev_succ (fun k => impl_takeHydra.l0_eq k _ _ _ _) (ev_dt (by omega) (ev_bind (ih l hl) ?_))
        rw [tk_step (Nat.le_refl _)]
        cases h : tk1 l with
        | none => exact ev_nt rfl (ev_some.2 rfl)
        | some p =>
          obtain ⟨hs, r⟩ := p
          have hr : r.length < l.length := by
            cases l with
            | nil => simp [tk1] at h
            | cons x l =>
              simp only [tk1] at h
              split at h
              · cases h
              · have := (tk_len _ _ l h).1; simp; omega
          refine ev_nf rfl (ev_gd (by simp [limE]; omega) ?_)
          rw [w_succ (by omega)]
          have := ihd (i + 1) r (acc ++ [Hydra.mk hs]) (by omega) (by omega) (by simp <;> omega)
          rw [show i + 1 + d = i + (d + 1) by omega] at this
          simp only [tko, List.nil_append]
          revert this
          cases tk r.length d r with
          | none => exact id
          | some q => intro this; simpa [tko] using this
    intro l hl
    refine ev_succ (fun k => impl_takeHydra.f_eq k _) ?_
    cases l with
    | nil => exact ev_dt (by simp) (ev_some.2 rfl)
    | cons x l =>
      refine ev_df (by simp <;> omega) (ev_gd (by simp <;> omega) ?_)
      have hx : (x :: l).getD (0 : Int).toNat 0 = x := rfl
      rw [hx]
      by_cases h0 : x < 0
      · exact ev_dt h0 (ev_some.2 (by simp [tk1, h0, tko]))
      · refine ev_df h0 (ev_gd (by simp <;> omega) ?_)
        by_cases h1 : x > 60
        · exact ev_dt h1 (ev_some.2 (by simp [tk1, h1, tko]))
        · refine ev_df h1 (ev_gd (by simp <;> omega) (ev_gd (by simp <;> omega) ?_))
          have hl2 : ((x :: l).take ((x :: l).length : Int).toNat).drop (1 : Int).toNat = l := by
            rw [Int.toNat_natCast, List.take_length]
            rfl
          rw [hl2]
          have := loop x.toNat 0 l [] (by simp at hl; omega) (by omega) (by simp)
          have e : ((0 + x.toNat : Nat) : Int) = x := by omega
          rw [e] at this
          have e2 : tk1 (x :: l) = tk l.length x.toNat l := by simp only [tk1]; rw [if_neg (by omega)]
          rw [e2]
          exact this
/-- Where the hydra at a place ends. -/
def endO (n : Nat) : Option (List Hydra × List Int) → Int
  | some (_, r) => (n : Int) - r.length
  | none => -1
theorem hend_ev (h : List Int) (hh : h.length < 9000000000000000000) : ∀ (N p : Nat), h.length ≤ p + N → p ≤ h.length → Ev (fun k => spec_l5End.f k h (p : Int)) (endO h.length (tk1 (h.drop p))) := by
  intro N
  induction N with
  | zero =>
    intro p hN hp
    refine ev_succ (fun k => spec_l5End.f_eq k h _) (ev_dt (by omega) (ev_some.2 ?_))
    rw [List.drop_eq_nil_of_le (by omega)]
    rfl
  | succ N ih =>
    have loop : ∀ (d i p : Nat) (_ : h.length ≤ p + N) (_ : p ≤ h.length) (_ : i + d ≤ 60), Ev (fun k => spec_l5End.l0 k h (p : Int) ((i + d : Nat) : Int) (i : Int)) (endO h.length (tk (h.drop p).length d (h.drop p))) := by
      intro d
      induction d with
      | zero =>
        intro i p hN hp hi
        refine ev_succ (fun k => spec_l5End.l0_eq k _ _ _ _) (ev_df (by omega) (ev_some.2 ?_))
        simp only [tk, endO, List.length_drop]
        omega
      | succ d ihd =>
        intro i p hN hp hi
        refine ev_succ (fun k => spec_l5End.l0_eq k _ _ _ _) (ev_dt (by omega) (ev_dt (by omega) (ev_bind (ih p hN hp) ?_)))
        rw [tk_step (Nat.le_refl _), w_succ (by omega)]
        cases ht : tk1 (h.drop p) with
        | none =>
          simp only [endO]
          by_cases hd : ((i + 1 : Nat) : Int) < ((i + (d + 1) : Nat) : Int)
          · exact ev_succ (fun k => spec_l5End.l0_eq k _ _ _ _) (ev_dt hd (ev_df (by omega) (ev_some.2 rfl)))
          · exact ev_succ (fun k => spec_l5End.l0_eq k _ _ _ _) (ev_df hd (ev_some.2 rfl))
        | some q =>
          obtain ⟨hs, r⟩ := q
          have hr : r.length < (h.drop p).length ∧ r = (h.drop p).drop ((h.drop p).length - r.length) := by
            cases hl : h.drop p with
            | nil => rw [hl] at ht; simp [tk1] at ht
            | cons x l =>
              rw [hl] at ht
              simp only [tk1] at ht
              split at ht
              · cases ht
              · obtain ⟨a1, a2, _⟩ := tk_len _ _ l ht
                refine ⟨by simp <;> omega, ?_⟩
                have e : (x :: l).length - r.length = (l.length - r.length) + 1 := by simp <;> omega
                rw [e, List.drop_succ_cons]
                exact a2
          have hlen := hr.1
          rw [List.length_drop] at hlen
          have hr2 := hr.2
          rw [List.drop_drop, List.length_drop] at hr2
          have ep : p + (h.length - p - r.length) = h.length - r.length := by omega
          rw [ep] at hr2
          simp only [endO]
          have e1 : (h.length : Int) - (r.length : Int) = ((h.length - r.length : Nat) : Int) := by omega
          rw [e1]
          have := ihd (i + 1) (h.length - r.length) (by omega) (by omega) (by omega)
          rw [show i + 1 + d = i + (d + 1) by omega, ← hr2] at this
          revert this
          cases tk r.length d r with
          | none => exact id
          | some q => exact id
    intro p hN hp
    refine ev_succ (fun k => spec_l5End.f_eq k h _) ?_
    by_cases hlt : p < h.length
    · refine ev_df (by omega) (ev_gd (by omega) (ev_bind (l1In_ev _ _ _) ?_))
      rw [get_nat hlt, List.drop_eq_getElem_cons hlt]
      simp only [tk1]
      by_cases hx : h[p] < 0 ∨ h[p] > 60
      · rw [if_pos hx]
        refine ev_nt ?_ (ev_some.2 rfl)
        rcases hx with hx | hx
        · simp; omega
        · simp; omega
      · rw [if_neg hx]
        refine ev_nf (by simp <;> omega) (ev_gd (by omega) ?_)
        rw [w_succ (by omega)]
        have := loop h[p].toNat 0 (p + 1) (by omega) (by omega) (by omega)
        have e : ((0 + h[p].toNat : Nat) : Int) = h[p] := by omega
        rw [e] at this
        exact this
    · refine ev_dt (by omega) (ev_some.2 ?_)
      rw [List.drop_eq_nil_of_le (by omega)]
      rfl
/-! Hydras, their rows, heads and cuts. -/
mutual
def hR : Hydra → List Int
  | .mk l => (l.length : Int) :: hF l
def hF : List Hydra → List Int
  | [] => []
  | b :: x => hR b ++ hF x
end
theorem hF_nil : hF [] = [] := by rw [hF]
theorem hF_cons (b : Hydra) (x : List Hydra) : hF (b :: x) = hR b ++ hF x := by rw [hF]
def hrow (x : List Hydra) : List Int := (x.length : Int) :: hF x
theorem hR_eq (b : Hydra) : hR b = hrow b.f0 := by cases b; rw [hR]; rfl
theorem hF_app (x y : List Hydra) : hF (x ++ y) = hF x ++ hF y := by
  induction x with
  | nil => rw [hF_nil]; rfl
  | cons b x ih => rw [List.cons_append, hF_cons, hF_cons, ih, List.append_assoc]
def hsize (x : List Hydra) : Nat := (hrow x).length
theorem hsize_eq (x : List Hydra) : hsize x = 1 + (hF x).length := by simp [hsize, hrow, Nat.add_comm]
theorem hsize_nil : hsize [] = 1 := by rw [hsize_eq, hF_nil]; rfl
theorem hsize_cons (b : Hydra) (x : List Hydra) : hsize (b :: x) = hsize b.f0 + hsize x := by
  rw [hsize_eq, hF_cons, hR_eq, List.length_append, hsize_eq x]
  show 1 + (hsize b.f0 + (hF x).length) = _
  omega
theorem hsize_pos (x : List Hydra) : 1 ≤ hsize x := by rw [hsize_eq]; omega
theorem hsize_app (x y : List Hydra) : hsize (x ++ y) + 1 = hsize x + hsize y := by
  simp only [hsize_eq, hF_app, List.length_append]; omega
theorem hsize_len (x : List Hydra) : 1 + x.length ≤ hsize x := by
  induction x with
  | nil => rw [hsize_nil]; simp
  | cons b x ih => rw [hsize_cons]; have := hsize_pos b.f0; simp; omega
theorem hsize_mem {x : List Hydra} {b : Hydra} (h : b ∈ x) : hsize b.f0 + 1 ≤ hsize x := by
  induction x with
  | nil => cases h
  | cons c x ih =>
    rw [hsize_cons]
    rcases List.mem_cons.1 h with h | h
    · rw [h]; have := hsize_pos x; omega
    · have := ih h; omega
theorem hyd_ind {P : List Hydra → Prop} (h0 : P []) (h1 : ∀ b x, P b.f0 → P x → P (b :: x)) : ∀ x, P x
  | [] => h0
  | .mk l :: x => h1 (.mk l) x (hyd_ind h0 h1 l) (hyd_ind h0 h1 x)
termination_by x => SizeOf.sizeOf x
theorem hyd_mem {P : List Hydra → Prop} (h : ∀ x, (∀ b ∈ x, P b.f0) → P x) (x : List Hydra) : P x := by
  have : (∀ b ∈ x, P b.f0) ∧ P x := by
    refine hyd_ind (P := fun x => (∀ b ∈ x, P b.f0) ∧ P x) ⟨(by intro t ht; cases ht), h _ (by intro t ht; cases ht)⟩ ?_ x
    intro b x h1 h2
    have : ∀ s ∈ b :: x, P s.f0 := by
      intro s hs
      rcases List.mem_cons.1 hs with e | e
      · rw [e]; exact h1.2
      · exact h2.1 s e
    exact ⟨this, h _ this⟩
  exact this.2
/-! Rows tell hydras. -/
theorem tk_sound : ∀ (f n : Nat) (l : List Int) {x : List Hydra} {r : List Int}, tk f n l = some (x, r) → l = hF x ++ r ∧ x.length = n
  | f, 0, l, x, r, h => by
    unfold tk at h
    simp only [Option.some.injEq, Prod.mk.injEq] at h
    obtain ⟨rfl, rfl⟩ := h
    exact ⟨by rw [hF_nil]; rfl, rfl⟩
  | 0, n + 1, l, x, r, h => by simp [tk] at h
  | f + 1, n + 1, [], x, r, h => by simp [tk] at h
  | f + 1, n + 1, m :: l, x, r, h => by
    simp only [tk] at h
    split at h
    · cases h
    · rename_i hm
      split at h
      · cases h
      · rename_i hs r1 h1
        split at h
        · cases h
        · rename_i gs r2 h2
          simp only [Option.some.injEq, Prod.mk.injEq] at h
          obtain ⟨rfl, rfl⟩ := h
          obtain ⟨a1, a2⟩ := tk_sound f _ l h1
          obtain ⟨b1, b2⟩ := tk_sound f _ r1 h2
          refine ⟨?_, by simp [b2]⟩
          rw [hF_cons, hR_eq]
          show m :: l = (((hs.length : Nat) : Int) :: hF hs) ++ hF gs ++ r2
          rw [a1, b1]
          simp
          omega
theorem tk_complete : ∀ (f : Nat) (x : List Hydra) (r : List Int), hsize x ≤ 61 → (hF x).length ≤ f → tk f x.length (hF x ++ r) = some (x, r)
  | f, [], r, _, _ => by simp [hF_nil, tk]
  | 0, b :: x, r, _, h => by
    rw [hF_cons, hR_eq, List.length_append] at h
    have := hsize_pos b.f0
    have e : (hrow b.f0).length = hsize b.f0 := rfl
    omega
  | f + 1, .mk l :: x, r, hs, h => by
    rw [hsize_cons] at hs
    have hb : (Hydra.mk l).f0 = l := rfl
    rw [hb] at hs
    have hz := hsize_pos x
    have hz2 := hsize_len l
    have hz3 := hsize_eq l
    have hz4 := hsize_eq x
    rw [hF_cons, hR_eq, hb, List.length_append] at h
    have e : (hrow l).length = hsize l := rfl
    rw [hF_cons, hR_eq, hb]
    simp only [hrow, List.cons_append, List.length_cons, List.append_assoc]
    rw [tk, if_neg (by omega), Int.toNat_natCast, tk_complete f l (hF x ++ r) (by omega) (by omega)]
    simp only []
    rw [tk_complete f x r (by omega) (by omega)]
theorem tk1_sound {l : List Int} {x : List Hydra} {r : List Int} (h : tk1 l = some (x, r)) : l = hrow x ++ r := by
  cases l with
  | nil => simp [tk1] at h
  | cons m l =>
    simp only [tk1] at h
    split at h
    · cases h
    · obtain ⟨a1, a2⟩ := tk_sound _ _ l h
      rw [a1, hrow, a2, List.cons_append]
      congr 1
      omega
theorem tk1_complete {x : List Hydra} (r : List Int) (hs : hsize x ≤ 61) : tk1 (hrow x ++ r) = some (x, r) := by
  have := hsize_len x
  simp only [hrow, List.cons_append, tk1]
  rw [if_neg (by omega), Int.toNat_natCast]
  exact tk_complete _ x r hs (by simp)
/-- A valid row. -/
def HV (h : List Int) : Bool := decide (1 ≤ h.length ∧ h.length ≤ 60) && match tk1 h with
  | some (_, r) => r.isEmpty
  | none => false
def ht (r : List Int) : List Hydra := match tk1 r with
  | some (x, _) => x
  | none => []
theorem HV_row (x : List Hydra) : HV (hrow x) = decide (hsize x ≤ 60) := by
  have hz := hsize_pos x
  have hr : (hrow x).length = hsize x := rfl
  by_cases hf : hsize x ≤ 60
  · rw [decide_eq_true hf]
    unfold HV
    have := tk1_complete (x := x) [] (by omega)
    rw [List.append_nil] at this
    rw [this, hr, decide_eq_true (by omega)]
    rfl
  · unfold HV
    rw [decide_eq_false hf, hr, decide_eq_false (by omega), Bool.false_and]
theorem ht_row {x : List Hydra} (h : hsize x ≤ 60) : ht (hrow x) = x := by
  have := tk1_complete (x := x) [] (by omega)
  rw [List.append_nil] at this
  simp only [ht, this]
theorem ht_fit {r : List Int} (h : HV r = true) : r = hrow (ht r) ∧ hsize (ht r) ≤ 60 ∧ tk1 r = some (ht r, []) := by
  unfold HV at h
  rw [Bool.and_eq_true, decide_eq_true_eq] at h
  obtain ⟨h1, h2⟩ := h
  cases hk : tk1 r with
  | none => rw [hk] at h2; cases h2
  | some q =>
    obtain ⟨x, r'⟩ := q
    rw [hk] at h2
    cases r' with
    | cons _ _ => cases h2
    | nil =>
      have a1 := tk1_sound hk
      rw [List.append_nil] at a1
      have e : ht r = x := by simp only [ht, hk]
      rw [e]
      exact ⟨a1, by unfold hsize; rw [← a1]; exact h1.2, rfl⟩
/-! Heads. -/
mutual
def hH : Hydra → Nat
  | .mk l => (if l.isEmpty then 1 else 0) + hd l
def hd : List Hydra → Nat
  | [] => 0
  | b :: x => hH b + hd x
end
theorem hd_nil : hd [] = 0 := by rw [hd]
theorem hd_cons (b : Hydra) (x : List Hydra) : hd (b :: x) = (if b.f0.isEmpty then 1 else 0) + hd b.f0 + hd x := by
  cases b
  rw [hd, hH]
  rfl
def zs (l : List Int) : Nat := l.countP fun n => decide (n = 0)
theorem zs_app (a b : List Int) : zs (a ++ b) = zs a + zs b := by simp [zs]
theorem zs_row (x : List Hydra) : zs (hrow x) = (if x.isEmpty then 1 else 0) + hd x ∧ zs (hF x) = hd x := by
  refine hyd_ind (P := fun x => zs (hrow x) = (if x.isEmpty then 1 else 0) + hd x ∧ zs (hF x) = hd x) ?_ ?_ x
  · refine ⟨?_, by rw [hF_nil, hd_nil]; rfl⟩
    rw [hd_nil]; simp [hrow, hF_nil, zs]
  · intro b x h1 h2
    have e : zs (hF (b :: x)) = hd (b :: x) := by rw [hF_cons, hR_eq, zs_app, h1.1, h2.2, hd_cons]
    refine ⟨?_, e⟩
    have : zs (hrow (b :: x)) = zs (hF (b :: x)) := by
      unfold hrow zs
      rw [List.countP_cons_of_neg (by simp; omega)]
    rw [this, e]
    simp
theorem hd_le (x : List Hydra) : hd x ≤ (hF x).length := by
  rw [← (zs_row x).2]
  exact List.countP_le_length
theorem hd_pos {x : List Hydra} (h : x ≠ []) : 1 ≤ hd x := by
  revert h
  refine hyd_ind (P := fun x => x ≠ [] → 1 ≤ hd x) (fun h => absurd rfl h) (fun b x h1 _ _ => ?_) x
  rw [hd_cons]
  cases hb : b.f0 with
  | nil => simp; omega
  | cons c y => have := h1 (by rw [hb]; simp); rw [hb] at this; simp; omega
/-! A cut. -/
def cut (c : Nat) : List Hydra → Nat → Option (List Hydra × Bool)
  | [], _ => none
  | .mk l :: x, h =>
    if l.isEmpty then (if h = 0 then some (x, true) else match cut c x (h - 1) with
      | some (y, o) => some (.mk l :: y, o)
      | none => none)
    else match cut c l h with
      | some (y, own) => some (List.replicate (if own then c else 1) (.mk y) ++ x, false)
      | none => match cut c x (h - hd l) with
        | some (y, o) => some (.mk l :: y, o)
        | none => none
termination_by x => SizeOf.sizeOf x
theorem cut_nil (c h : Nat) : cut c [] h = none := by rw [cut]
theorem cut_leaf (c h : Nat) (b : Hydra) (x : List Hydra) (hb : b.f0.isEmpty = true) : cut c (b :: x) h = if h = 0 then some (x, true) else (cut c x (h - 1)).map fun q => (b :: q.1, q.2) := by
  cases b with
  | mk l =>
    have hb' : l.isEmpty = true := hb
    rw [cut, if_pos hb']
    split
    · rfl
    · cases cut c x (h - 1) <;> rfl
theorem cut_node (c h : Nat) (b : Hydra) (x : List Hydra) (hb : b.f0.isEmpty = false) : cut c (b :: x) h = match cut c b.f0 h with
    | some (y, own) => some (List.replicate (if own then c else 1) (.mk y) ++ x, false)
    | none => (cut c x (h - hd b.f0)).map fun q => (b :: q.1, q.2) := by
  cases b with
  | mk l =>
    have e : (Hydra.mk l).f0 = l := rfl
    rw [cut, if_neg (by intro hh; have : l.isEmpty = false := hb; rw [this] at hh; cases hh), e]
    cases cut c l h with
    | some q => rfl
    | none =>
      simp only []
      cases cut c x (h - hd l) <;> rfl
theorem cut_some (c : Nat) (x : List Hydra) : ∀ h, (cut c x h).isSome = decide (h < hd x) := by
  refine hyd_ind (P := fun x => ∀ h, (cut c x h).isSome = decide (h < hd x)) ?_ ?_ x
  · intro h; rw [cut_nil, hd_nil]; simp
  · intro b x h1 h2 h
    rw [hd_cons]
    cases hb : b.f0.isEmpty with
    | true =>
      have hl : b.f0 = [] := List.isEmpty_iff.1 hb
      rw [cut_leaf c h b x hb, hl, hd_nil]
      by_cases h0 : h = 0
      · rw [if_pos h0]; simp; omega
      · rw [if_neg h0, Option.isSome_map, h2]
        by_cases hlt : h - 1 < hd x
        · rw [decide_eq_true hlt]; exact (decide_eq_true (by simp; omega)).symm
        · rw [decide_eq_false hlt]; exact (decide_eq_false (by simp; omega)).symm
    | false =>
      rw [cut_node c h b x hb]
      have := h1 h
      cases hc : cut c b.f0 h with
      | some q =>
        rw [hc] at this
        have hlt : h < hd b.f0 := of_decide_eq_true this.symm
        simp
        omega
      | none =>
        rw [hc] at this
        have hge : ¬ h < hd b.f0 := of_decide_eq_false this.symm
        simp only [Option.isSome_map]
        rw [h2]
        by_cases hlt : h - hd b.f0 < hd x
        · rw [decide_eq_true hlt]; exact (decide_eq_true (by simp; omega)).symm
        · rw [decide_eq_false hlt]; exact (decide_eq_false (by simp; omega)).symm
theorem hsize_rep (n : Nat) (y x : List Hydra) : hsize (List.replicate n (.mk y) ++ x) = n * hsize y + hsize x := by
  induction n with
  | zero => simp
  | succ n ih =>
    rw [List.replicate_succ, List.cons_append, hsize_cons, ih, Nat.add_mul]
    show hsize y + _ = _
    omega
/-- How much a hydra grows at most. -/
theorem cut_size (c : Nat) (hc : c ≤ 9) (x : List Hydra) : ∀ h {y : List Hydra} {o : Bool}, cut c x h = some (y, o) → hsize y ≤ 9 * hsize x ∧ (o = true → hsize y + 1 = hsize x) := by
  refine hyd_ind (P := fun x => ∀ h {y : List Hydra} {o : Bool}, cut c x h = some (y, o) → hsize y ≤ 9 * hsize x ∧ (o = true → hsize y + 1 = hsize x)) ?_ ?_ x
  · intro h y o hc; rw [cut_nil] at hc; cases hc
  · intro b x h1 h2 h y o hq
    rw [hsize_cons]
    cases hb : b.f0.isEmpty with
    | true =>
      have hl : b.f0 = [] := List.isEmpty_iff.1 hb
      rw [cut_leaf c h b x hb] at hq
      rw [hl, hsize_nil]
      split at hq
      · cases hq; exact ⟨by omega, fun _ => by omega⟩
      · cases hx : cut c x (h - 1) with
        | none => rw [hx] at hq; cases hq
        | some q =>
          rw [hx] at hq
          obtain ⟨y', o'⟩ := q
          cases hq
          have := h2 _ hx
          simp only
          rw [hsize_cons, hl, hsize_nil]
          exact ⟨by omega, fun ho => by have := this.2 ho; omega⟩
    | false =>
      rw [cut_node c h b x hb] at hq
      cases hl : cut c b.f0 h with
      | some q =>
        rw [hl] at hq
        obtain ⟨y', o'⟩ := q
        cases hq
        have := h1 _ hl
        rw [hsize_rep]
        refine ⟨?_, fun h => by cases h⟩
        cases o' with
        | true =>
          have h3 := this.2 rfl
          simp only [if_true]
          have : c * hsize y' ≤ 9 * hsize y' := Nat.mul_le_mul_right _ hc
          omega
        | false =>
          simp only [Bool.false_eq_true, if_false, Nat.one_mul]
          omega
      | none =>
        rw [hl] at hq
        cases hx : cut c x (h - hd b.f0) with
        | none => rw [hx] at hq; cases hq
        | some q =>
          rw [hx] at hq
          obtain ⟨y', o'⟩ := q
          cases hq
          have := h2 _ hx
          simp only
          rw [hsize_cons]
          exact ⟨by omega, fun ho => by have := this.2 ho; omega⟩
/-! Texts of hydras: plain. -/
mutual
def hX : Hydra → List UInt8
  | .mk l => 40 :: (hXs l ++ [41])
def hXs : List Hydra → List UInt8
  | [] => []
  | b :: x => hX b ++ hXs x
end
def hText (x : List Hydra) : List UInt8 := 40 :: (hXs x ++ [41])
theorem hXs_nil : hXs [] = [] := by rw [hXs]
theorem hXs_cons (b : Hydra) (x : List Hydra) : hXs (b :: x) = hText b.f0 ++ hXs x := by
  rw [hXs]
  cases b
  rw [hX]
  rfl
theorem hXs_app (x y : List Hydra) : hXs (x ++ y) = hXs x ++ hXs y := by
  induction x with
  | nil => rw [hXs_nil]; rfl
  | cons b x ih => rw [List.cons_append, hXs_cons, hXs_cons, ih, List.append_assoc]
theorem hText_len (x : List Hydra) : (hText x).length = 2 * hsize x := by
  refine hyd_ind (P := fun x => (hText x).length = 2 * hsize x) ?_ ?_ x
  · rw [hsize_nil]; simp [hText, hXs_nil]
  · intro b x h1 h2
    rw [hsize_cons, Nat.mul_add, ← h1, ← h2]
    simp only [hText, hXs_cons, List.length_cons, List.length_append, List.length_nil]
    omega
theorem hXs_len (x : List Hydra) : (hXs x).length + 2 = 2 * hsize x := by
  rw [← hText_len]; simp [hText]
theorem hXs_take {x : List Hydra} {i : Nat} (h : i < x.length) : hXs (x.take (i + 1)) = hXs (x.take i) ++ hText x[i].f0 := by
  rw [List.take_succ_eq_append_getElem h, hXs_app, hXs_cons, hXs_nil, List.append_nil]
/-! The functions on hydras, both sides. -/
theorem hget_at {α : Type} {l : List α} {i : Nat} (h : i < l.length) (d : α) : l.getD (i : Int).toNat d = l[i] := by
  rw [Int.toNat_natCast, List.getD_eq_getElem?_getD, List.getElem?_eq_getElem h]
  rfl
theorem hvalid_ev (h : List Int) : Ev (fun k => spec_HydraValid.f k h) (HV h) := by
  refine ev_succ (fun k => spec_HydraValid.f_eq k h) (ev_bind (l1In_ev _ _ _) ?_)
  by_cases hl : 1 ≤ h.length ∧ h.length ≤ 60
  · refine ev_bt (by simp <;> omega) (ev_bind (hend_ev h (by omega) h.length 0 (by omega) (by omega)) (ev_some.2 ?_))
    unfold HV
    rw [decide_eq_true hl, Bool.true_and, List.drop_zero]
    cases h1 : tk1 h with
    | none => simp only [endO]; exact decide_eq_false (by omega)
    | some p =>
      obtain ⟨hs, r⟩ := p
      simp only [endO]
      cases r with
      | nil => simp
      | cons x r => exact decide_eq_false (by simp only [List.length_cons]; omega)
  · refine ev_bf ?_ (ev_some.2 ?_)
    · simp <;> omega
    · unfold HV; rw [decide_eq_false hl, Bool.false_and]
theorem hydraOf_ev (h : List Int) : EvP (fun k => impl_hydraOf.f k h) (fun x => x.2 = HV h ∧ (HV h = true → x.1 = ht h)) := by
  refine evp_succ (fun k => impl_hydraOf.f_eq k h) (evp_d (fun hl => evp_some ?_) (fun h1 => evp_d (fun hl => evp_some ?_) (fun h2 => evp_bindv (htake_ev h.length h (Nat.le_refl _)) ?_)))
  · have : HV h = false := by unfold HV; rw [decide_eq_false (by omega), Bool.false_and]
    rw [this]; exact ⟨rfl, fun h => by cases h⟩
  · have : HV h = false := by unfold HV; rw [decide_eq_false (by omega), Bool.false_and]
    rw [this]; exact ⟨rfl, fun h => by cases h⟩
  · have hd : decide (1 ≤ h.length ∧ h.length ≤ 60) = true := decide_eq_true ⟨by omega, by omega⟩
    unfold HV ht
    rw [hd, Bool.true_and]
    cases ht : tk1 h with
    | none => exact evp_some ⟨rfl, fun h => by cases h⟩
    | some p =>
      obtain ⟨hs, r⟩ := p
      refine evp_some ⟨?_, fun _ => rfl⟩
      cases r with
      | nil => rfl
      | cons x r => exact decide_eq_false (by show ¬ (((x :: r).length : Nat) : Int) = 0; simp; omega)
theorem implHV_ev (h : List Int) : Ev (fun k => impl_HydraValid.f k h) (HV h) := by
  obtain ⟨x, h1, h2, _⟩ := hydraOf_ev h
  exact ev_succ (fun k => impl_HydraValid.f_eq k h) (ev_bind h1 (ev_some.2 h2))
theorem hsize_take (x : List Hydra) (i : Nat) : hsize (x.take i) ≤ hsize x := by
  have := hsize_app (x.take i) (x.drop i)
  rw [List.take_append_drop] at this
  have := hsize_pos (x.drop i)
  omega
theorem hsize_drop (x : List Hydra) (i : Nat) : hsize (x.drop i) ≤ hsize x := by
  have := hsize_app (x.take i) (x.drop i)
  rw [List.take_append_drop] at this
  have := hsize_pos (x.take i)
  omega
theorem hF_take {x : List Hydra} {i : Nat} (h : i < x.length) : hF (x.take (i + 1)) = hF (x.take i) ++ hrow x[i].f0 := by
  rw [← List.take_append_getElem h, hF_app, hF_cons, hF_nil, List.append_nil, hR_eq]
theorem hF_at {x : List Hydra} {i : Nat} (h : i < x.length) : (hF (x.take i)).length + hsize x[i].f0 + 1 ≤ hsize x := by
  have h1 := hsize_take x (i + 1)
  rw [hsize_eq, hF_take h, List.length_append] at h1
  have : (hrow x[i].f0).length = hsize x[i].f0 := rfl
  omega
theorem row_ev (x : List Hydra) : hsize x ≤ 1000000 → Ev (fun k => impl_hydra__row.f k x) (hrow x) := by
  refine hyd_mem (P := fun x => hsize x ≤ 1000000 → Ev (fun k => impl_hydra__row.f k x) (hrow x)) ?_ x
  intro x ih hs
  have hl := hsize_len x
  have loop : ∀ d i : Nat, i + d = x.length → Ev (fun k => impl_hydra__row.l0 k ((x.length : Int) :: hF (x.take i)) x (x.length : Int) (i : Int)) (hrow x) := by
    intro d
    induction d with
    | zero =>
      intro i hi
      refine ev_succ (fun k => impl_hydra__row.l0_eq k _ _ _ _) (ev_df (by omega) (ev_some.2 ?_))
      rw [List.take_of_length_le (by omega)]; rfl
    | succ d ihd =>
      intro i hi
      have hlt : i < x.length := by omega
      have hm : x[i] ∈ x := List.getElem_mem hlt
      have hz := hsize_mem hm
      refine ev_succ (fun k => impl_hydra__row.l0_eq k _ _ _ _) (ev_dt (by omega) (ev_gd (by omega) ?_))
      rw [hget_at hlt]
      refine ev_bind (ih _ hm (by omega)) (ev_gd ?_ ?_)
      · have := hF_at hlt
        have e : (hrow x[i].f0).length = hsize x[i].f0 := rfl
        rw [limE, List.length_cons, e]; omega
      · rw [w_succ (by omega), List.cons_append, ← hF_take hlt]
        exact ihd (i + 1) (by omega)
  have := loop x.length 0 (by omega)
  rw [List.take_zero, hF_nil] at this
  exact ev_succ (fun k => impl_hydra__row.f_eq k _) this
theorem hd_app (a b : List Hydra) : hd (a ++ b) = hd a + hd b := by
  induction a with
  | nil => rw [hd_nil]; simp
  | cons c a ih => rw [List.cons_append, hd_cons, hd_cons, ih]; omega
theorem hd_take {x : List Hydra} {i : Nat} (h : i < x.length) : hd (x.take (i + 1)) = hd (x.take i) + ((if x[i].f0.isEmpty then 1 else 0) + hd x[i].f0) := by
  rw [← List.take_append_getElem h, hd_app, hd_cons, hd_nil]
  omega
theorem hd_size (x : List Hydra) : hd x + 1 ≤ hsize x := by rw [hsize_eq]; have := hd_le x; omega
theorem heads_ev (x : List Hydra) : hsize x ≤ 1000000 → Ev (fun k => impl_hydra__heads.f k x) (hd x : Int) := by
  refine hyd_mem (P := fun x => hsize x ≤ 1000000 → Ev (fun k => impl_hydra__heads.f k x) (hd x : Int)) ?_ x
  intro x ih hs
  have hl := hsize_len x
  have loop : ∀ d i : Nat, i + d = x.length → Ev (fun k => impl_hydra__heads.l0 k (hd (x.take i) : Int) x (x.length : Int) (i : Int)) (hd x : Int) := by
    intro d
    induction d with
    | zero =>
      intro i hi
      refine ev_succ (fun k => impl_hydra__heads.l0_eq k _ _ _ _) (ev_df (by omega) (ev_some.2 ?_))
      rw [List.take_of_length_le (by omega)]
    | succ d ihd =>
      intro i hi
      have hlt : i < x.length := by omega
      have hm : x[i] ∈ x := List.getElem_mem hlt
      have hz := hsize_mem hm
      have h1 := hd_size (x.take i)
      have h1' := hsize_take x i
      have h2 := hd_size x[i].f0
      have h3 := hd_take hlt
      have j0 : ∀ (n : Nat), (n : Int) = hd (x.take i) + (if x[i].f0.isEmpty then 1 else 0) → Ev (fun k => impl_hydra__heads.j0 k (n : Int) x[i].f0 x (x.length : Int) (i : Int)) (hd x : Int) := by
        intro n hn
        refine ev_succ (fun k => impl_hydra__heads.j0_eq k _ _ _ _ _) (ev_bind (ih _ hm (by omega)) ?_)
        have e : wr ((n : Int) + (hd x[i].f0 : Int)) = (hd (x.take (i + 1)) : Int) := by
          rw [h3, w64]
          · split at hn <;> simp_all <;> omega
          · omega
          · split at hn <;> omega
        rw [e, w_succ (by omega)]
        exact ihd (i + 1) (by omega)
      refine ev_succ (fun k => impl_hydra__heads.l0_eq k _ _ _ _) (ev_dt (by omega) (ev_gd (by omega) ?_))
      rw [hget_at hlt]
      cases hb : x[i].f0.isEmpty with
      | true =>
        have : x[i].f0 = [] := List.isEmpty_iff.1 hb
        refine ev_dt (by rw [this]; rfl) ?_
        rw [w_succ (by omega)]
        exact j0 _ (by rw [hb]; simp)
      | false =>
        refine ev_df (by intro h; have : x[i].f0 = [] := List.eq_nil_of_length_eq_zero (by omega); rw [this] at hb; cases hb) ?_
        exact j0 _ (by rw [hb]; simp)
  have := loop x.length 0 (by omega)
  rw [List.take_zero, hd_nil] at this
  exact ev_succ (fun k => impl_hydra__heads.f_eq k _) this
/-! Heads counted in a row. -/
theorem zs_at {l : List Int} {i : Nat} (h : i < l.length) : zs (l.drop i) = (if l[i] = 0 then 1 else 0) + zs (l.drop (i + 1)) := by
  rw [List.drop_eq_getElem_cons h]
  unfold zs
  by_cases h0 : l[i] = 0
  · rw [if_pos h0, List.countP_cons_of_pos (by simp [h0])]; omega
  · rw [if_neg h0, List.countP_cons_of_neg (by simp [h0])]; omega
theorem zs_le (l : List Int) : zs l ≤ l.length := List.countP_le_length
theorem sHeads_l0 (l : List Int) (hl : l.length ≤ 1000000) : ∀ d i a : Nat, i + d = l.length → a ≤ 1000000000 → Ev (fun k => spec_HydraHeads.l0 k l (a : Int) (i : Int)) ((a + zs (l.drop i) : Nat) : Int) := by
  have gen : ∀ d i a : Nat, i + d = l.length → a + d ≤ 1001000000 → Ev (fun k => spec_HydraHeads.l0 k l (a : Int) (i : Int)) ((a + zs (l.drop i) : Nat) : Int) := by
    intro d
    induction d with
    | zero =>
      intro i a hi ha
      refine ev_succ (fun k => spec_HydraHeads.l0_eq k _ _ _) (ev_df (by omega) (ev_some.2 ?_))
      rw [List.drop_eq_nil_of_le (by omega)]; simp [zs]
    | succ d ih =>
      intro i a hi ha
      have hlt : i < l.length := by omega
      refine ev_succ (fun k => spec_HydraHeads.l0_eq k _ _ _) (ev_dt (by omega) (ev_gd (by omega) ?_))
      rw [hget_at hlt, zs_at hlt, w_succ (i := i) (by omega)]
      by_cases h0 : l[i] = 0
      · refine ev_dt h0 ?_
        rw [w_succ (by omega), if_pos h0, ← Nat.add_assoc]
        exact ih (i + 1) (a + 1) (by omega) (by omega)
      · refine ev_df h0 ?_
        rw [if_neg h0, Nat.zero_add]
        exact ih (i + 1) a (by omega) (by omega)
  intro d i a hi ha
  exact gen d i a hi (by omega)
theorem lHeads_l0 (l : List Int) (hl : l.length ≤ 1000000) : ∀ d i a : Nat, i + d = l.length → a + d ≤ 1001000000 → Ev (fun k => spec_l5Heads.l0 k l (a : Int) (i : Int)) ((a + zs (l.drop i) : Nat) : Int) := by
  intro d
  induction d with
  | zero =>
    intro i a hi ha
    refine ev_succ (fun k => spec_l5Heads.l0_eq k _ _ _) (ev_df (by omega) (ev_some.2 ?_))
    rw [List.drop_eq_nil_of_le (by omega)]; simp [zs]
  | succ d ih =>
    intro i a hi ha
    have hlt : i < l.length := by omega
    refine ev_succ (fun k => spec_l5Heads.l0_eq k _ _ _) (ev_dt (by omega) (ev_gd (by omega) ?_))
    rw [hget_at hlt, zs_at hlt, w_succ (i := i) (by omega)]
    by_cases h0 : l[i] = 0
    · refine ev_dt h0 ?_
      rw [w_succ (by omega), if_pos h0, ← Nat.add_assoc]
      exact ih (i + 1) (a + 1) (by omega) (by omega)
    · refine ev_df h0 ?_
      rw [if_neg h0, Nat.zero_add]
      exact ih (i + 1) a (by omega) (by omega)
theorem lHeads_ev (x : List Hydra) (hs : hsize x ≤ 1000000) : Ev (fun k => spec_l5Heads.f k (hrow x)) (((if x.isEmpty then 1 else 0) + hd x : Nat) : Int) := by
  have := lHeads_l0 (hrow x) hs (hrow x).length 0 0 (by omega) (by have : (hrow x).length = hsize x := rfl; omega)
  rw [List.drop_zero, (zs_row x).1, Nat.zero_add] at this
  exact ev_succ (fun k => spec_l5Heads.f_eq k _) this
def headsR (r : List Int) : Int := if HV r = true then (hd (ht r) : Int) else -1
theorem sHeads_ev (r : List Int) : Ev (fun k => spec_HydraHeads.f k r) (headsR r) := by
  refine ev_succ (fun k => spec_HydraHeads.f_eq k _) (ev_bind (hvalid_ev r) ?_)
  unfold headsR
  cases hv : HV r with
  | false => exact ev_nt rfl (ev_some.2 (by simp))
  | true =>
    refine ev_nf rfl ?_
    obtain ⟨e, hs, _⟩ := ht_fit hv
    have hl : r.length = hsize (ht r) := by rw [hsize, ← e]
    have := sHeads_l0 r (by omega) (r.length - 1) 1 0 (by have := hsize_pos (ht r); omega) (by omega)
    have e2 : zs (r.drop 1) = hd (ht r) := by
      rw [← (zs_row (ht r)).2]
      have : r.drop 1 = hF (ht r) := (congrArg (List.drop 1) e).trans rfl
      rw [this]
    rw [e2, Nat.zero_add] at this
    rw [if_pos rfl]
    exact this
theorem iHeads_ev (r : List Int) : Ev (fun k => impl_HydraHeads.f k r) (headsR r) := by
  obtain ⟨x, h1, h2, h3⟩ := hydraOf_ev r
  refine ev_succ (fun k => impl_HydraHeads.f_eq k _) (ev_bind h1 ?_)
  rw [h2]
  unfold headsR
  cases hv : HV r with
  | false => exact ev_nt rfl (ev_some.2 (by simp))
  | true =>
    rw [h3 hv]
    exact ev_nf rfl (ev_bind (heads_ev _ (by have := (ht_fit hv).2.1; omega)) (ev_some.2 (by simp)))
/-! The branches of a row. -/
def brs (x : List Hydra) : List (List Int) := x.map fun b => hrow b.f0
theorem brs_at {x : List Hydra} {i : Nat} (h : i < x.length) : (brs x).getD (i : Int).toNat [] = hrow x[i].f0 := by
  rw [hget_at (by simpa [brs] using h)]
  simp [brs]
theorem hrow_slice {x : List Hydra} {i : Nat} (h : i < x.length) : (hrow x).drop (1 + (hF (x.take i)).length) = hF (x.drop i) := by
  rw [hrow, Nat.add_comm, List.drop_succ_cons]
  have : hF x = hF (x.take i) ++ hF (x.drop i) := by rw [← hF_app, List.take_append_drop]
  rw [this]
  simp
theorem branches_ev (x : List Hydra) (hs : hsize x ≤ 60) : Ev (fun k => spec_l5Branches.f k (hrow x)) (brs x) := by
  have hl := hsize_len x
  have hrl : (hrow x).length = hsize x := rfl
  have loop : ∀ d i : Nat, i + d = x.length → Ev (fun k => spec_l5Branches.l0 k (hrow x) (brs (x.take i)) ((1 + (hF (x.take i)).length : Nat) : Int)) (brs x) := by
    intro d
    induction d with
    | zero =>
      intro i hi
      refine ev_succ (fun k => spec_l5Branches.l0_eq k _ _ _) ?_
      rw [List.take_of_length_le (by omega)]
      refine ev_df ?_ (ev_some.2 rfl)
      rw [hrl, hsize_eq]; omega
    | succ d ih =>
      intro i hi
      have hlt : i < x.length := by omega
      have hz := hF_at hlt
      have hp := hsize_pos x[i].f0
      have hd0 := hrow_slice hlt
      have e1 : x.drop i = x[i] :: x.drop (i + 1) := List.drop_eq_getElem_cons hlt
      rw [e1, hF_cons, hR_eq] at hd0
      have hE := hend_ev (hrow x) (by omega) (hrow x).length (1 + (hF (x.take i)).length) (by omega) (by omega)
      rw [hd0, tk1_complete _ (by omega)] at hE
      have hlen : ((hrow x).drop (1 + (hF (x.take i)).length)).length = hsize x[i].f0 + (hF (x.drop (i + 1))).length := by
        rw [hd0, List.length_append]; rfl
      rw [List.length_drop] at hlen
      have hend : endO (hrow x).length (some (x[i].f0, hF (x.drop (i + 1)))) = ((1 + (hF (x.take (i + 1))).length : Nat) : Int) := by
        have : (hrow x[i].f0).length = hsize x[i].f0 := rfl
        rw [endO, hF_take hlt, List.length_append]
        omega
      rw [hend] at hE
      have h2 : (hF (x.take (i + 1))).length = (hF (x.take i)).length + hsize x[i].f0 := by
        rw [hF_take hlt, List.length_append]; rfl
      refine ev_succ (fun k => spec_l5Branches.l0_eq k _ _ _) (ev_dt (by omega) (ev_bind hE (ev_gd (by omega) (ev_gd ?_ ?_))))
      · rw [limE]; simp [brs]; omega
      · have e3 : ((hrow x).take ((1 + (hF (x.take (i + 1))).length : Nat) : Int).toNat).drop ((1 + (hF (x.take i)).length : Nat) : Int).toNat = hrow x[i].f0 := by
          rw [Int.toNat_natCast, Int.toNat_natCast, List.drop_take, hd0]
          have : 1 + (hF (x.take (i + 1))).length - (1 + (hF (x.take i)).length) = (hrow x[i].f0).length := by
            rw [h2]; show _ = hsize x[i].f0; omega
          rw [this, List.take_left]
        rw [e3]
        have e4 : brs (x.take i) ++ [hrow x[i].f0] = brs (x.take (i + 1)) := by
          rw [← List.take_append_getElem hlt]; unfold brs; rw [List.map_append]; rfl
        rw [e4]
        exact ih (i + 1) (by omega)
  have := loop x.length 0 (by omega)
  rw [List.take_zero, hF_nil] at this
  exact ev_succ (fun k => spec_l5Branches.f_eq k _) this
theorem tree_ev (x : List Hydra) (hs : hsize x ≤ 1000000) : Ev (fun k => spec_l5Tree.f k (brs x)) (hrow x) := by
  have hl := hsize_len x
  have hbl : (brs x).length = x.length := by simp [brs]
  have loop : ∀ d i : Nat, i + d = x.length → Ev (fun k => spec_l5Tree.l0 k (brs x) ((x.length : Int) :: hF (x.take i)) (i : Int)) (hrow x) := by
    intro d
    induction d with
    | zero =>
      intro i hi
      refine ev_succ (fun k => spec_l5Tree.l0_eq k _ _ _) (ev_df (by omega) (ev_some.2 ?_))
      rw [List.take_of_length_le (by omega)]; rfl
    | succ d ihd =>
      intro i hi
      have hlt : i < x.length := by omega
      refine ev_succ (fun k => spec_l5Tree.l0_eq k _ _ _) (ev_dt (by omega) (ev_gd (by omega) ?_))
      rw [brs_at hlt]
      refine ev_gd ?_ ?_
      · have := hF_at hlt
        have e : (hrow x[i].f0).length = hsize x[i].f0 := rfl
        rw [limE, List.length_cons, e]; omega
      · rw [w_succ (by omega), List.cons_append, ← hF_take hlt]
        exact ihd (i + 1) (by omega)
  have := loop x.length 0 (by omega)
  rw [List.take_zero, hF_nil, ← hbl] at this
  exact ev_succ (fun k => spec_l5Tree.f_eq k _) this
/-! A cut, the program's way. -/
theorem clone_ev (x : List Hydra) (h : x.length < lim) : Ev (fun k => slices_Clone_hydra_hydra.f k x) x := by
  have : (fun k => slices_Clone_hydra_hydra.f k x) = fun k => gate (decide (0 + x.length < lim)) (some x) := funext fun k => slices_Clone_hydra_hydra.f_eq k x
  rw [this]
  exact ev_gd (by omega) (ev_some.2 rfl)
theorem delete_ev (x : List Hydra) (i : Nat) (h : i < x.length) : Ev (fun k => slices_Delete_hydra_hydra.f k x (i : Int) ((i + 1 : Nat) : Int)) (x.take i ++ x.drop (i + 1)) := by
  have hA : (x.take i ++ (x.drop (i + 1) ++ x.drop (i + (x.length - (i + 1))))).length = x.length := by simp; omega
  have hT : (((x.take i ++ (x.drop (i + 1) ++ x.drop (i + (x.length - (i + 1))))).take (i + (x.length - (i + 1)))).drop 0).length = x.length - 1 := by
    rw [List.drop_zero, List.length_take, hA]; omega
  refine ev_succ (fun k => slices_Delete_hydra_hydra.f_eq k _ _ _) (ev_gd (by omega) (ev_df (by omega) (ev_gd (by omega) (ev_gd (by omega) (ev_gd (by omega) (ev_gd ?_ (ev_some.2 ?_)))))))
  · simp only [Int.toNat_natCast]
    rw [hT, hA]; omega
  simp only [Int.toNat_natCast]
  rw [hT]
  have e1 : i + (x.length - (i + 1)) = x.length - 1 := by omega
  rw [e1] at hA ⊢
  rw [List.take_append_of_le_length (by rw [List.length_take, hA]; omega), List.take_take, Nat.min_self, ← List.append_assoc, List.take_append_of_le_length (by simp; omega)]
  exact List.take_of_length_le (by simp; omega)
def cutI (x : List Hydra) (h : Nat) : Option (List Hydra × Bool) → List Hydra × Bool × Int
  | some (y, o) => (y, o, -1)
  | none => (x, false, (h : Int) - hd x)
theorem iCut_ev (c : Nat) (hc1 : 1 ≤ c) (hc9 : c ≤ 9) (x : List Hydra) : hsize x ≤ 60 → ∀ (h : Nat) (b : Bool), h ≤ 1000000 → Ev (fun k => impl_hydra__cut.f k x (h : Int) (c : Int) b) (cutI x h (cut c x h)) := by
  refine hyd_mem (P := fun x => hsize x ≤ 60 → ∀ (h : Nat) (b : Bool), h ≤ 1000000 → Ev (fun k => impl_hydra__cut.f k x (h : Int) (c : Int) b) (cutI x h (cut c x h))) ?_ x
  intro x ih hs h b hh
  have hl := hsize_len x
  have loop : ∀ d i g : Nat, i + d = x.length → g ≤ 1000000 → Ev (fun k => impl_hydra__cut.l0 k x (g : Int) (c : Int) x (x.length : Int) (i : Int)) (match cut c (x.drop i) g with
      | some (y, o) => (x.take i ++ y, o, (-1 : Int))
      | none => (x, false, (g : Int) - hd (x.drop i))) := by
    intro d
    induction d with
    | zero =>
      intro i g hi hg
      refine ev_succ (fun k => impl_hydra__cut.l0_eq k _ _ _ _ _ _) (ev_df (by omega) (ev_some.2 ?_))
      rw [List.drop_eq_nil_of_le (by omega), cut_nil, hd_nil]
      simp
    | succ d ihd =>
      intro i g hi hg
      have hlt : i < x.length := by omega
      have hm : x[i] ∈ x := List.getElem_mem hlt
      have hz := hsize_mem hm
      have hpz := hd_size x[i].f0
      have e1 : x.drop i = x[i] :: x.drop (i + 1) := List.drop_eq_getElem_cons hlt
      have tk : ∀ y : List Hydra, x.take i ++ x[i] :: y = x.take (i + 1) ++ y := by
        intro y; rw [← List.take_append_getElem hlt, List.append_assoc]; rfl
      refine ev_succ (fun k => impl_hydra__cut.l0_eq k _ _ _ _ _ _) (ev_dt (by omega) (ev_gd (by omega) ?_))
      rw [hget_at hlt, e1]
      cases hb : x[i].f0.isEmpty with
      | true =>
        have hn : x[i].f0 = [] := List.isEmpty_iff.1 hb
        refine ev_dt (by rw [hn]; rfl) ?_
        rw [cut_leaf c g _ _ hb, hd_cons, hb, hn, hd_nil]
        by_cases hg0 : g = 0
        · refine ev_dt (by omega) (ev_bind (clone_ev x (by rw [limE]; omega)) ?_)
          rw [w_succ (by omega), if_pos hg0]
          exact ev_bind (delete_ev x i hlt) (ev_some.2 rfl)
        · refine ev_df (by omega) ?_
          have e2 : wr ((g : Int) - 1) = ((g - 1 : Nat) : Int) := by rw [w64] <;> omega
          rw [e2, w_succ (by omega), if_neg hg0]
          have := ihd (i + 1) (g - 1) (by omega) (by omega)
          have hsm := cut_some c (x.drop (i + 1)) (g - 1)
          cases hq : cut c (x.drop (i + 1)) (g - 1) with
          | some q =>
            rw [hq] at this
            obtain ⟨y, o⟩ := q
            simp only [Option.map_some]
            rw [tk]
            exact this
          | none =>
            rw [hq] at this
            simp only [Option.map_none]
            exact ev_eq this (by simp <;> omega)
      | false =>
        refine ev_df (by intro h; have : x[i].f0 = [] := List.eq_nil_of_length_eq_zero (by omega); rw [this] at hb; cases hb) ?_
        rw [cut_node c g _ _ hb, hd_cons, hb]
        have h0 := ih _ hm (by omega) g false hg
        have hsm := cut_some c x[i].f0 g
        cases hq : cut c x[i].f0 g with
        | none =>
          rw [hq] at hsm h0
          have hge : ¬ g < hd x[i].f0 := of_decide_eq_false hsm.symm
          have e2 : (g : Int) - (hd x[i].f0 : Int) = ((g - hd x[i].f0 : Nat) : Int) := by omega
          have h1 := ev_eq h0 (b := (x[i].f0, false, ((g - hd x[i].f0 : Nat) : Int))) (by simp only [cutI]; rw [e2])
          refine ev_bind h1 (ev_dt (by show (((g - hd x[i].f0 : Nat)) : Int) ≥ 0; omega) ?_)
          rw [w_succ (by omega)]
          have := ihd (i + 1) (g - hd x[i].f0) (by omega) (by omega)
          cases hq : cut c (x.drop (i + 1)) (g - hd x[i].f0) with
          | some q =>
            rw [hq] at this
            obtain ⟨y, o⟩ := q
            simp only [Option.map_some]
            rw [tk]
            exact this
          | none =>
            rw [hq] at this
            simp only [Option.map_none]
            exact ev_eq this (by simp <;> omega)
        | some q =>
          obtain ⟨y, o⟩ := q
          rw [hq] at h0
          have h1 := ev_eq h0 (b := (y, o, (-1 : Int))) rfl
          have etk : (x.take (i : Int).toNat).drop (0 : Int).toNat = x.take i := by rw [Int.toNat_natCast]; rfl
          refine ev_bind h1 ?_
          rw [etk]
          refine ev_df (by show ¬ (-1 : Int) ≥ 0; omega) (ev_gd (by omega) (ev_bind (clone_ev (x.take i) (by rw [limE, List.length_take]; omega)) ?_))
          have l1 : ∀ (m : Nat), m ≤ 9 → ∀ d j : Nat, j + d = m → Ev (fun k => impl_hydra__cut.l1 k x (-1) (i : Int) y (x.take i ++ List.replicate j (Hydra.mk y)) (m : Int) (j : Int)) (x.take i ++ (List.replicate m (Hydra.mk y) ++ x.drop (i + 1)), false, -1) := by
            intro m hm d
            induction d with
            | zero =>
              intro j hj
              refine ev_succ (fun k => impl_hydra__cut.l1_eq k _ _ _ _ _ _ _) (ev_df (by omega) ?_)
              rw [w_succ (by omega), Int.toNat_natCast, Int.toNat_natCast, List.take_length]
              refine ev_gd (by omega) (ev_gd (by rw [limE]; simp; omega) (ev_some.2 ?_))
              rw [show j = m by omega, List.append_assoc]
            | succ d ihd =>
              intro j hj
              refine ev_succ (fun k => impl_hydra__cut.l1_eq k _ _ _ _ _ _ _) (ev_dt (by omega) (ev_gd (by rw [limE]; simp; omega) ?_))
              rw [w_succ (by omega), List.append_assoc, ← List.replicate_succ']
              exact ihd (j + 1) (by omega)
          cases o with
          | true =>
            refine ev_nf rfl (ev_succ (fun k => impl_hydra__cut.j0_eq k _ _ _ _ _ _) ?_)
            have := l1 c hc9 c 0 (by omega)
            rw [List.replicate_zero, List.append_nil] at this
            exact this
          | false =>
            refine ev_nt rfl (ev_succ (fun k => impl_hydra__cut.j0_eq k _ _ _ _ _ _) ?_)
            have := l1 1 (by omega) 1 0 (by omega)
            rw [List.replicate_zero, List.append_nil] at this
            exact this
  have := loop x.length 0 h (by omega) hh
  refine ev_succ (fun k => impl_hydra__cut.f_eq k _ _ _ _) ?_
  rw [List.drop_zero] at this
  cases hq : cut c x h with
  | some q => rw [hq] at this; obtain ⟨y, o⟩ := q; exact this
  | none => rw [hq] at this; exact this
/-! A cut, the statements' way. -/
theorem brs_snoc (z : List Hydra) (y : List Hydra) : brs z ++ [hrow y] = brs (z ++ [Hydra.mk y]) := by
  unfold brs; rw [List.map_append]; rfl
theorem sCut_done (c : Nat) (x : List Hydra) (hs : hsize x ≤ 60) : ∀ (d i : Nat) (v : Int) (z : List Hydra) (o : Bool), i + d = x.length → hsize z + 60 * d ≤ 100000 → v < 0 → -1000 * (i + 1 : Int) ≤ v → Ev (fun k => spec_l5Cut.l0 k v (c : Int) (brs x) (brs z) o (i : Int)) (hrow (z ++ x.drop i), o) := by
  have hl := hsize_len x
  have hbl : (brs x).length = x.length := by simp [brs]
  intro d
  induction d with
  | zero =>
    intro i v z o hi hz hv hv2
    refine ev_succ (fun k => spec_l5Cut.l0_eq k _ _ _ _ _ _) (ev_df (by omega) ?_)
    rw [List.drop_eq_nil_of_le (by omega), List.append_nil]
    exact ev_bind (tree_ev z (by omega)) (ev_some.2 rfl)
  | succ d ih =>
    intro i v z o hi hz hv hv2
    have hlt : i < x.length := by omega
    have hm : x[i] ∈ x := List.getElem_mem hlt
    have hsz := hsize_mem hm
    have hpz := hd_size x[i].f0
    have hzl := hsize_len z
    have e1 : x.drop i = x[i] :: x.drop (i + 1) := List.drop_eq_getElem_cons hlt
    refine ev_succ (fun k => spec_l5Cut.l0_eq k _ _ _ _ _ _) (ev_dt (by omega) (ev_gd (by omega) ?_))
    rw [brs_at hlt]
    refine ev_bind (lHeads_ev _ (by omega)) (ev_dt (by omega) (ev_succ (fun k => spec_l5Cut.j0_eq k _ _ _ _ _ _ _) (ev_gd (by omega) ?_)))
    rw [brs_at hlt]
    refine ev_gd (by rw [limE]; simp [brs]; omega) ?_
    have hh : (if x[i].f0.isEmpty = true then 1 else 0) + hd x[i].f0 ≤ 100 := by split <;> omega
    rw [brs_snoc, w_succ (by omega), w64 (by omega) (by omega)]
    have := ih (i + 1) (v - (((if x[i].f0.isEmpty = true then 1 else 0) + hd x[i].f0 : Nat) : Int)) (z ++ [Hydra.mk x[i].f0]) o (by omega) (by
      have h1 := hsize_app z [Hydra.mk x[i].f0]
      rw [hsize_cons, hsize_nil] at h1
      have e : (Hydra.mk x[i].f0).f0 = x[i].f0 := rfl
      rw [e] at h1
      omega) (by omega) (by omega)
    rw [List.append_assoc] at this
    rw [e1]
    have em : Hydra.mk x[i].f0 = x[i] := by cases x[i]; rfl
    rw [em] at this
    rw [em]
    exact this
theorem sCut_ev (c : Nat) (hc1 : 1 ≤ c) (hc9 : c ≤ 9) (x : List Hydra) : hsize x ≤ 60 → ∀ (h : Nat), h < hd x → EvP (fun k => spec_l5Cut.f k (hrow x) (h : Int) (c : Int)) (fun p => ∃ y o, cut c x h = some (y, o) ∧ p = (hrow y, o)) := by
  refine hyd_mem (P := fun x => hsize x ≤ 60 → ∀ (h : Nat), h < hd x → EvP (fun k => spec_l5Cut.f k (hrow x) (h : Int) (c : Int)) (fun p => ∃ y o, cut c x h = some (y, o) ∧ p = (hrow y, o))) ?_ x
  intro x ih hs h hh
  have hl := hsize_len x
  have hbl : (brs x).length = x.length := by simp [brs]
  have loop : ∀ d i g : Nat, i + d = x.length → g < hd (x.drop i) → EvP (fun k => spec_l5Cut.l0 k (g : Int) (c : Int) (brs x) (brs (x.take i)) false (i : Int)) (fun p => ∃ y o, cut c (x.drop i) g = some (y, o) ∧ p = (hrow (x.take i ++ y), o)) := by
    intro d
    induction d with
    | zero =>
      intro i g hi hg
      rw [List.drop_eq_nil_of_le (by omega), hd_nil] at hg
      omega
    | succ d ihd =>
      intro i g hi hg
      have hlt : i < x.length := by omega
      have hm : x[i] ∈ x := List.getElem_mem hlt
      have hsz := hsize_mem hm
      have hpz := hd_size x[i].f0
      have hpx := hd_size (x.drop i)
      have hsx := hsize_drop x i
      have htx := hsize_take x i
      have e1 : x.drop i = x[i] :: x.drop (i + 1) := List.drop_eq_getElem_cons hlt
      have em : Hydra.mk x[i].f0 = x[i] := by cases x[i]; rfl
      have tk : ∀ y : List Hydra, x.take i ++ x[i] :: y = x.take (i + 1) ++ y := by
        intro y; rw [← List.take_append_getElem hlt, List.append_assoc]; rfl
      have etk : x.take i ++ [x[i]] = x.take (i + 1) := by rw [← List.take_append_getElem hlt]
      have hg2 := hg
      rw [e1, hd_cons] at hg2
      have hh : (if x[i].f0.isEmpty = true then 1 else 0) + hd x[i].f0 ≤ 100 := by split <;> omega
      have skip : (if x[i].f0.isEmpty = true then 1 else 0) + hd x[i].f0 ≤ g → cut c (x.drop i) g = (cut c (x.drop (i + 1)) (g - ((if x[i].f0.isEmpty = true then 1 else 0) + hd x[i].f0))).map (fun q => (x[i] :: q.1, q.2)) → EvP (fun k => spec_l5Cut.j0 k (g : Int) (c : Int) (brs x) (brs (x.take i)) false (i : Int) (((if x[i].f0.isEmpty = true then 1 else 0) + hd x[i].f0 : Nat) : Int)) (fun p => ∃ y o, cut c (x.drop i) g = some (y, o) ∧ p = (hrow (x.take i ++ y), o)) := by
        intro hge hcut
        refine evp_succ (fun k => spec_l5Cut.j0_eq k _ _ _ _ _ _ _) (evp_gd (by omega) ?_)
        rw [brs_at hlt]
        refine evp_gd (by rw [limE]; simp [brs]; omega) ?_
        rw [brs_snoc, em, etk, w_succ (by omega), w64 (by omega) (by omega), ← Int.natCast_sub hge]
        refine evp_mono (ihd (i + 1) _ (by omega) (by omega)) ?_
        rintro p ⟨y, o, h1, h2⟩
        refine ⟨x[i] :: y, o, ?_, ?_⟩
        · rw [hcut, h1]; rfl
        · rw [h2, tk]
      refine evp_succ (fun k => spec_l5Cut.l0_eq k _ _ _ _ _ _) (evp_d (fun _ => evp_gd (by omega) ?_) (fun hn => absurd (by omega) hn))
      rw [brs_at hlt]
      refine evp_bindv (lHeads_ev _ (by omega)) (evp_d (fun hn => absurd hn (by omega)) (fun _ => evp_d (fun hge => skip (by omega) ?_) (fun hge => evp_gd (by omega) ?_)))
      · rw [e1]
        cases hb : x[i].f0.isEmpty with
        | true =>
          have hn : x[i].f0 = [] := List.isEmpty_iff.1 hb
          rw [hb] at hge
          rw [cut_leaf c g _ _ hb, hn, hd_nil, if_neg (by simp at hge; omega)]
          rfl
        | false =>
          rw [hb] at hge
          have hsm := cut_some c x[i].f0 g
          rw [decide_eq_false (by simp at hge; omega)] at hsm
          rw [cut_node c g _ _ hb]
          cases hq : cut c x[i].f0 g with
          | some q => rw [hq] at hsm; cases hsm
          | none => simp
      · have hrl : (hrow x[i].f0).length = hsize x[i].f0 := rfl
        cases hb : x[i].f0.isEmpty with
        | true =>
          have hn : x[i].f0 = [] := List.isEmpty_iff.1 hb
          rw [hb, hn, hd_nil] at hge
          have hg0 : g = 0 := by simp at hge; omega
          refine evp_d (fun _ => ?_) (fun hne => absurd (by rw [hrl, hn, hsize_nil]; rfl) hne)
          rw [w_succ (by omega)]
          have hx1 : (hd (x.take i)) + 1 ≤ hsize (x.take i) := hd_size _
          refine (sCut_done c x hs d (i + 1) (-1) (x.take i) true (by omega) (by omega) (by omega) (by omega)).p ⟨x.drop (i + 1), true, ?_, rfl⟩
          rw [e1, cut_leaf c g _ _ hb, if_pos hg0]
        | false =>
          rw [hb] at hge
          have hgl : g < hd x[i].f0 := by simp at hge; omega
          have hne : ¬ ((hrow x[i].f0).length : Int) = 1 := by
            intro h
            rw [hrl] at h
            have := hsize_len x[i].f0
            have h0 : x[i].f0 = [] := List.eq_nil_of_length_eq_zero (by omega)
            rw [h0] at hb; cases hb
          refine evp_d (fun h => absurd h hne) (fun _ => evp_gd (by omega) ?_)
          refine evp_bind (ih _ hm (by omega) g hgl) (fun p hp => ?_)
          obtain ⟨y, o, hc, rfl⟩ := hp
          have hy := (cut_size c hc9 _ _ hc).1
          have hyl := hsize_len y
          refine evp_gd (by rw [limE]; simp [brs]; omega) ?_
          rw [brs_snoc]
          have ecut : cut c (x.drop i) g = some (List.replicate (if o then c else 1) (.mk y) ++ x.drop (i + 1), false) := by
            rw [e1, cut_node c g _ _ hb, hc]
          have fin : ∀ m : Nat, m ≤ 9 → m = (if o then c else 1) → Ev (fun k => spec_l5Cut.l0 k (-1) (c : Int) (brs x) (brs (x.take i ++ List.replicate m (Hydra.mk y))) false (wr ((i : Int) + 1))) (hrow (x.take i ++ (List.replicate m (Hydra.mk y) ++ x.drop (i + 1))), false) := by
            intro m hm1 hm2
            rw [w_succ (by omega)]
            have := sCut_done c x hs d (i + 1) (-1) (x.take i ++ List.replicate m (Hydra.mk y)) false (by omega) (by
              have h1 := hsize_app (x.take i) (List.replicate m (Hydra.mk y))
              have h2 := hsize_rep m y []
              rw [List.append_nil, hsize_nil] at h2
              have h3 : m * hsize y ≤ 9 * hsize y := Nat.mul_le_mul_right _ hm1
              omega) (by omega) (by omega)
            rw [List.append_assoc] at this
            exact this
          cases o with
          | false =>
            have l1 : Ev (fun k => spec_l5Cut.l1 k (c : Int) (brs x) (brs (x.take i ++ [Hydra.mk y])) false (i : Int) (hrow y) false 1) (hrow (x.take i ++ (List.replicate 1 (Hydra.mk y) ++ x.drop (i + 1))), false) := by
              refine ev_succ (fun k => spec_l5Cut.l1_eq k _ _ _ _ _ _ _ _) ?_
              by_cases h1 : (1 : Int) < c
              · exact ev_dt h1 (ev_bf rfl (fin 1 (by omega) rfl))
              · exact ev_df h1 (fin 1 (by omega) rfl)
            exact l1.p ⟨_, _, ecut, rfl⟩
          | true =>
            have l1 : ∀ d j : Nat, j + d = c → 1 ≤ j → Ev (fun k => spec_l5Cut.l1 k (c : Int) (brs x) (brs (x.take i ++ List.replicate j (Hydra.mk y))) false (i : Int) (hrow y) true (j : Int)) (hrow (x.take i ++ (List.replicate c (Hydra.mk y) ++ x.drop (i + 1))), false) := by
              intro d
              induction d with
              | zero =>
                intro j hj _
                refine ev_succ (fun k => spec_l5Cut.l1_eq k _ _ _ _ _ _ _ _) (ev_df (by omega) ?_)
                rw [show j = c by omega]
                exact fin c hc9 rfl
              | succ d ihd =>
                intro j hj hj1
                refine ev_succ (fun k => spec_l5Cut.l1_eq k _ _ _ _ _ _ _ _) (ev_dt (by omega) (ev_bt rfl (ev_gd (by rw [limE]; simp [brs]; omega) ?_)))
                rw [brs_snoc, w_succ (by omega), List.append_assoc, ← List.replicate_succ']
                exact ihd (j + 1) (by omega) (by omega)
            exact (l1 (c - 1) 1 (by omega) (by omega)).p ⟨_, _, ecut, rfl⟩
  have := loop x.length 0 h (by omega) (by rw [List.drop_zero]; exact hh)
  refine evp_succ (fun k => spec_l5Cut.f_eq k _ _ _) (evp_bindv (branches_ev x hs) ?_)
  exact this
/-! A cut of a row. -/
def cutR (r : List Int) (h c : Int) : List Int × Bool := if HV r = true ∧ (1 ≤ c ∧ c ≤ 9) ∧ 0 ≤ h ∧ h < hd (ht r) then
    (match cut c.toNat (ht r) h.toNat with
      | some (y, _) => if hsize y ≤ 60 then (hrow y, true) else ([], false)
      | none => ([], false))
  else ([], false)
theorem cutR_valid {r : List Int} {h c : Int} (e : (cutR r h c).2 = true) : HV (cutR r h c).1 = true := by
  unfold cutR at e ⊢
  split
  · split
    · split
      · rename_i h1; rw [HV_row]; exact decide_eq_true h1
      · simp_all
    · simp_all
  · simp_all
theorem clip_ev (x : List Int) : Ev (fun k => slices_Clip_int_int.f k x) x := by
  refine ev_succ (fun k => slices_Clip_int_int.f_eq k _) (ev_gd (by omega) (ev_some.2 ?_))
  rw [Int.toNat_natCast, List.take_length]
theorem grown_ev (y : List Hydra) (hs : hsize y ≤ 1000000) : Ev (fun k => impl_grown.f k y) (if hsize y ≤ 60 then (hrow y, true) else ([], false)) := by
  refine ev_succ (fun k => impl_grown.f_eq k _) (ev_bind (row_ev y hs) ?_)
  have e : (hrow y).length = hsize y := rfl
  by_cases h : hsize y ≤ 60
  · rw [if_pos h]
    exact ev_df (by omega) (ev_bind (clip_ev _) (ev_some.2 rfl))
  · rw [if_neg h]
    exact ev_dt (by omega) (ev_some.2 rfl)
theorem iHCut_ev (r : List Int) (h c : Int) : Ev (fun k => impl_HydraCut.f k r h c) (cutR r h c) := by
  obtain ⟨x, h1, h2, h3⟩ := hydraOf_ev r
  refine ev_succ (fun k => impl_HydraCut.f_eq k _ _ _) (ev_bind h1 ?_)
  rw [h2]
  unfold cutR
  by_cases hc : HV r = true ∧ (1 ≤ c ∧ c ≤ 9) ∧ 0 ≤ h ∧ h < hd (ht r)
  · rw [if_pos hc]
    obtain ⟨hv, ⟨c1, c9⟩, h0, hh⟩ := hc
    have hs := (ht_fit hv).2.1
    have hpx := hd_size (ht r)
    rw [h3 hv]
    refine ev_nf hv (ev_df (by omega) (ev_df (by omega) (ev_df (by omega) (ev_bind (heads_ev _ (by omega)) (ev_df (by omega) ?_)))))
    have hcut := iCut_ev c.toNat (by omega) (by omega) (ht r) hs h.toNat true (by omega)
    have hsm := cut_some c.toNat (ht r) h.toNat
    rw [decide_eq_true (by omega)] at hsm
    rw [Int.toNat_of_nonneg h0, Int.toNat_of_nonneg (show 0 ≤ c by omega)] at hcut
    refine ev_bind hcut ?_
    cases hq : cut c.toNat (ht r) h.toNat with
    | none => rw [hq] at hsm; cases hsm
    | some q =>
      obtain ⟨y, o⟩ := q
      have := (cut_size c.toNat (by omega) _ _ hq).1
      exact ev_bind (grown_ev y (by omega)) (ev_some.2 rfl)
  · rw [if_neg hc]
    cases hv : HV r with
    | false => exact ev_nt rfl (ev_some.2 rfl)
    | true =>
      refine ev_nf rfl ?_
      by_cases c1 : c < 1
      · exact ev_dt c1 (ev_some.2 rfl)
      · refine ev_df c1 ?_
        by_cases c9 : c > 9
        · exact ev_dt c9 (ev_some.2 rfl)
        · refine ev_df c9 ?_
          by_cases h0 : h < 0
          · exact ev_dt h0 (ev_some.2 rfl)
          · refine ev_df h0 ?_
            rw [h3 hv]
            refine ev_bind (heads_ev _ (by have := (ht_fit hv).2.1; omega)) (ev_dt ?_ (ev_some.2 rfl))
            have : ¬ h < hd (ht r) := fun h1 => hc ⟨hv, ⟨by omega, by omega⟩, by omega, h1⟩
            omega
theorem sHCut_ev (r : List Int) (h c : Int) : Ev (fun k => spec_HydraCut.f k r h c) (cutR r h c) := by
  refine ev_succ (fun k => spec_HydraCut.f_eq k _ _ _) (ev_bind (hvalid_ev r) ?_)
  unfold cutR
  cases hv : HV r with
  | false => exact ev_nt rfl (ev_some.2 (by simp))
  | true =>
    have hs := (ht_fit hv).2.1
    have er := (ht_fit hv).1
    have hpx := hd_size (ht r)
    refine ev_nf rfl (ev_bind (l1In_ev _ _ _) ?_)
    by_cases hc : 1 ≤ c ∧ c ≤ 9
    · refine ev_nf (by simp; omega) (ev_bind (sHeads_ev r) (ev_bind (l1In_ev _ _ _) ?_))
      have eh : headsR r = hd (ht r) := by rw [headsR, if_pos hv]
      rw [eh, w64 (by omega) (by omega)]
      by_cases hh : 0 ≤ h ∧ h < hd (ht r)
      · refine ev_nf (by simp; omega) ?_
        rw [if_pos ⟨rfl, hc, hh⟩]
        obtain ⟨p, hp, y, o, hq, rfl⟩ := sCut_ev c.toNat (by omega) (by omega) (ht r) hs h.toNat (by omega)
        rw [← er, Int.toNat_of_nonneg hh.1, Int.toNat_of_nonneg (show 0 ≤ c by omega)] at hp
        refine ev_bind hp (ev_bind (hvalid_ev _) ?_)
        rw [hq]
        show Ev (fun k => br (!HV (hrow y)) _ _) (if hsize y ≤ 60 then (hrow y, true) else ([], false))
        rw [HV_row]
        by_cases hy : hsize y ≤ 60
        · rw [if_pos hy, decide_eq_true hy]; exact ev_nf rfl (ev_some.2 rfl)
        · rw [if_neg hy, decide_eq_false hy]; exact ev_nt rfl (ev_some.2 rfl)
      · refine ev_nt (by simp; omega) (ev_some.2 ?_)
        rw [if_neg (fun h => hh h.2.2)]
    · refine ev_nt (by simp; omega) (ev_some.2 ?_)
      rw [if_neg (fun h => hc h.2.1)]
/-! A run of cuts. -/
def runL (c : Int) : List Int → List Int → List Int × Bool
  | [], r => (r, true)
  | h :: t, r => if (cutR r h c).2 = true then runL c t (cutR r h c).1 else ([], false)
def runR (r cuts : List Int) (c : Int) : List Int × Bool := if HV r = true ∧ cuts.length ≤ 400 ∧ 1 ≤ c ∧ c ≤ 9 then runL c cuts r else ([], false)
theorem iRun_l0 (c : Int) (l : List Int) (hl : l.length ≤ 400) : ∀ (d i : Nat) (r : List Int), i + d = l.length → Ev (fun k => impl_HydraRun.l0 k c r l (l.length : Int) (i : Int)) (runL c (l.drop i) r) := by
  intro d
  induction d with
  | zero =>
    intro i r hi
    refine ev_succ (fun k => impl_HydraRun.l0_eq k _ _ _ _ _) (ev_df (by omega) (ev_some.2 ?_))
    rw [List.drop_eq_nil_of_le (by omega)]; rfl
  | succ d ih =>
    intro i r hi
    have hlt : i < l.length := by omega
    refine ev_succ (fun k => impl_HydraRun.l0_eq k _ _ _ _ _) (ev_dt (by omega) (ev_gd (by omega) ?_))
    rw [hget_at hlt, List.drop_eq_getElem_cons hlt, runL]
    refine ev_bind (iHCut_ev _ _ _) ?_
    cases hc : (cutR r l[i] c).2 with
    | false => exact ev_nt rfl (ev_some.2 (by simp))
    | true =>
      refine ev_nf rfl ?_
      rw [w_succ (by omega), if_pos rfl]
      exact ih (i + 1) _ (by omega)
theorem sRun_l0 (c : Int) (l : List Int) (hl : l.length ≤ 400) : ∀ (d i : Nat) (r : List Int), i + d = l.length → Ev (fun k => spec_HydraRun.l0 k l c r (i : Int)) (runL c (l.drop i) r) := by
  intro d
  induction d with
  | zero =>
    intro i r hi
    refine ev_succ (fun k => spec_HydraRun.l0_eq k _ _ _ _) (ev_df (by omega) (ev_some.2 ?_))
    rw [List.drop_eq_nil_of_le (by omega)]; rfl
  | succ d ih =>
    intro i r hi
    have hlt : i < l.length := by omega
    refine ev_succ (fun k => spec_HydraRun.l0_eq k _ _ _ _) (ev_dt (by omega) (ev_gd (by omega) ?_))
    rw [hget_at hlt, List.drop_eq_getElem_cons hlt, runL]
    refine ev_bind (sHCut_ev _ _ _) ?_
    cases hc : (cutR r l[i] c).2 with
    | false => exact ev_nt rfl (ev_some.2 (by simp))
    | true =>
      refine ev_nf rfl ?_
      rw [w_succ (by omega), if_pos rfl]
      exact ih (i + 1) _ (by omega)
theorem cloneI_ev (x : List Int) (h : x.length < lim) : Ev (fun k => slices_Clone_int_int.f k x) x := by
  have : (fun k => slices_Clone_int_int.f k x) = fun k => gate (decide (0 + x.length < lim)) (some x) := funext fun k => slices_Clone_int_int.f_eq k x
  rw [this]
  exact ev_gd (by omega) (ev_some.2 rfl)
theorem HV_len {r : List Int} (h : HV r = true) : 1 ≤ r.length ∧ r.length ≤ 60 := by
  obtain ⟨e, hs, _⟩ := ht_fit h
  have hl : r.length = hsize (ht r) := by rw [hsize, ← e]
  have := hsize_pos (ht r)
  omega
theorem iRun_ev (r cuts : List Int) (c : Int) : Ev (fun k => impl_HydraRun.f k r cuts c) (runR r cuts c) := by
  refine ev_succ (fun k => impl_HydraRun.f_eq k _ _ _) (ev_bind (implHV_ev r) ?_)
  unfold runR
  cases hv : HV r with
  | false => exact ev_nt rfl (ev_some.2 (by simp))
  | true =>
    have := HV_len hv
    refine ev_nf rfl ?_
    by_cases h4 : cuts.length ≤ 400
    · refine ev_df (by omega) ?_
      by_cases c1 : c < 1
      · exact ev_dt c1 (ev_some.2 (by rw [if_neg (by omega)]))
      · refine ev_df c1 ?_
        by_cases c9 : c > 9
        · exact ev_dt c9 (ev_some.2 (by rw [if_neg (by omega)]))
        · refine ev_df c9 (ev_bind (cloneI_ev r (by rw [limE]; omega)) ?_)
          rw [if_pos ⟨rfl, h4, by omega, by omega⟩]
          exact iRun_l0 c cuts h4 cuts.length 0 r (by omega)
    · exact ev_dt (by omega) (ev_some.2 (by rw [if_neg (by omega)]))
theorem sRun_ev (r cuts : List Int) (c : Int) : Ev (fun k => spec_HydraRun.f k r cuts c) (runR r cuts c) := by
  refine ev_succ (fun k => spec_HydraRun.f_eq k _ _ _) (ev_bind (hvalid_ev r) ?_)
  unfold runR
  cases hv : HV r with
  | false => exact ev_nt rfl (ev_some.2 (by simp))
  | true =>
    have := HV_len hv
    refine ev_nf rfl ?_
    by_cases h4 : cuts.length ≤ 400
    · refine ev_df (by omega) (ev_bind (l1In_ev _ _ _) ?_)
      by_cases hc : 1 ≤ c ∧ c ≤ 9
      · refine ev_nf (by simp; omega) (ev_gd (by rw [limE]; simp; omega) ?_)
        rw [if_pos ⟨rfl, h4, hc⟩]
        exact sRun_l0 c cuts h4 cuts.length 0 r (by omega)
      · exact ev_nt (by simp; omega) (ev_some.2 (by rw [if_neg (fun h => hc h.2.2)]))
    · exact ev_dt (by omega) (ev_some.2 (by rw [if_neg (by omega)]))
/-! A fight to the end. -/
def fightL (c : Int) : Nat → List Int → Int
  | 0, _ => -1
  | d + 1, r => if r.length = 1 then 400 - (d : Int) else if (cutR r (wr (headsR r - 1)) c).2 = true then fightL c d (cutR r (wr (headsR r - 1)) c).1 else -1
def fightR (r : List Int) (c : Int) : Int := if HV r = true ∧ 1 ≤ c ∧ c ≤ 9 then fightL c 401 r else -1
theorem sFight_l0 (c : Int) : ∀ (d : Nat) (r : List Int), d ≤ 401 → Ev (fun k => spec_HydraFight.l0 k r c (401 - (d : Int))) (fightL c d r) := by
  intro d
  induction d with
  | zero => intro r _; exact ev_succ (fun k => spec_HydraFight.l0_eq k _ _ _) (ev_df (by omega) (ev_some.2 rfl))
  | succ d ih =>
    intro r hd
    refine ev_succ (fun k => spec_HydraFight.l0_eq k _ _ _) (ev_dt (by omega) ?_)
    rw [fightL]
    by_cases h1 : r.length = 1
    · refine ev_dt (by omega) (ev_some.2 ?_)
      rw [if_pos h1]; omega
    · refine ev_df (by omega) (ev_bind (sHeads_ev r) (ev_bind (sHCut_ev _ _ _) ?_))
      rw [if_neg h1]
      cases hc : (cutR r (wr (headsR r - 1)) c).2 with
      | false => exact ev_nt rfl (ev_some.2 (by simp))
      | true =>
        refine ev_nf rfl ?_
        rw [if_pos rfl, w64 (x := 401 - ((d + 1 : Nat) : Int) + 1) (by omega) (by omega)]
        have := ih (cutR r (wr (headsR r - 1)) c).1 (by omega)
        rw [show (401 : Int) - ((d + 1 : Nat) : Int) + 1 = 401 - (d : Int) by omega]
        exact this
theorem HV_one {r : List Int} (h : HV r = true) : r.getD (0 : Int).toNat 0 = 0 ↔ r.length = 1 := by
  obtain ⟨e, hs, _⟩ := ht_fit h
  have hl : r.length = hsize (ht r) := by rw [hsize, ← e]
  have h0 : r.getD (0 : Int).toNat 0 = ((ht r).length : Int) := (congrArg (fun z => z.getD (0 : Int).toNat 0) e).trans rfl
  rw [h0, hl]
  constructor
  · intro h
    have : ht r = [] := List.eq_nil_of_length_eq_zero (by omega)
    rw [this, hsize_nil]
  · intro h
    have := hsize_len (ht r)
    omega
theorem iFight_l0 (c : Int) : ∀ (d : Nat) (r : List Int), d ≤ 401 → HV r = true → Ev (fun k => impl_HydraFight.l0 k r c (401 - (d : Int))) (fightL c d r) := by
  intro d
  induction d with
  | zero => intro r _ _; exact ev_succ (fun k => impl_HydraFight.l0_eq k _ _ _) (ev_df (by omega) (ev_some.2 rfl))
  | succ d ih =>
    intro r hd hv
    have := HV_len hv
    refine ev_succ (fun k => impl_HydraFight.l0_eq k _ _ _) (ev_dt (by omega) (ev_gd (by omega) ?_))
    rw [fightL]
    by_cases h1 : r.length = 1
    · refine ev_dt ((HV_one hv).2 h1) (ev_some.2 ?_)
      rw [if_pos h1]; omega
    · refine ev_df (fun h => h1 ((HV_one hv).1 h)) (ev_bind (iHeads_ev r) (ev_bind (iHCut_ev _ _ _) ?_))
      rw [if_neg h1]
      cases hc : (cutR r (wr (headsR r - 1)) c).2 with
      | false => exact ev_nt rfl (ev_some.2 (by simp))
      | true =>
        refine ev_nf rfl ?_
        rw [if_pos rfl, w64 (x := 401 - ((d + 1 : Nat) : Int) + 1) (by omega) (by omega)]
        have := ih (cutR r (wr (headsR r - 1)) c).1 (by omega) (cutR_valid hc)
        rw [show (401 : Int) - ((d + 1 : Nat) : Int) + 1 = 401 - (d : Int) by omega]
        exact this
theorem sFight_ev (r : List Int) (c : Int) : Ev (fun k => spec_HydraFight.f k r c) (fightR r c) := by
  refine ev_succ (fun k => spec_HydraFight.f_eq k _ _) (ev_bind (hvalid_ev r) ?_)
  unfold fightR
  cases hv : HV r with
  | false => exact ev_nt rfl (ev_some.2 (by simp))
  | true =>
    refine ev_nf rfl (ev_bind (l1In_ev _ _ _) ?_)
    by_cases hc : 1 ≤ c ∧ c ≤ 9
    · refine ev_nf (by simp; omega) ?_
      rw [if_pos ⟨rfl, hc⟩]
      exact sFight_l0 c 401 r (by omega)
    · exact ev_nt (by simp; omega) (ev_some.2 (by rw [if_neg (fun h => hc h.2)]))
theorem iFight_ev (r : List Int) (c : Int) : Ev (fun k => impl_HydraFight.f k r c) (fightR r c) := by
  refine ev_succ (fun k => impl_HydraFight.f_eq k _ _) (ev_bind (implHV_ev r) ?_)
  unfold fightR
  cases hv : HV r with
  | false => exact ev_nt rfl (ev_some.2 (by simp))
  | true =>
    refine ev_nf rfl ?_
    by_cases c1 : c < 1
    · exact ev_dt c1 (ev_some.2 (by rw [if_neg (by omega)]))
    · refine ev_df c1 ?_
      by_cases c9 : c > 9
      · exact ev_dt c9 (ev_some.2 (by rw [if_neg (by omega)]))
      · refine ev_df c9 ?_
        rw [if_pos ⟨rfl, by omega, by omega⟩]
        exact iFight_l0 c 401 r (by omega) hv
/-! Rows held against each other. -/
theorem eq_step {a b : List Int} {i : Nat} (h1 : i < a.length) (h2 : i < b.length) : decide (a.drop i = b.drop i) = (decide (a[i] = b[i]) && decide (a.drop (i + 1) = b.drop (i + 1))) := by
  have e : (a.drop i = b.drop i) ↔ (a[i] = b[i] ∧ a.drop (i + 1) = b.drop (i + 1)) := by
    have e1 := List.drop_eq_getElem_cons h1
    have e2 := List.drop_eq_getElem_cons h2
    constructor
    · intro h
      rw [e1, e2] at h
      exact ⟨(List.cons.inj h).1, (List.cons.inj h).2⟩
    · rintro ⟨h, h'⟩
      rw [e1, e2, h, h']
  rw [← Bool.decide_and]
  exact decide_eq_decide.2 e
theorem equal_ev (a b : List Int) (ha : a.length ≤ 1000000000) : Ev (fun k => slices_Equal_int_int.f k a b) (decide (a = b)) := by
  refine ev_succ (fun k => slices_Equal_int_int.f_eq k _ _) ?_
  by_cases hl : a.length = b.length
  · refine ev_nf (by simp [hl]) ?_
    have loop : ∀ d i : Nat, i + d = a.length → Ev (fun k => slices_Equal_int_int.l0 k a b (a.length : Int) (i : Int)) (decide (a.drop i = b.drop i)) := by
      intro d
      induction d with
      | zero =>
        intro i hi
        refine ev_succ (fun k => slices_Equal_int_int.l0_eq k _ _ _ _) (ev_df (by omega) (ev_some.2 ?_))
        rw [List.drop_eq_nil_of_le (by omega), List.drop_eq_nil_of_le (by omega)]; simp
      | succ d ih =>
        intro i hi
        refine ev_succ (fun k => slices_Equal_int_int.l0_eq k _ _ _ _) (ev_dt (by omega) (ev_gd (by omega) (ev_gd (by omega) ?_)))
        rw [hget_at (by omega : i < a.length), hget_at (by omega : i < b.length), eq_step (by omega) (by omega), w_succ (by omega)]
        cases h : decide (a[i] = b[i]) with
        | false => exact ev_nt rfl (ev_some.2 rfl)
        | true => exact ev_nf rfl (by rw [Bool.true_and]; exact ih (i + 1) (by omega))
    exact loop a.length 0 (by omega)
  · refine ev_nt (by simp; omega) (ev_some.2 ?_)
    exact (decide_eq_false (fun h => hl (by rw [h]))).symm
theorem same_ev (a b : List Int) (ha : a.length ≤ 1000000000) : Ev (fun k => spec_l1Same.f k a b) (decide (a = b)) := by
  refine ev_succ (fun k => spec_l1Same.f_eq k _ _) ?_
  have loop : ∀ d i : Nat, i + d = a.length → i ≤ b.length → Ev (fun k => spec_l1Same.l0 k a b (i : Int)) (decide (a.drop i = b.drop i)) := by
    intro d
    induction d with
    | zero =>
      intro i hi hb
      refine ev_succ (fun k => spec_l1Same.l0_eq k _ _ _) (ev_df (by omega) (ev_some.2 ?_))
      rw [List.drop_eq_nil_of_le (by omega : a.length ≤ i)]
      by_cases h : a.length = b.length
      · rw [List.drop_eq_nil_of_le (by omega)]; simp [h]
      · rw [decide_eq_false (by omega)]
        refine (decide_eq_false (fun h2 => h ?_)).symm
        have := congrArg List.length h2
        rw [List.length_drop] at this
        simp at this
        omega
    | succ d ih =>
      intro i hi hb
      refine ev_succ (fun k => spec_l1Same.l0_eq k _ _ _) (ev_dt (by omega) ?_)
      by_cases h : i < b.length
      · refine ev_dt (by omega) (ev_gd (by omega) (ev_gd (by omega) ?_))
        rw [hget_at (by omega : i < a.length), hget_at h, eq_step (by omega) h, w_succ (by omega)]
        cases h : decide (a[i] = b[i]) with
        | false => exact ev_nt rfl (ev_some.2 rfl)
        | true => exact ev_nf rfl (by rw [Bool.true_and]; exact ih (i + 1) (by omega) (by omega))
      · refine ev_df (by omega) (ev_some.2 ?_)
        rw [decide_eq_false (by omega), List.drop_eq_nil_of_le (by omega : b.length ≤ i)]
        refine (decide_eq_false (fun h2 => ?_)).symm
        have := congrArg List.length h2
        rw [List.length_drop] at this
        simp at this
        omega
  exact loop a.length 0 (by omega) (by omega)
/-! Battles. -/
def bvalR (b : Battle) : Bool := (runR b.f0 b.f2 b.f1).2 && decide ((runR b.f0 b.f2 b.f1).1 = b.f3)
theorem runL_len (c : Int) : ∀ (l r : List Int), r.length ≤ 60 → (runL c l r).1.length ≤ 60
  | [], r, h => h
  | x :: l, r, h => by
    rw [runL]
    split
    · rename_i hc
      exact runL_len c l _ (HV_len (cutR_valid hc)).2
    · simp
theorem runR_len (r l : List Int) (c : Int) : (runR r l c).1.length ≤ 60 := by
  unfold runR
  split
  · rename_i h; exact runL_len c l r (HV_len h.1).2
  · simp
theorem iBV_ev (b : Battle) : Ev (fun k => impl_BattleValid.f k b) (bvalR b) := by
  refine ev_succ (fun k => impl_BattleValid.f_eq k _) (ev_bind (iRun_ev _ _ _) ?_)
  unfold bvalR
  have := runR_len b.f0 b.f2 b.f1
  cases h : (runR b.f0 b.f2 b.f1).2 with
  | false => exact ev_bf rfl (ev_some.2 rfl)
  | true => exact ev_bt rfl (ev_bind (equal_ev _ _ (by omega)) (ev_some.2 (by simp)))
theorem sBV_ev (b : Battle) : Ev (fun k => spec_BattleValid.f k b) (bvalR b) := by
  refine ev_succ (fun k => spec_BattleValid.f_eq k _) (ev_bind (sRun_ev _ _ _) ?_)
  unfold bvalR
  have := runR_len b.f0 b.f2 b.f1
  cases h : (runR b.f0 b.f2 b.f1).2 with
  | false => exact ev_bf rfl (ev_some.2 rfl)
  | true => exact ev_bt rfl (ev_bind (same_ev _ _ (by omega)) (ev_some.2 (by simp)))
def leftR (b : Battle) : Int := if bvalR b = true then fightR b.f3 b.f1 else -1
theorem iBL_ev (b : Battle) : Ev (fun k => impl_BattleLeft.f k b) (leftR b) := by
  refine ev_succ (fun k => impl_BattleLeft.f_eq k _) (ev_bind (iBV_ev _) ?_)
  unfold leftR
  cases h : bvalR b with
  | false => exact ev_nt rfl (ev_some.2 (by simp))
  | true => exact ev_nf rfl (ev_bind (iFight_ev _ _) (ev_some.2 (by simp)))
theorem sBL_ev (b : Battle) : Ev (fun k => spec_BattleLeft.f k b) (leftR b) := by
  refine ev_succ (fun k => spec_BattleLeft.f_eq k _) (ev_bind (sBV_ev _) ?_)
  unfold leftR
  cases h : bvalR b with
  | false => exact ev_nt rfl (ev_some.2 (by simp))
  | true => exact ev_nf rfl (ev_bind (sFight_ev _ _) (ev_some.2 (by simp)))
/-! Texts of hydras: both sides. -/
theorem htxt_at {x : List Hydra} {i : Nat} (h : i < x.length) : (hXs (x.take i)).length + 2 * hsize x[i].f0 + 2 ≤ 2 * hsize x := by
  have h1 := hXs_take h
  have h2 := congrArg List.length h1
  rw [List.length_append, hText_len] at h2
  have h3 := hXs_len (x.take (i + 1))
  have h4 := hsize_take x (i + 1)
  omega
theorem iText_ev (x : List Hydra) : hsize x ≤ 1000000 → Ev (fun k => impl_hydra__text.f k x) (hText x) := by
  refine hyd_mem (P := fun x => hsize x ≤ 1000000 → Ev (fun k => impl_hydra__text.f k x) (hText x)) ?_ x
  intro x ih hs
  have hl := hsize_len x
  have loop : ∀ d i : Nat, i + d = x.length → Ev (fun k => impl_hydra__text.l0 k (40 :: hXs (x.take i)) x (x.length : Int) (i : Int)) (hText x) := by
    intro d
    induction d with
    | zero =>
      intro i hi
      have h3 := hXs_len (x.take i)
      have h4 := hsize_take x i
      refine ev_succ (fun k => impl_hydra__text.l0_eq k _ _ _ _) (ev_df (by omega) (ev_gd (by rw [limE]; simp; omega) (ev_some.2 ?_)))
      rw [List.take_of_length_le (by omega)]; rfl
    | succ d ihd =>
      intro i hi
      have hlt : i < x.length := by omega
      have hm : x[i] ∈ x := List.getElem_mem hlt
      have hz := hsize_mem hm
      have ha := htxt_at hlt
      refine ev_succ (fun k => impl_hydra__text.l0_eq k _ _ _ _) (ev_dt (by omega) (ev_gd (by omega) ?_))
      rw [hget_at hlt]
      refine ev_bind (ih _ hm (by omega)) (ev_gd ?_ ?_)
      · rw [limE, List.length_cons, hText_len]; omega
      · rw [w_succ (by omega), List.cons_append, ← hXs_take hlt]
        exact ihd (i + 1) (by omega)
  have := loop x.length 0 (by omega)
  rw [List.take_zero, hXs_nil] at this
  exact ev_succ (fun k => impl_hydra__text.f_eq k _) this
theorem sText_ev (x : List Hydra) : hsize x ≤ 60 → Ev (fun k => spec_l5Text.f k (hrow x)) (hText x) := by
  refine hyd_mem (P := fun x => hsize x ≤ 60 → Ev (fun k => spec_l5Text.f k (hrow x)) (hText x)) ?_ x
  intro x ih hs
  have hl := hsize_len x
  have hbl : (brs x).length = x.length := by simp [brs]
  have loop : ∀ d i : Nat, i + d = x.length → Ev (fun k => spec_l5Text.l0 k (40 :: hXs (x.take i)) (brs x) (i : Int)) (hText x) := by
    intro d
    induction d with
    | zero =>
      intro i hi
      have h3 := hXs_len (x.take i)
      have h4 := hsize_take x i
      refine ev_succ (fun k => spec_l5Text.l0_eq k _ _ _) (ev_df (by omega) (ev_gd (by rw [limE]; simp; omega) (ev_some.2 ?_)))
      rw [List.take_of_length_le (by omega)]; rfl
    | succ d ihd =>
      intro i hi
      have hlt : i < x.length := by omega
      have hm : x[i] ∈ x := List.getElem_mem hlt
      have hz := hsize_mem hm
      have ha := htxt_at hlt
      refine ev_succ (fun k => spec_l5Text.l0_eq k _ _ _) (ev_dt (by omega) (ev_gd (by omega) ?_))
      rw [brs_at hlt]
      refine ev_bind (ih _ hm (by omega)) (ev_gd ?_ ?_)
      · rw [limE, List.length_cons, hText_len]; omega
      · rw [w_succ (by omega), List.cons_append, ← hXs_take hlt]
        exact ihd (i + 1) (by omega)
  have := loop x.length 0 (by omega)
  rw [List.take_zero, hXs_nil] at this
  exact ev_succ (fun k => spec_l5Text.f_eq k _) (ev_bind (branches_ev x hs) this)
def htxtV (r : List Int) : List UInt8 := if HV r = true then hText (ht r) else []
theorem iHText_ev (r : List Int) : Ev (fun k => impl_HydraText.f k r) (htxtV r) := by
  obtain ⟨x, x1, x2, x3⟩ := hydraOf_ev r
  refine ev_succ (fun k => impl_HydraText.f_eq k _) (ev_bind x1 ?_)
  unfold htxtV
  rw [x2]
  cases h : HV r with
  | false => exact ev_nt rfl (ev_some.2 (by simp))
  | true =>
    rw [x3 h]
    have hf := (ht_fit h).2.1
    exact ev_nf rfl (ev_bind (iText_ev (ht r) (by omega)) (ev_some.2 (by simp)))
theorem sHText_ev (r : List Int) : Ev (fun k => spec_HydraText.f k r) (htxtV r) := by
  refine ev_succ (fun k => spec_HydraText.f_eq k _) (ev_bind (hvalid_ev r) ?_)
  unfold htxtV
  cases h : HV r with
  | false => exact ev_nt rfl (ev_some.2 (by simp))
  | true =>
    obtain ⟨h1, h2, _⟩ := ht_fit h
    have := sText_ev (ht r) h2
    rw [← h1] at this
    exact ev_nf rfl (ev_bind this (ev_some.2 (by simp)))
theorem htxtV_ne {r : List Int} (h : HV r = true) : htxtV r ≠ [] := by
  unfold htxtV
  rw [if_pos h]
  simp [hText]
/-! Trees, their rows, their order. -/
mutual
def fT : Term → List Int
  | ⟨c, e⟩ => c :: (e.length : Int) :: fL e
def fL : List Term → List Int
  | [] => []
  | t :: x => fT t ++ fL x
end
def row (x : List Term) : List Int := (x.length : Int) :: fL x
theorem fT_eq (t : Term) : fT t = t.f0 :: row t.f1 := by cases t; rw [fT]; rfl
theorem fL_nil : fL [] = [] := by rw [fL]
theorem fL_cons (t : Term) (x : List Term) : fL (t :: x) = t.f0 :: (row t.f1 ++ fL x) := by rw [fL, fT_eq]; rfl
theorem fL_app (x y : List Term) : fL (x ++ y) = fL x ++ fL y := by
  induction x with
  | nil => simp [fL_nil]
  | cons t x ih => simp [fL_cons, ih]
def size (x : List Term) : Nat := (row x).length
theorem size_eq (x : List Term) : size x = 1 + (fL x).length := by simp [size, row, Nat.add_comm]
theorem size_nil : size [] = 1 := by simp [size_eq, fL_nil]
theorem size_cons (t : Term) (x : List Term) : size (t :: x) = 1 + size t.f1 + size x := by
  simp only [size_eq, fL_cons, List.length_cons, List.length_append]
  have := size_eq t.f1
  simp only [size] at this
  omega
theorem size_pos (x : List Term) : 1 ≤ size x := by rw [size_eq]; omega
theorem size_len (x : List Term) : 1 + 2 * x.length ≤ size x := by
  induction x with
  | nil => simp [size_nil]
  | cons t x ih => rw [size_cons]; have := size_pos t.f1; simp; omega
theorem size_app (x y : List Term) : size (x ++ y) + 1 = size x + size y := by
  simp only [size_eq, fL_app, List.length_append]; omega
mutual
def mT : Term → Int
  | ⟨c, e⟩ => max c (mL e)
def mL : List Term → Int
  | [] => 0
  | t :: x => max (mT t) (mL x)
end
theorem mT_eq (t : Term) : mT t = max t.f0 (mL t.f1) := by cases t; rw [mT]
theorem mL_nil : mL [] = 0 := by rw [mL]
theorem mL_cons (t : Term) (x : List Term) : mL (t :: x) = max (max t.f0 (mL t.f1)) (mL x) := by rw [mL, mT_eq]
theorem mL_pos (x : List Term) : 0 ≤ mL x := by
  induction x with
  | nil => simp [mL_nil]
  | cons t x ih => rw [mL_cons]; omega
theorem mL_app (x y : List Term) : mL (x ++ y) = max (mL x) (mL y) := by
  induction x with
  | nil => rw [mL_nil, List.nil_append]; have := mL_pos y; omega
  | cons t x ih => simp only [List.cons_append, mL_cons, ih]; omega
theorem mL_mem {x : List Term} {t : Term} (h : t ∈ x) : t.f0 ≤ mL x ∧ mL t.f1 ≤ mL x := by
  induction x with
  | nil => cases h
  | cons s x ih =>
    rw [mL_cons]
    rcases List.mem_cons.1 h with h | h
    · rw [h]; omega
    · have := ih h; omega
mutual
def cT : Term → Term → Int
  | ⟨c, e⟩, ⟨d, f⟩ => if cL e f = 0 then (if c < d then -1 else if c > d then 1 else 0) else cL e f
def cL : List Term → List Term → Int
  | [], [] => 0
  | [], _ :: _ => -1
  | _ :: _, [] => 1
  | a :: x, b :: y => if cT a b = 0 then cL x y else cT a b
end
theorem cT_eq (a b : Term) : cT a b = if cL a.f1 b.f1 = 0 then (if a.f0 < b.f0 then -1 else if a.f0 > b.f0 then 1 else 0) else cL a.f1 b.f1 := by cases a; cases b; rw [cT]
theorem cL_nn : cL [] [] = 0 := by rw [cL]
theorem cL_nc (b : Term) (y : List Term) : cL [] (b :: y) = -1 := by rw [cL]
theorem cL_cn (a : Term) (x : List Term) : cL (a :: x) [] = 1 := by rw [cL]
theorem cL_cc (a b : Term) (x y : List Term) : cL (a :: x) (b :: y) = if cT a b = 0 then cL x y else cT a b := by rw [cL]
/-- A property of trees, by their parts. -/
theorem tree_ind {P : List Term → Prop} (h0 : P []) (h1 : ∀ t x, P t.f1 → P x → P (t :: x)) : ∀ x, P x
  | [] => h0
  | ⟨c, e⟩ :: x => h1 ⟨c, e⟩ x (tree_ind h0 h1 e) (tree_ind h0 h1 x)
termination_by x => SizeOf.sizeOf x
theorem c_range (x : List Term) : ∀ y, cL x y = -1 ∨ cL x y = 0 ∨ cL x y = 1 := by
  refine tree_ind (P := fun x => ∀ y, cL x y = -1 ∨ cL x y = 0 ∨ cL x y = 1) ?_ ?_ x
  · intro y
    cases y with
    | nil => rw [cL_nn]; omega
    | cons b y => rw [cL_nc]; omega
  · intro t x h1 h2 y
    cases y with
    | nil => rw [cL_cn]; omega
    | cons b y =>
      rw [cL_cc, cT_eq]
      have a1 := h1 b.f1
      have a2 := h2 y
      by_cases e : cL t.f1 b.f1 = 0
      · rw [if_pos e]
        rcases Int.lt_trichotomy t.f0 b.f0 with h | h | h
        · simp [h]
        · simpa [h] using a2
        · have : ¬ t.f0 < b.f0 := by omega
          simp [h, this]
      · rw [if_neg e, if_neg e]
        exact a1
theorem c_refl (x : List Term) : cL x x = 0 := by
  refine tree_ind (P := fun x => cL x x = 0) cL_nn ?_ x
  intro t x h1 h2
  rw [cL_cc, cT_eq, h1, h2]
  simp
theorem c_eq (x : List Term) : ∀ y, cL x y = 0 → x = y := by
  refine tree_ind (P := fun x => ∀ y, cL x y = 0 → x = y) ?_ ?_ x
  · intro y h
    cases y with
    | nil => rfl
    | cons b y => rw [cL_nc] at h; omega
  · intro t x h1 h2 y h
    cases y with
    | nil => rw [cL_cn] at h; omega
    | cons b y =>
      rw [cL_cc, cT_eq] at h
      by_cases e : cL t.f1 b.f1 = 0
      · have e1 := h1 _ e
        rw [if_pos e] at h
        have : t.f0 = b.f0 := by
          apply Classical.byContradiction
          intro hc
          rcases Int.lt_or_gt_of_ne hc with hl | hl
          · simp [hl] at h
          · have : ¬ t.f0 < b.f0 := by omega
            simp [hl, this] at h
        have h3 : cL x y = 0 := by simpa [this] using h
        rw [h2 _ h3]
        cases t; cases b; simp_all
      · rw [if_neg e, if_neg e] at h
        exact absurd h e
theorem c_swap (x : List Term) : ∀ y, cL y x = - cL x y := by
  refine tree_ind (P := fun x => ∀ y, cL y x = - cL x y) ?_ ?_ x
  · intro y
    cases y with
    | nil => rw [cL_nn]; omega
    | cons b y => rw [cL_nc, cL_cn]; omega
  · intro t x h1 h2 y
    cases y with
    | nil => rw [cL_cn, cL_nc]
    | cons b y =>
      rw [cL_cc, cL_cc, cT_eq, cT_eq, h1 b.f1, h2 y]
      by_cases e : cL t.f1 b.f1 = 0
      · rw [if_pos (show - cL t.f1 b.f1 = 0 by omega), if_pos e]
        rcases Int.lt_trichotomy t.f0 b.f0 with h | h | h
        · have : ¬ b.f0 < t.f0 := by omega
          simp [h, this]
        · simp [h]
        · have : ¬ t.f0 < b.f0 := by omega
          simp [h, this]
      · rw [if_neg (show ¬ - cL t.f1 b.f1 = 0 by omega), if_neg e, if_neg (show ¬ - cL t.f1 b.f1 = 0 by omega), if_neg e]
/-- Less. -/
def Lt (x y : List Term) : Prop := cL x y = -1
theorem lt_cc {a b : Term} {x y : List Term} : Lt (a :: x) (b :: y) ↔ Lt a.f1 b.f1 ∨ (a.f1 = b.f1 ∧ (a.f0 < b.f0 ∨ (a.f0 = b.f0 ∧ Lt x y))) := by
  unfold Lt
  rw [cL_cc, cT_eq]
  by_cases e : cL a.f1 b.f1 = 0
  · have e1 := c_eq _ _ e
    rw [if_pos e]
    rcases Int.lt_trichotomy a.f0 b.f0 with h | h | h
    · simp [h, e1]
    · have := c_refl b.f1
      simp [h, e1, this]
    · have h' : ¬ a.f0 < b.f0 := by omega
      have h'' : ¬ a.f0 = b.f0 := by omega
      have := c_refl b.f1
      simp [h, h', h'', e1, this]
  · rw [if_neg e, if_neg e]
    have : a.f1 ≠ b.f1 := fun h => e (by rw [h]; exact c_refl _)
    simp [this]
theorem lt_irrefl (x : List Term) : ¬ Lt x x := by unfold Lt; rw [c_refl]; omega
theorem lt_trans (x : List Term) : ∀ y z, Lt x y → Lt y z → Lt x z := by
  refine tree_ind (P := fun x => ∀ y z, Lt x y → Lt y z → Lt x z) ?_ ?_ x
  · intro y z h1 h2
    cases z with
    | nil => cases y with
      | nil => exact h2
      | cons b y => unfold Lt at h2; rw [cL_cn] at h2; omega
    | cons c z => exact cL_nc _ _
  · intro t x i1 i2 y z h1 h2
    cases y with
    | nil => unfold Lt at h1; rw [cL_cn] at h1; omega
    | cons b y =>
      cases z with
      | nil => unfold Lt at h2; rw [cL_cn] at h2; omega
      | cons c z =>
        rw [lt_cc] at h1 h2 ⊢
        rcases h1 with h1 | ⟨h1, h1'⟩
        · rcases h2 with h2 | ⟨h2, _⟩
          · exact .inl (i1 _ _ h1 h2)
          · exact .inl (by rw [← h2]; exact h1)
        · rcases h2 with h2 | ⟨h2, h2'⟩
          · exact .inl (by rw [h1]; exact h2)
          · refine .inr ⟨h1.trans h2, ?_⟩
            rcases h1' with h1' | ⟨h1', h3⟩
            · rcases h2' with h2' | ⟨h2', h4⟩ <;> exact .inl (by omega)
            · rcases h2' with h2' | ⟨h2', h4⟩
              · exact .inl (by omega)
              · exact .inr ⟨by omega, i2 _ _ h3 h4⟩
theorem lt_asymm {x y : List Term} (h : Lt x y) : ¬ Lt y x := fun h2 => lt_irrefl x (lt_trans _ _ _ h h2)
theorem c_lt {x y : List Term} : cL x y = -1 ↔ Lt x y := Iff.rfl
theorem c_gt {x y : List Term} : cL x y = 1 ↔ Lt y x := by unfold Lt; rw [c_swap x y]; omega
theorem c_zero {x y : List Term} : cL x y = 0 ↔ x = y := ⟨c_eq x y, fun h => by rw [h]; exact c_refl _⟩
theorem c_cases (x y : List Term) : (cL x y = -1 ∧ Lt x y) ∨ (cL x y = 0 ∧ x = y) ∨ (cL x y = 1 ∧ Lt y x) := by
  rcases c_range x y with h | h | h
  · exact .inl ⟨h, h⟩
  · exact .inr (.inl ⟨h, c_eq _ _ h⟩)
  · exact .inr (.inr ⟨h, c_gt.1 h⟩)
theorem not_lt_nil (x : List Term) : ¬ Lt x [] := by
  unfold Lt
  cases x with
  | nil => rw [cL_nn]; omega
  | cons t x => rw [cL_cn]; omega
theorem nil_lt (t : Term) (x : List Term) : Lt [] (t :: x) := cL_nc _ _
/-! Ordinals in normal form. -/
mutual
def vT : Term → Prop
  | ⟨c, e⟩ => 1 ≤ c ∧ vL e
def vL : List Term → Prop
  | [] => True
  | t :: x => vT t ∧ (∀ u ∈ x, Lt u.f1 t.f1) ∧ vL x
end
theorem vT_eq (t : Term) : vT t ↔ 1 ≤ t.f0 ∧ vL t.f1 := by cases t; rw [vT]
theorem vL_nil : vL [] := by rw [vL]; trivial
theorem vL_cons (t : Term) (x : List Term) : vL (t :: x) ↔ (1 ≤ t.f0 ∧ vL t.f1) ∧ (∀ u ∈ x, Lt u.f1 t.f1) ∧ vL x := by rw [vL, vT_eq]
theorem vL_one (t : Term) : vL [t] ↔ 1 ≤ t.f0 ∧ vL t.f1 := by
  rw [vL_cons]
  exact ⟨fun h => h.1, fun h => ⟨h, (by intro u hu; cases hu), vL_nil⟩⟩
theorem vL_app (x y : List Term) : vL (x ++ y) ↔ vL x ∧ vL y ∧ (∀ t ∈ x, ∀ u ∈ y, Lt u.f1 t.f1) := by
  induction x with
  | nil => simp [vL_nil]
  | cons t x ih =>
    rw [List.cons_append, vL_cons, vL_cons, ih]
    constructor
    · rintro ⟨a, b, c, d, e⟩
      exact ⟨⟨a, fun u hu => b u (List.mem_append_left _ hu), c⟩, d, fun s hs u hu => by
        rcases List.mem_cons.1 hs with h | h
        · rw [h]; exact b u (List.mem_append_right _ hu)
        · exact e s h u hu⟩
    · rintro ⟨⟨a, b, c⟩, d, e⟩
      exact ⟨a, fun u hu => by
        rcases List.mem_append.1 hu with h | h
        · exact b u h
        · exact e t List.mem_cons_self u h, c, d, fun s hs u hu => e s (List.mem_cons_of_mem _ hs) u hu⟩
theorem vL_mem {x : List Term} (h : vL x) {t : Term} (ht : t ∈ x) : 1 ≤ t.f0 ∧ vL t.f1 := by
  induction x with
  | nil => cases ht
  | cons u x ih =>
    rw [vL_cons] at h
    rcases List.mem_cons.1 ht with h1 | h1
    · rw [h1]; exact h.1
    · exact ih h.2.2 h1
/-! Trees read off rows. -/
def pv (p : Option (List Term)) (e : List Term) : Bool := match p with
  | none => false
  | some q => decide (cL e q ≥ 0)
def tO : Nat → Nat → Option (List Term) → List Int → Option (List Term × List Int)
  | _, 0, _, l => some ([], l)
  | f + 1, n + 1, p, c :: m :: l => if c < 1 ∨ c > 9999 ∨ m < 0 ∨ m > 60 then none else match tO f m.toNat none l with
    | none => none
    | some (e, r) => if pv p e = true then none else match tO f n (some e) r with
      | none => none
      | some (x, r') => some (⟨c, e⟩ :: x, r')
  | _, _ + 1, _, _ => none
theorem tO_sound : ∀ (f n : Nat) (p : Option (List Term)) (l : List Int) {x : List Term} {r : List Int}, tO f n p l = some (x, r) →
    x.length = n ∧ l = fL x ++ r ∧ vL x ∧ mL x ≤ 9999 ∧ ∀ q, p = some q → ∀ t ∈ x, Lt t.f1 q
  | f, 0, p, l, x, r, h => by
    unfold tO at h
    simp only [Option.some.injEq, Prod.mk.injEq] at h
    obtain ⟨rfl, rfl⟩ := h
    exact ⟨rfl, by rw [fL_nil]; rfl, vL_nil, by rw [mL_nil]; omega, fun q _ t ht => by cases ht⟩
  | 0, n + 1, p, l, x, r, h => by cases l with
    | nil => simp [tO] at h
    | cons c l => cases l <;> simp [tO] at h
  | f + 1, n + 1, p, [], x, r, h => by simp [tO] at h
  | f + 1, n + 1, p, [c], x, r, h => by simp [tO] at h
  | f + 1, n + 1, p, c :: m :: l, x, r, h => by
    rw [tO] at h
    split at h
    · cases h
    · rename_i hb
      split at h
      · cases h
      · rename_i e r1 h1
        split at h
        · cases h
        · rename_i hq
          split at h
          · cases h
          · rename_i x' r2 h2
            simp only [Option.some.injEq, Prod.mk.injEq] at h
            obtain ⟨rfl, rfl⟩ := h
            obtain ⟨a1, a2, a3, a4, a5⟩ := tO_sound f _ _ l h1
            obtain ⟨b1, b2, b3, b4, b5⟩ := tO_sound f n _ r1 h2
            have hm : m = (e.length : Int) := by omega
            refine ⟨by simp [b1], ?_, ?_, ?_, ?_⟩
            · rw [fL_cons, a2, b2, hm]
              simp [row]
            · rw [vL_cons]
              exact ⟨⟨by show 1 ≤ c; omega, a3⟩, b5 e rfl, b3⟩
            · rw [mL_cons]
              show max (max c (mL e)) (mL x') ≤ 9999
              omega
            · intro q hp t ht
              subst hp
              have hlt : Lt e q := by
                have := c_range e q
                unfold Lt
                simp only [pv, decide_eq_true_eq] at hq
                omega
              rcases List.mem_cons.1 ht with h | h
              · rw [h]; exact hlt
              · exact lt_trans _ _ _ (b5 e rfl t h) hlt
theorem tO_complete : ∀ (f : Nat) (x : List Term) (p : Option (List Term)) (r : List Int), vL x → mL x ≤ 9999 → size x ≤ 61 → (∀ q, p = some q → ∀ t ∈ x, Lt t.f1 q) → (fL x).length ≤ f → tO f x.length p (fL x ++ r) = some (x, r)
  | f, [], p, r, _, _, _, _, _ => by simp [fL_nil, tO]
  | 0, t :: x, p, r, _, _, _, _, h => by rw [fL_cons] at h; simp at h
  | f + 1, t :: x, p, r, hv, hm, hs, hp, h => by
    rw [vL_cons] at hv
    rw [mL_cons] at hm
    rw [size_cons] at hs
    rw [fL_cons] at h ⊢
    have hz := size_pos x
    have hz2 := size_len t.f1
    have hz3 := size_eq t.f1
    have hz4 := size_eq x
    rw [List.length_cons, List.length_append] at h
    have hr : (row t.f1).length = size t.f1 := rfl
    simp only [row, List.cons_append, List.length_cons, List.append_assoc]
    rw [tO, if_neg (by omega), Int.toNat_natCast, tO_complete f t.f1 none (fL x ++ r) hv.1.2 (by omega) (by omega) (fun q h => by cases h) (by omega)]
    have hpp : ¬ pv p t.f1 = true := by
      cases p with
      | none => exact Bool.false_ne_true
      | some q =>
        have := hp q rfl t List.mem_cons_self
        unfold Lt at this
        simp only [pv, decide_eq_true_eq]
        omega
    simp only []
    rw [if_neg hpp, tO_complete f x (some t.f1) r hv.2.2 (by omega) (by omega) (fun q h => by cases h; exact hv.2.1) (by omega)]
    cases t
    rfl
theorem tO_fuel : ∀ (f g n : Nat) (p : Option (List Term)) (l : List Int), l.length ≤ f → l.length ≤ g → tO f n p l = tO g n p l
  | f, g, 0, p, l, _, _ => by simp [tO]
  | 0, 0, n + 1, p, l, _, _ => rfl
  | 0, g + 1, n + 1, p, l, h, _ => by
    obtain rfl : l = [] := List.eq_nil_of_length_eq_zero (by omega)
    simp [tO]
  | f + 1, 0, n + 1, p, l, _, h => by
    obtain rfl : l = [] := List.eq_nil_of_length_eq_zero (by omega)
    simp [tO]
  | f + 1, g + 1, n + 1, p, [], _, _ => by simp [tO]
  | f + 1, g + 1, n + 1, p, [c], _, _ => by simp [tO]
  | f + 1, g + 1, n + 1, p, c :: m :: l, hf, hg => by
    simp only [List.length_cons] at hf hg
    rw [tO, tO]
    split
    · rfl
    · rw [tO_fuel f g m.toNat none l (by omega) (by omega)]
      cases h : tO g m.toNat none l with
      | none => rfl
      | some q =>
        obtain ⟨e, r⟩ := q
        have := congrArg List.length (tO_sound g _ _ l h).2.1
        rw [List.length_append] at this
        simp only
        rw [tO_fuel f g n (some e) r (by omega) (by omega)]
def tO1 (l : List Int) : Option (List Term × List Int) := match l with
  | [] => none
  | m :: l' => if m < 0 ∨ m > 60 then none else tO l'.length m.toNat none l'
theorem tO1_sound {l : List Int} {x : List Term} {r : List Int} (h : tO1 l = some (x, r)) : l = row x ++ r ∧ vL x ∧ mL x ≤ 9999 := by
  cases l with
  | nil => simp [tO1] at h
  | cons m l =>
    simp only [tO1] at h
    split at h
    · cases h
    · obtain ⟨a1, a2, a3, a4, _⟩ := tO_sound _ _ _ l h
      refine ⟨?_, a3, a4⟩
      rw [a2, row, a1, List.cons_append]
      congr 1
      omega
theorem tO1_complete {x : List Term} (r : List Int) (hv : vL x) (hm : mL x ≤ 9999) (hs : size x ≤ 61) : tO1 (row x ++ r) = some (x, r) := by
  have := size_len x
  simp only [row, List.cons_append, tO1]
  rw [if_neg (by omega), Int.toNat_natCast]
  exact tO_complete _ x none r hv hm (by omega) (fun q h => by cases h) (by simp)
theorem tO_step {f n : Nat} {p : Option (List Term)} {c : Int} {l : List Int} (hf : l.length ≤ f) : tO (f + 1) (n + 1) p (c :: l) = if c < 1 ∨ c > 9999 then none else match tO1 l with
    | none => none
    | some (e, r) => if pv p e = true then none else match tO r.length n (some e) r with
      | none => none
      | some (x, r') => some (⟨c, e⟩ :: x, r') := by
  cases l with
  | nil => simp [tO, tO1]
  | cons m l =>
    simp only [List.length_cons] at hf
    rw [tO]
    simp only [tO1]
    by_cases h1 : c < 1 ∨ c > 9999
    · rw [if_pos (by omega), if_pos h1]
    · rw [if_neg h1]
      by_cases h2 : m < 0 ∨ m > 60
      · rw [if_pos (by omega), if_pos h2]
      · rw [if_neg (by omega), if_neg h2, tO_fuel f l.length m.toNat none l (by omega) (by omega)]
        cases h : tO l.length m.toNat none l with
        | none => rfl
        | some q =>
          obtain ⟨e, r⟩ := q
          have := congrArg List.length (tO_sound _ _ _ l h).2.1
          rw [List.length_append] at this
          simp only
          rw [tO_fuel f r.length n (some e) r (by omega) (by omega)]
/-- A valid row. -/
def OV (r : List Int) : Bool := decide (1 ≤ r.length ∧ r.length ≤ 60) && match tO1 r with
  | some (_, r') => r'.isEmpty
  | none => false
/-- A tree whose row is valid. -/
structure Fit (x : List Term) : Prop where
  v : vL x
  m : mL x ≤ 9999
  s : size x ≤ 60
theorem OV_row {x : List Term} (h : vL x) : OV (row x) = decide (mL x ≤ 9999 ∧ size x ≤ 60) := by
  have hz := size_pos x
  have hr : (row x).length = size x := rfl
  by_cases hf : mL x ≤ 9999 ∧ size x ≤ 60
  · rw [decide_eq_true hf]
    unfold OV
    have := tO1_complete [] h hf.1 (by omega)
    rw [List.append_nil] at this
    rw [this, hr, decide_eq_true (by omega)]
    rfl
  · rw [decide_eq_false hf]
    unfold OV
    by_cases hl : size x ≤ 60
    · rw [hr, decide_eq_true (by omega), Bool.true_and]
      cases ht : tO1 (row x) with
      | none => rfl
      | some q =>
        obtain ⟨y, r⟩ := q
        obtain ⟨a1, a2, a3⟩ := tO1_sound ht
        cases r with
        | cons _ _ => rfl
        | nil =>
          exfalso
          rw [List.append_nil] at a1
          have hys : size y = size x := by unfold size; rw [a1]
          have h1 := tO1_complete (x := y) [] a2 a3 (by omega)
          have h2 : mL x ≤ 9999 := by
            -- rows tell trees
            have : ∀ (x : List Term) (y : List Term) (r s : List Int), row x ++ r = row y ++ s → x = y ∧ r = s := by
              intro x
              refine tree_ind (P := fun x => ∀ y r s, row x ++ r = row y ++ s → x = y ∧ r = s) ?_ ?_ x
              · intro y r s h
                cases y with
                | nil => exact ⟨rfl, by simpa [row, fL_nil] using h⟩
                | cons b y => simp only [row, List.length_nil, List.length_cons, List.cons_append, List.cons.injEq] at h; omega
              · intro t x i1 i2 y r s h
                cases y with
                | nil => simp only [row, List.length_nil, List.length_cons, List.cons_append, List.cons.injEq] at h; omega
                | cons b y =>
                  simp only [row, List.length_cons, List.cons_append, List.cons.injEq, fL_cons, List.append_assoc] at h
                  obtain ⟨h0, h1, h2⟩ := h
                  have h3 := i1 b.f1 (fL x ++ r) (fL y ++ s) (by simp only [row, List.cons_append]; rw [h2.1, h2.2])
                  have h4 := i2 y r s (by simp only [row, List.cons_append]; rw [h3.2]; congr 1; omega)
                  refine ⟨?_, h4.2⟩
                  cases t; cases b; simp_all
            have := (this x y [] [] (by simpa using a1)).1
            rw [this]; exact a3
          exact hf ⟨h2, hl⟩
    · rw [hr, decide_eq_false (by omega), Bool.false_and]
theorem OV_tree {r : List Int} (h : OV r = true) : ∃ x, r = row x ∧ Fit x ∧ tO1 r = some (x, []) := by
  unfold OV at h
  rw [Bool.and_eq_true, decide_eq_true_eq] at h
  obtain ⟨h1, h2⟩ := h
  cases ht : tO1 r with
  | none => rw [ht] at h2; cases h2
  | some q =>
    obtain ⟨x, r'⟩ := q
    rw [ht] at h2
    obtain ⟨a1, a2, a3⟩ := tO1_sound ht
    cases r' with
    | cons _ _ => cases h2
    | nil =>
      rw [List.append_nil] at a1
      exact ⟨x, a1, ⟨a2, a3, by unfold size; rw [← a1]; exact h1.2⟩, rfl⟩
theorem Fit.ov {x : List Term} (h : Fit x) : OV (row x) = true := by rw [OV_row h.v]; exact decide_eq_true ⟨h.m, h.s⟩
/-! Natural sums. -/
def natO : List Term → List Term → List Term
  | [], y => y
  | a :: x, [] => a :: x
  | a :: x, b :: y => if cL a.f1 b.f1 = 1 then a :: natO x (b :: y) else if cL a.f1 b.f1 = -1 then b :: natO (a :: x) y else ⟨a.f0 + b.f0, a.f1⟩ :: natO x y
termination_by x y => x.length + y.length
theorem nat_nl (y : List Term) : natO [] y = y := by rw [natO]
theorem nat_nr (x : List Term) : natO x [] = x := by cases x <;> rw [natO]
/-- How often an exponent comes. -/
def co : List Term → List Term → Int
  | [], _ => 0
  | t :: x, e => (if cL t.f1 e = 0 then t.f0 else 0) + co x e
theorem co_app (x y e : List Term) : co (x ++ y) e = co x e + co y e := by
  induction x with
  | nil => simp [co]
  | cons t x ih => simp only [List.cons_append, co, ih]; omega
/-- How the two first terms lie decides. -/
theorem nat_ind {P : List Term → List Term → Prop} (h1 : ∀ y, P [] y) (h2 : ∀ x, P x []) (h3 : ∀ a x b y, Lt b.f1 a.f1 → P x (b :: y) → P (a :: x) (b :: y)) (h4 : ∀ a x b y, Lt a.f1 b.f1 → P (a :: x) y → P (a :: x) (b :: y)) (h5 : ∀ a x b y, a.f1 = b.f1 → P x y → P (a :: x) (b :: y)) : ∀ x y, P x y
  | [], y => h1 y
  | a :: x, [] => h2 _
  | a :: x, b :: y => by
    rcases c_cases a.f1 b.f1 with ⟨_, h⟩ | ⟨_, h⟩ | ⟨_, h⟩
    · exact h4 a x b y h (nat_ind h1 h2 h3 h4 h5 (a :: x) y)
    · exact h5 a x b y h (nat_ind h1 h2 h3 h4 h5 x y)
    · exact h3 a x b y h (nat_ind h1 h2 h3 h4 h5 x (b :: y))
termination_by x y => x.length + y.length
theorem nat_gt {a b : Term} (x y : List Term) (h : Lt b.f1 a.f1) : natO (a :: x) (b :: y) = a :: natO x (b :: y) := by
  rw [natO, if_pos (c_gt.2 h)]
theorem nat_lt {a b : Term} (x y : List Term) (h : Lt a.f1 b.f1) : natO (a :: x) (b :: y) = b :: natO (a :: x) y := by
  have := c_lt.2 h
  rw [natO, if_neg (by omega), if_pos this]
theorem nat_eq {a b : Term} (x y : List Term) (h : a.f1 = b.f1) : natO (a :: x) (b :: y) = ⟨a.f0 + b.f0, a.f1⟩ :: natO x y := by
  have := c_zero.2 h
  rw [natO, if_neg (by omega), if_neg (by omega)]
theorem co_nat (x y e : List Term) : co (natO x y) e = co x e + co y e := by
  refine nat_ind (P := fun x y => co (natO x y) e = co x e + co y e) ?_ ?_ ?_ ?_ ?_ x y
  · intro y; rw [nat_nl]; simp [co]
  · intro x; rw [nat_nr]; simp [co]
  · intro a x b y h ih; rw [nat_gt x y h]; simp only [co] at ih ⊢; omega
  · intro a x b y h ih; rw [nat_lt x y h]; simp only [co] at ih ⊢; omega
  · intro a x b y h ih
    rw [nat_eq x y h]
    simp only [co] at ih ⊢
    rw [ih, h]
    split <;> omega
theorem nat_mem (x y : List Term) : ∀ t ∈ natO x y, ∃ u, (u ∈ x ∨ u ∈ y) ∧ u.f1 = t.f1 := by
  refine nat_ind (P := fun x y => ∀ t ∈ natO x y, ∃ u, (u ∈ x ∨ u ∈ y) ∧ u.f1 = t.f1) ?_ ?_ ?_ ?_ ?_ x y
  · intro y t ht; rw [nat_nl] at ht; exact ⟨t, .inr ht, rfl⟩
  · intro x t ht; rw [nat_nr] at ht; exact ⟨t, .inl ht, rfl⟩
  · intro a x b y h ih t ht
    rw [nat_gt x y h] at ht
    rcases List.mem_cons.1 ht with h1 | h1
    · exact ⟨a, .inl List.mem_cons_self, by rw [h1]⟩
    · obtain ⟨u, hu, he⟩ := ih t h1
      exact ⟨u, hu.imp (List.mem_cons_of_mem _) id, he⟩
  · intro a x b y h ih t ht
    rw [nat_lt x y h] at ht
    rcases List.mem_cons.1 ht with h1 | h1
    · exact ⟨b, .inr List.mem_cons_self, by rw [h1]⟩
    · obtain ⟨u, hu, he⟩ := ih t h1
      exact ⟨u, hu.imp id (List.mem_cons_of_mem _), he⟩
  · intro a x b y h ih t ht
    rw [nat_eq x y h] at ht
    rcases List.mem_cons.1 ht with h1 | h1
    · exact ⟨a, .inl List.mem_cons_self, by rw [h1]⟩
    · obtain ⟨u, hu, he⟩ := ih t h1
      exact ⟨u, hu.imp (List.mem_cons_of_mem _) (List.mem_cons_of_mem _), he⟩
theorem nat_v (x y : List Term) : vL x → vL y → vL (natO x y) := by
  refine nat_ind (P := fun x y => vL x → vL y → vL (natO x y)) ?_ ?_ ?_ ?_ ?_ x y
  · intro y _ h; rw [nat_nl]; exact h
  · intro x h _; rw [nat_nr]; exact h
  · intro a x b y h ih hx hy
    rw [nat_gt x y h]
    rw [vL_cons] at hx ⊢
    refine ⟨hx.1, fun t ht => ?_, ih hx.2.2 hy⟩
    obtain ⟨u, hu, he⟩ := nat_mem _ _ t ht
    rw [← he]
    rcases hu with hu | hu
    · exact hx.2.1 u hu
    · rw [vL_cons] at hy
      rcases List.mem_cons.1 hu with hu | hu
      · rw [hu]; exact h
      · exact lt_trans _ _ _ (hy.2.1 u hu) h
  · intro a x b y h ih hx hy
    rw [nat_lt x y h]
    rw [vL_cons] at hy ⊢
    refine ⟨hy.1, fun t ht => ?_, ih hx hy.2.2⟩
    obtain ⟨u, hu, he⟩ := nat_mem _ _ t ht
    rw [← he]
    rcases hu with hu | hu
    · rw [vL_cons] at hx
      rcases List.mem_cons.1 hu with hu | hu
      · rw [hu]; exact h
      · exact lt_trans _ _ _ (hx.2.1 u hu) h
    · exact hy.2.1 u hu
  · intro a x b y h ih hx hy
    rw [nat_eq x y h]
    rw [vL_cons] at hx hy ⊢
    refine ⟨⟨by show 1 ≤ a.f0 + b.f0; omega, hx.1.2⟩, fun t ht => ?_, ih hx.2.2 hy.2.2⟩
    obtain ⟨u, hu, he⟩ := nat_mem _ _ t ht
    rw [← he]
    rcases hu with hu | hu
    · exact hx.2.1 u hu
    · show Lt u.f1 a.f1
      rw [h]; exact hy.2.1 u hu
theorem nat_size (x y : List Term) : size x ≤ size (natO x y) ∧ size y ≤ size (natO x y) ∧ size (natO x y) + 1 ≤ size x + size y := by
  refine nat_ind (P := fun x y => size x ≤ size (natO x y) ∧ size y ≤ size (natO x y) ∧ size (natO x y) + 1 ≤ size x + size y) ?_ ?_ ?_ ?_ ?_ x y
  · intro y; rw [nat_nl, size_nil]; have := size_pos y; omega
  · intro x; rw [nat_nr, size_nil]; have := size_pos x; omega
  · intro a x b y h ih; rw [nat_gt x y h, size_cons, size_cons]; have := size_cons b y; omega
  · intro a x b y h ih; rw [nat_lt x y h, size_cons, size_cons]; have := size_cons a x; have := size_cons b y; rw [size_cons] at ih; omega
  · intro a x b y h ih; rw [nat_eq x y h, size_cons, size_cons, size_cons, h]; omega
theorem nat_m (x y : List Term) : vL x → vL y → mL x ≤ mL (natO x y) ∧ mL y ≤ mL (natO x y) ∧ mL (natO x y) ≤ mL x + mL y := by
  refine nat_ind (P := fun x y => vL x → vL y → mL x ≤ mL (natO x y) ∧ mL y ≤ mL (natO x y) ∧ mL (natO x y) ≤ mL x + mL y) ?_ ?_ ?_ ?_ ?_ x y
  · intro y _ _; rw [nat_nl, mL_nil]; have := mL_pos y; omega
  · intro x _ _; rw [nat_nr, mL_nil]; have := mL_pos x; omega
  · intro a x b y h ih hx hy; rw [nat_gt x y h, mL_cons, mL_cons]; rw [vL_cons] at hx; have := ih hx.2.2 hy; have := mL_pos (b :: y); have := mL_pos a.f1; omega
  · intro a x b y h ih hx hy; rw [nat_lt x y h, mL_cons b, mL_cons b]; rw [vL_cons] at hy; have := ih hx hy.2.2; have := mL_pos (a :: x); have := mL_pos b.f1; omega
  · intro a x b y h ih hx hy
    rw [nat_eq x y h, mL_cons, mL_cons, mL_cons, ← h]
    rw [vL_cons] at hx hy
    have := ih hx.2.2 hy.2.2
    have := mL_pos a.f1
    show max (max a.f0 (mL a.f1)) (mL x) ≤ max (max (a.f0 + b.f0) (mL a.f1)) (mL (natO x y)) ∧ max (max b.f0 (mL a.f1)) (mL y) ≤ max (max (a.f0 + b.f0) (mL a.f1)) (mL (natO x y)) ∧ max (max (a.f0 + b.f0) (mL a.f1)) (mL (natO x y)) ≤ max (max a.f0 (mL a.f1)) (mL x) + max (max b.f0 (mL a.f1)) (mL y)
    omega
theorem co_zero {x e : List Term} (h : ∀ t ∈ x, t.f1 ≠ e) : co x e = 0 := by
  induction x with
  | nil => rfl
  | cons t x ih =>
    rw [co, ih (fun u hu => h u (List.mem_cons_of_mem _ hu)), if_neg (fun hc => h t List.mem_cons_self (c_eq _ _ hc))]
    rfl
theorem co_pos {x : List Term} (h : vL x) (e : List Term) : 0 ≤ co x e := by
  induction x with
  | nil => exact Int.le_refl _
  | cons t x ih =>
    rw [vL_cons] at h
    have := ih h.2.2
    rw [co]
    split <;> omega
theorem co_ne {x e : List Term} (h : co x e ≠ 0) : ∃ t ∈ x, t.f1 = e := by
  apply Classical.byContradiction
  intro hc
  exact h (co_zero fun t ht he => hc ⟨t, ht, he⟩)
theorem co_head {t : Term} {x : List Term} (h : vL (t :: x)) : co (t :: x) t.f1 = t.f0 := by
  rw [vL_cons] at h
  rw [co, if_pos (c_refl _), co_zero fun u hu he => lt_irrefl t.f1 (by have := h.2.1 u hu; rwa [he] at this)]
  omega
theorem co_above {t : Term} {x e : List Term} (h : vL (t :: x)) (he : Lt t.f1 e) : co (t :: x) e = 0 := by
  rw [vL_cons] at h
  refine co_zero fun u hu hc => ?_
  rcases List.mem_cons.1 hu with hu | hu
  · rw [hu] at hc; rw [hc] at he; exact lt_irrefl _ he
  · have := h.2.1 u hu
    rw [hc] at this
    exact lt_asymm he this
theorem lt_co1 : ∀ x y, vL x → vL y → Lt x y → ∃ e, co x e < co y e ∧ ∀ f, Lt e f → co x f = co y f
  | x, [], _, _, h => absurd h (not_lt_nil x)
  | [], b :: y, _, hy, _ => ⟨b.f1, by
      rw [co_head hy, co]
      rw [vL_cons] at hy
      omega, fun f hf => by rw [co_above hy hf]; rfl⟩
  | a :: x, b :: y, hx, hy, h => by
    rcases lt_cc.1 h with h | ⟨h1, h | ⟨h2, h3⟩⟩
    · refine ⟨b.f1, ?_, fun f hf => by rw [co_above hy hf, co_above hx (lt_trans _ _ _ h hf)]⟩
      rw [co_head hy, co_above hx h]
      rw [vL_cons] at hy
      omega
    · refine ⟨b.f1, ?_, fun f hf => by rw [co_above hy hf, co_above hx (by rw [h1]; exact hf)]⟩
      rw [co_head hy, ← h1, co_head hx]
      exact h
    · have hx' := hx
      have hy' := hy
      rw [vL_cons] at hx hy
      obtain ⟨e, e1, e2⟩ := lt_co1 x y hx.2.2 hy.2.2 h3
      refine ⟨e, by simp only [co, h1, h2]; omega, fun f hf => by simp only [co, h1, h2, e2 f hf]⟩
theorem co_lt {x y : List Term} (hx : vL x) (hy : vL y) {e : List Term} (h1 : co x e < co y e) (h2 : ∀ f, Lt e f → co x f = co y f) : Lt x y := by
  rcases c_cases x y with ⟨_, h⟩ | ⟨_, h⟩ | ⟨_, h⟩
  · exact h
  · rw [h] at h1; omega
  · exfalso
    obtain ⟨f, f1, f2⟩ := lt_co1 y x hy hx h
    rcases c_cases e f with ⟨_, h⟩ | ⟨_, h⟩ | ⟨_, h⟩
    · have := h2 f h; omega
    · rw [h] at h1; omega
    · have := f2 e h; omega
theorem co_ext {x y : List Term} (hx : vL x) (hy : vL y) (h : ∀ e, co x e = co y e) : x = y := by
  rcases c_cases x y with ⟨_, h1⟩ | ⟨_, h1⟩ | ⟨_, h1⟩
  · obtain ⟨e, h2, _⟩ := lt_co1 x y hx hy h1
    have := h e
    omega
  · exact h1
  · obtain ⟨e, h2, _⟩ := lt_co1 y x hy hx h1
    have := h e
    omega
theorem nat_mono {a b c : List Term} (ha : vL a) (hb : vL b) (hc : vL c) (h : Lt a b) : Lt (natO a c) (natO b c) := by
  obtain ⟨e, h1, h2⟩ := lt_co1 a b ha hb h
  exact co_lt (nat_v _ _ ha hc) (nat_v _ _ hb hc) (e := e) (by rw [co_nat, co_nat]; omega) (fun f hf => by rw [co_nat, co_nat, h2 f hf])
theorem nat_ge {a c : List Term} (ha : vL a) (hc : vL c) : ¬ Lt (natO a c) a := fun h => by
  obtain ⟨e, h1, _⟩ := lt_co1 _ _ (nat_v _ _ ha hc) ha h
  have := co_pos hc e
  rw [co_nat] at h1
  omega
theorem nat_comm {a b : List Term} (ha : vL a) (hb : vL b) : natO a b = natO b a :=
  co_ext (nat_v _ _ ha hb) (nat_v _ _ hb ha) fun e => by rw [co_nat, co_nat]; omega
theorem nat_assoc {a b c : List Term} (ha : vL a) (hb : vL b) (hc : vL c) : natO (natO a b) c = natO a (natO b c) :=
  co_ext (nat_v _ _ (nat_v _ _ ha hb) hc) (nat_v _ _ ha (nat_v _ _ hb hc)) fun e => by simp only [co_nat]; omega
/-! One less, and steps down. -/
def bef : List Term → List Term
  | [] => []
  | [t] => if t.f0 = 1 then [] else [⟨t.f0 - 1, t.f1⟩]
  | t :: u :: x => t :: bef (u :: x)
def kd : List Term → Int
  | [] => 0
  | [t] => if t.f1.isEmpty then 1 else 2
  | _ :: u :: x => kd (u :: x)
def stp (n : Int) : List Term → List Term
  | [] => []
  | [⟨c, e⟩] => (if c = 1 then [] else [⟨c - 1, e⟩]) ++ (if e.isEmpty then [] else if kd e = 2 then [⟨1, stp n e⟩] else if n > 0 then [⟨n, bef e⟩] else [])
  | t :: u :: x => t :: stp n (u :: x)
termination_by x => SizeOf.sizeOf x
theorem bef_app (l : List Term) (t : Term) : bef (l ++ [t]) = l ++ bef [t] := by
  induction l with
  | nil => rfl
  | cons s l ih =>
    cases l with
    | nil => rfl
    | cons u l => exact congrArg (s :: ·) ih
theorem kd_app (l : List Term) (t : Term) : kd (l ++ [t]) = if t.f1.isEmpty then 1 else 2 := by
  induction l with
  | nil => rfl
  | cons s l ih =>
    cases l with
    | nil => rfl
    | cons u l => simp only [List.cons_append] at ih ⊢; rw [kd, ih]
theorem stp_nil (n : Int) : stp n [] = [] := by rw [stp]
theorem stp_one (n : Int) (t : Term) : stp n [t] = bef [t] ++ (if t.f1.isEmpty then [] else if kd t.f1 = 2 then [⟨1, stp n t.f1⟩] else if n > 0 then [⟨n, bef t.f1⟩] else []) := by
  cases t
  rw [stp]
  rfl
theorem stp_app (n : Int) (l : List Term) (t : Term) : stp n (l ++ [t]) = l ++ stp n [t] := by
  induction l with
  | nil => rfl
  | cons s l ih =>
    cases l with
    | nil => simp only [List.cons_append, List.nil_append]; rw [stp]
    | cons u l => simp only [List.cons_append] at ih ⊢; rw [stp, ih]
theorem last_cases {P : List Term → Prop} (h0 : P []) (h1 : ∀ l t, P (l ++ [t])) (x : List Term) : P x := by
  rcases List.eq_nil_or_concat x with h | ⟨l, t, h⟩
  · rw [h]; exact h0
  · rw [h, List.concat_eq_append]; exact h1 l t
theorem kd_zero {x : List Term} : kd x = 0 ↔ x = [] := by
  refine last_cases (P := fun x => kd x = 0 ↔ x = []) (by simp [kd]) (fun l t => ?_) x
  rw [kd_app]
  constructor
  · intro h; split at h <;> omega
  · intro h; simp at h
theorem kd_range (x : List Term) : kd x = 0 ∨ kd x = 1 ∨ kd x = 2 := by
  refine last_cases (P := fun x => kd x = 0 ∨ kd x = 1 ∨ kd x = 2) (.inl rfl) (fun l t => ?_) x
  rw [kd_app]
  split <;> omega
theorem stp_bef {n : Int} {x : List Term} (h : kd x ≠ 2) : stp n x = bef x := by
  refine last_cases (P := fun x => kd x ≠ 2 → stp n x = bef x) (fun _ => stp_nil n) (fun l t h => ?_) x h
  rw [kd_app] at h
  rw [stp_app, bef_app, stp_one]
  have : t.f1.isEmpty = true := by
    cases hc : t.f1.isEmpty
    · rw [hc] at h; simp at h
    · rfl
  rw [if_pos this, List.append_nil]
theorem lt_app (l x y : List Term) : Lt (l ++ x) (l ++ y) ↔ Lt x y := by
  induction l with
  | nil => exact Iff.rfl
  | cons t l ih =>
    simp only [List.cons_append]
    rw [lt_cc]
    constructor
    · rintro (h | ⟨_, h | ⟨_, h⟩⟩)
      · exact absurd h (lt_irrefl _)
      · omega
      · exact ih.1 h
    · intro h; exact .inr ⟨rfl, .inr ⟨rfl, ih.2 h⟩⟩
theorem bef_lt (x : List Term) (h : x ≠ []) (hv : vL x) : Lt (bef x) x := by
  refine last_cases (P := fun x => x ≠ [] → vL x → Lt (bef x) x) (fun h _ => absurd rfl h) (fun l t _ hv => ?_) x h hv
  rw [bef_app, lt_app, bef]
  split
  · exact nil_lt _ _
  · rw [lt_cc]; exact .inr ⟨rfl, .inl (by show t.f0 - 1 < t.f0; omega)⟩
theorem bef_v (x : List Term) (hv : vL x) : vL (bef x) := by
  refine last_cases (P := fun x => vL x → vL (bef x)) (fun _ => vL_nil) (fun l t hv => ?_) x hv
  rw [bef_app]
  rw [vL_app] at hv ⊢
  obtain ⟨h1, h2, h3⟩ := hv
  rw [vL_cons] at h2
  rw [bef]
  split
  · exact ⟨h1, vL_nil, fun t _ u hu => by cases hu⟩
  · refine ⟨h1, ?_, fun s hs u hu => ?_⟩
    · rw [vL_one]; exact ⟨by show 1 ≤ t.f0 - 1; omega, h2.1.2⟩
    · rw [List.mem_singleton.1 hu]; exact h3 s hs t List.mem_cons_self
theorem stp_one_v (n : Int) (t : Term) (hn : 0 ≤ n) (ht : 1 ≤ t.f0 ∧ vL t.f1) (ih : t.f1 ≠ [] → vL (stp n t.f1) ∧ Lt (stp n t.f1) t.f1) : vL (stp n [t]) ∧ Lt (stp n [t]) [t] ∧ ∀ u ∈ stp n [t], u.f1 = t.f1 ∨ Lt u.f1 t.f1 := by
  have hb : vL (bef [t]) := bef_v _ ((vL_one t).2 ht)
  have hm : ∀ u ∈ bef [t], u.f1 = t.f1 := by
    intro u hu
    rw [bef] at hu
    split at hu
    · cases hu
    · rw [List.mem_singleton.1 hu]
  -- what is added has a less exponent
  have key : ∀ s : Term, 1 ≤ s.f0 → vL s.f1 → Lt s.f1 t.f1 → vL (bef [t] ++ [s]) ∧ Lt (bef [t] ++ [s]) [t] ∧ ∀ u ∈ bef [t] ++ [s], u.f1 = t.f1 ∨ Lt u.f1 t.f1 := by
    intro s s1 s2 s3
    refine ⟨?_, ?_, ?_⟩
    · rw [vL_app]
      refine ⟨hb, (vL_one s).2 ⟨s1, s2⟩, fun r hr u hu => ?_⟩
      rw [List.mem_singleton.1 hu, hm r hr]; exact s3
    · rw [bef]
      split
      · rw [List.nil_append, lt_cc]; exact .inl s3
      · rw [List.cons_append, lt_cc]; exact .inr ⟨rfl, .inl (by show t.f0 - 1 < t.f0; omega)⟩
    · intro u hu
      rcases List.mem_append.1 hu with hu | hu
      · exact .inl (hm u hu)
      · rw [List.mem_singleton.1 hu]; exact .inr s3
  have base : vL (bef [t] ++ []) ∧ Lt (bef [t] ++ []) [t] ∧ ∀ u ∈ bef [t] ++ [], u.f1 = t.f1 ∨ Lt u.f1 t.f1 := by
    rw [List.append_nil]
    exact ⟨hb, bef_lt _ (by simp) ((vL_one t).2 ht), fun u hu => .inl (hm u hu)⟩
  rw [stp_one]
  split
  · exact base
  · rename_i he
    have hne : t.f1 ≠ [] := fun h => he (by rw [h]; rfl)
    split
    · obtain ⟨i1, i2⟩ := ih hne
      exact key ⟨1, stp n t.f1⟩ (Int.le_refl 1) i1 i2
    · split
      · exact key ⟨n, bef t.f1⟩ (by show 1 ≤ n; omega) (bef_v _ ht.2) (bef_lt _ hne ht.2)
      · exact base
theorem stp_v (n : Int) (hn : 0 ≤ n) (x : List Term) : vL x → vL (stp n x) ∧ (x ≠ [] → Lt (stp n x) x) := by
  have main : ∀ x, (∀ t ∈ x, vL t.f1 → vL (stp n t.f1) ∧ (t.f1 ≠ [] → Lt (stp n t.f1) t.f1)) ∧ (vL x → vL (stp n x) ∧ (x ≠ [] → Lt (stp n x) x)) := by
    intro x
    refine tree_ind (P := fun x => (∀ t ∈ x, vL t.f1 → vL (stp n t.f1) ∧ (t.f1 ≠ [] → Lt (stp n t.f1) t.f1)) ∧ (vL x → vL (stp n x) ∧ (x ≠ [] → Lt (stp n x) x))) ?_ ?_ x
    · exact ⟨(by intro t ht; cases ht), fun _ => ⟨(by rw [stp_nil]; exact vL_nil), fun h => absurd rfl h⟩⟩
    · intro t x i1 i2
      have all : ∀ s ∈ t :: x, vL s.f1 → vL (stp n s.f1) ∧ (s.f1 ≠ [] → Lt (stp n s.f1) s.f1) := by
        intro s hs
        rcases List.mem_cons.1 hs with h | h
        · rw [h]; exact i1.2
        · exact i2.1 s h
      refine ⟨all, ?_⟩
      generalize t :: x = y at all
      refine last_cases (P := fun y => (∀ s ∈ y, vL s.f1 → vL (stp n s.f1) ∧ (s.f1 ≠ [] → Lt (stp n s.f1) s.f1)) → vL y → vL (stp n y) ∧ (y ≠ [] → Lt (stp n y) y)) ?_ ?_ y all
      · exact fun _ _ => ⟨by rw [stp_nil]; exact vL_nil, fun h => absurd rfl h⟩
      · intro l s hs hv
        rw [vL_app] at hv
        obtain ⟨v1, v2, v3⟩ := hv
        rw [vL_cons] at v2
        have hss := hs s (by simp) v2.1.2
        obtain ⟨a1, a2, a3⟩ := stp_one_v n s hn v2.1 (fun h => ⟨hss.1, hss.2 h⟩)
        rw [stp_app, lt_app, vL_app]
        refine ⟨⟨v1, a1, fun r hr u hu => ?_⟩, fun _ => a2⟩
        have := v3 r hr s List.mem_cons_self
        rcases a3 u hu with h | h
        · rw [h]; exact this
        · exact lt_trans _ _ _ h this
  exact (main x).2
/-! Texts of acts and of journals. -/
theorem dig_one : ∀ i : Fin 10, (([IntKind.wrap .u8 (wr (48 + (i.val : Int)))] : List Int).map fun n => UInt8.ofNat n.toNat) = [UInt8.ofNat (48 + i.val)] := by decide +kernel
theorem itoa_small {n : Nat} (h : n < 10) : Lib.itoa (n : Int) = [UInt8.ofNat (48 + n)] := by
  unfold Lib.itoa
  rw [if_neg (by omega), Int.toNat_natCast, Lib.decDigits_one h]
theorem itoa_big {n : Nat} (h : 10 ≤ n) : Lib.itoa (n : Int) = Lib.itoa ((n / 10 : Nat) : Int) ++ [UInt8.ofNat (48 + n % 10)] := by
  unfold Lib.itoa
  rw [if_neg (by omega), if_neg (by omega), Int.toNat_natCast, Int.toNat_natCast, Lib.decDigits, dif_neg (by omega)]
theorem itoa_len : ∀ (d n : Nat), n < 10 ^ (d + 1) → (Lib.itoa (n : Int)).length ≤ d + 1
  | 0, n, h => by rw [itoa_small (by simpa using h)]; simp
  | d + 1, n, h => by
    by_cases hn : n < 10
    · rw [itoa_small hn]; simp
    · have h2 := itoa_len d (n / 10) (by rw [Nat.pow_succ] at h; omega)
      rw [itoa_big (by omega), List.length_append]
      simpa using h2
theorem l1Number_ev : ∀ (d n : Nat), n < 10 ^ (d + 1) → d ≤ 17 → Ev (fun k => spec_l1Number.f k (n : Int)) (Lib.itoa (n : Int))
  | 0, n, h, _ => by
    have hn : n < 10 := by simpa using h
    refine ev_succ (fun k => spec_l1Number.f_eq k _) (ev_dt (by omega) (ev_some.2 ?_))
    rw [itoa_small hn]
    exact dig_one ⟨n, hn⟩
  | d + 1, n, h, hd => by
    refine ev_succ (fun k => spec_l1Number.f_eq k _) ?_
    by_cases hn : n < 10
    · refine ev_dt (by omega) (ev_some.2 ?_)
      rw [itoa_small hn]
      exact dig_one ⟨n, hn⟩
    · have h10 : n / 10 < 10 ^ (d + 1) := by rw [Nat.pow_succ] at h; omega
      have hb : 10 ^ (d + 1 + 1) ≤ 10 ^ 19 := Nat.pow_le_pow_right (by omega) (by omega)
      have hb2 : (10 : Nat) ^ 19 = 10000000000000000000 := rfl
      have hlt : n / 10 < 1000000000000000000 := by omega
      have e1 : wr ((n : Int).tdiv 10) = ((n / 10 : Nat) : Int) := by
        have : (n : Int).tdiv 10 = ((n / 10 : Nat) : Int) := by rw [Int.tdiv_eq_ediv_of_nonneg (by omega)]; omega
        rw [this, w64 (by omega) (by omega)]
      have e2 : (n : Int).tmod 10 = ((n % 10 : Nat) : Int) := by rw [Int.tmod_eq_emod_of_nonneg (by omega)]; omega
      have e3 := dig_one ⟨n % 10, by omega⟩
      simp only at e3
      refine ev_df (by omega) ?_
      rw [e1, e2, e3]
      have hl := itoa_len d (n / 10) h10
      refine ev_bind (l1Number_ev d (n / 10) h10 (by omega)) (ev_gd (by rw [limE]; simp only [List.length_cons, List.length_nil]; omega) (ev_some.2 (itoa_big (by omega)).symm))
theorem itoa_ev {n : Nat} (h : n < 9223372036854775808) (k0 : Nat → Nat) : Ev (fun k => strconv_Itoa.f (k0 k) (n : Int)) (Lib.itoa (n : Int)) :=
  ⟨0, fun k _ => by show strconv_Itoa.f (k0 k) _ = _; rw [strconv_Itoa.f_eq]; unfold gate itoaOk; rw [if_pos (decide_eq_true (by omega))]⟩
def actW (k : Int) : List UInt8 := if k = 0 then [99, 117, 116, 32] else if k = 1 then [98, 97, 99, 107, 32] else if k = 2 then [108, 97, 115, 116, 32] else []
def actOk (a : TwoInts) : Prop := 0 ≤ a.f0 ∧ a.f0 ≤ 2 ∧ 0 ≤ a.f1 ∧ a.f1 ≤ 999
instance (a : TwoInts) : Decidable (actOk a) := by unfold actOk; infer_instance
def actT (a : TwoInts) : List UInt8 := if actOk a then actW a.f0 ++ Lib.itoa a.f1 else []
theorem actW_len (k : Int) : (actW k).length ≤ 5 := by unfold actW; (repeat' split) <;> simp
theorem num_len {n : Int} (h0 : 0 ≤ n) (h1 : n ≤ 999) : (Lib.itoa n).length ≤ 3 := by
  obtain ⟨m, rfl⟩ := Int.eq_ofNat_of_zero_le h0
  exact itoa_len 2 m (by simp; omega)
theorem actT_len (a : TwoInts) : (actT a).length ≤ 8 := by
  unfold actT
  split
  · rename_i h
    have h1 := actW_len a.f0
    have h2 := num_len h.2.2.1 h.2.2.2
    rw [List.length_append]; omega
  · simp
theorem actT_ne {a : TwoInts} (h : actOk a) : actT a ≠ [] := by
  unfold actT
  rw [if_pos h]
  obtain ⟨h0, h1, _⟩ := h
  have : a.f0 = 0 ∨ a.f0 = 1 ∨ a.f0 = 2 := by omega
  rcases this with e | e | e <;> simp [actW, e]
theorem actT_nil {a : TwoInts} : actT a = [] ↔ ¬ actOk a := ⟨fun h hk => actT_ne hk h, fun h => by unfold actT; rw [if_neg h]⟩
theorem implActT_ev (a : TwoInts) : Ev (fun k => impl_ActText.f k a) (actT a) := by
  have join : ∀ w : List UInt8, w.length ≤ 5 → (w = [] → ¬ actOk a) → (w ≠ [] → 0 ≤ a.f0 ∧ a.f0 ≤ 2 ∧ actW a.f0 = w) → Ev (fun k => impl_ActText.j0 k a w) (actT a) := by
    intro w hw h1 h2
    refine ev_succ (fun k => impl_ActText.j0_eq k a w) ?_
    by_cases he : w = []
    · exact ev_dt he (ev_some.2 (actT_nil.2 (h1 he)).symm)
    · obtain ⟨g0, g1, g2⟩ := h2 he
      refine ev_df he ?_
      by_cases hn : a.f1 < 0
      · exact ev_dt hn (ev_some.2 (actT_nil.2 (fun h => by have := h.2.2.1; omega)).symm)
      · refine ev_df hn ?_
        by_cases hb : a.f1 > 999
        · exact ev_dt hb (ev_some.2 (actT_nil.2 (fun h => by have := h.2.2.2; omega)).symm)
        · have hok : actOk a := ⟨g0, g1, by omega, by omega⟩
          have hl := num_len (n := a.f1) (by omega) (by omega)
          refine ev_df hb (ev_bind (a := Lib.itoa a.f1) ?_ (ev_gd (by rw [limE]; omega) (ev_some.2 ?_)))
          · obtain ⟨m, hm⟩ := Int.eq_ofNat_of_zero_le (show 0 ≤ a.f1 by omega)
            rw [hm]
            exact itoa_ev (by omega) id
          · unfold actT; rw [if_pos hok, g2]
  refine ev_succ (fun k => impl_ActText.f_eq k a) ?_
  by_cases h0 : a.f0 = 0
  · exact ev_dt h0 (join _ (by simp) (by simp) (fun _ => ⟨by omega, by omega, by simp [actW, h0]⟩))
  · refine ev_df h0 ?_
    by_cases h1 : a.f0 = 1
    · exact ev_dt h1 (join _ (by simp) (by simp) (fun _ => ⟨by omega, by omega, by simp [actW, h1]⟩))
    · refine ev_df h1 ?_
      by_cases h2 : a.f0 = 2
      · exact ev_dt h2 (join _ (by simp) (by simp) (fun _ => ⟨by omega, by omega, by simp [actW, h2]⟩))
      · exact ev_df h2 (join [] (by simp) (fun _ h => by have := h.1; have := h.2.1; omega) (fun h => absurd rfl h))
theorem specActT_ev (a : TwoInts) : Ev (fun k => spec_ActText.f k a) (actT a) := by
  refine ev_succ (fun k => spec_ActText.f_eq k a) (ev_bind (l1In_ev _ _ _) ?_)
  by_cases h0 : 0 ≤ a.f0 ∧ a.f0 ≤ 2
  · refine ev_nf (by simp [h0]) (ev_bind (l1In_ev _ _ _) ?_)
    by_cases h1 : 0 ≤ a.f1 ∧ a.f1 ≤ 999
    · have hok : actOk a := ⟨h0.1, h0.2, h1.1, h1.2⟩
      have hl := num_len h1.1 h1.2
      have hm : Ev (fun k => spec_l1Number.f k a.f1) (Lib.itoa a.f1) := by
        obtain ⟨m, hm⟩ := Int.eq_ofNat_of_zero_le h1.1
        rw [hm]
        exact l1Number_ev 2 m (by simp; omega) (by omega)
      have h3 : a.f0 = 0 ∨ a.f0 = 1 ∨ a.f0 = 2 := by omega
      refine ev_nf (by simp [h1]) (ev_gd (by simp; omega) ?_)
      rcases h3 with e | e | e
      all_goals
        rw [e]
        refine ev_gd (by rw [limE]; decide) (ev_bind hm (ev_gd (by rw [limE]; simp; omega) (ev_some.2 ?_)))
        unfold actT
        rw [if_pos hok, e]
        simp [actW]
    · exact ev_nt (by simpa using h1) (ev_some.2 (actT_nil.2 (fun h => h1 ⟨h.2.2.1, h.2.2.2⟩)).symm)
  · exact ev_nt (by simpa using h0) (ev_some.2 (actT_nil.2 (fun h => h0 ⟨h.1, h.2.1⟩)).symm)
/-! Texts of ordinals: plain. -/
def isOne : List Term → Bool
  | [t] => decide (t.f0 = 1) && t.f1.isEmpty
  | _ => false
def isOm : List Term → Bool
  | [t] => decide (t.f0 = 1) && isOne t.f1
  | _ => false
def isNm : List Term → Bool
  | [t] => t.f1.isEmpty
  | _ => false
mutual
def oP : Term → List UInt8
  | ⟨n, e⟩ => if e.isEmpty then Lib.itoa n else (if isOne e then [119] else if isOm e || isNm e then 119 :: 94 :: oX e else 119 :: 94 :: 40 :: (oX e ++ [41])) ++ (if n > 1 then 42 :: Lib.itoa n else [])
def oX : List Term → List UInt8
  | [] => [48]
  | t :: x => oP t ++ oR x
def oR : List Term → List UInt8
  | [] => []
  | t :: x => 43 :: (oP t ++ oR x)
end
def oL : List Term → List UInt8
  | [] => []
  | t :: x => oP t ++ oR x
theorem oP_eq (t : Term) : oP t = if t.f1.isEmpty then Lib.itoa t.f0 else (if isOne t.f1 then [119] else if isOm t.f1 || isNm t.f1 then 119 :: 94 :: oX t.f1 else 119 :: 94 :: 40 :: (oX t.f1 ++ [41])) ++ (if t.f0 > 1 then 42 :: Lib.itoa t.f0 else []) := by
  cases t
  rw [oP]
theorem oX_nil : oX [] = [48] := by rw [oX]
theorem oX_cons (t : Term) (x : List Term) : oX (t :: x) = oP t ++ oR x := by rw [oX]
theorem oR_nil : oR [] = [] := by rw [oR]
theorem oR_cons (t : Term) (x : List Term) : oR (t :: x) = 43 :: (oP t ++ oR x) := by rw [oR]
theorem oX_L {x : List Term} (h : x ≠ []) : oX x = oL x := by
  cases x with
  | nil => exact absurd rfl h
  | cons t x => rw [oX_cons]; rfl
theorem oR_app (x y : List Term) : oR (x ++ y) = oR x ++ oR y := by
  induction x with
  | nil => rw [oR_nil]; rfl
  | cons t x ih => rw [List.cons_append, oR_cons, oR_cons, ih]; simp
theorem oL_snoc (x : List Term) (t : Term) : oL (x ++ [t]) = (if x = [] then [] else oL x ++ [43]) ++ oP t := by
  cases x with
  | nil => simp [oL, oR_nil]
  | cons u x =>
    rw [if_neg (by simp)]
    show oP u ++ oR (x ++ [t]) = (oP u ++ oR x ++ [43]) ++ oP t
    rw [oR_app, oR_cons, oR_nil]
    simp
theorem join_oL : ∀ x : List Term, Lib.join (x.map oP) [43] = oL x
  | [] => by simp [Lib.join, oL, List.intercalate]
  | [t] => by simp [Lib.join, oL, List.intercalate, oR_nil]
  | t :: u :: r => by
    have ih := join_oL (u :: r)
    simp only [Lib.join, List.intercalate, List.map_cons, List.intersperse, List.flatten_cons] at ih ⊢
    rw [ih]
    show oP t ++ ([43] ++ (oP u ++ oR r)) = oP t ++ oR (u :: r)
    rw [oR_cons]
    rfl
theorem itoa_ne (n : Nat) : Lib.itoa (n : Int) ≠ [] := by
  by_cases h : n < 10
  · rw [itoa_small h]; simp
  · rw [itoa_big (by omega)]; simp
theorem oP_ne {t : Term} (h : 1 ≤ t.f0) : oP t ≠ [] := by
  rw [oP_eq]
  split
  · obtain ⟨n, hn⟩ := Int.eq_ofNat_of_zero_le (show 0 ≤ t.f0 by omega)
    rw [hn]; exact itoa_ne n
  · split
    · simp
    · split <;> simp
theorem oP_len {t : Term} (h1 : 1 ≤ t.f0) (h2 : t.f0 ≤ 9999) : (oP t).length ≤ 9 + (oX t.f1).length := by
  have hn : (Lib.itoa t.f0).length ≤ 4 := by
    obtain ⟨n, hn⟩ := Int.eq_ofNat_of_zero_le (show 0 ≤ t.f0 by omega)
    rw [hn]; exact itoa_len 3 n (by simp; omega)
  rw [oP_eq]
  split
  · omega
  · rw [List.length_append]
    have : (if t.f0 > 1 then 42 :: Lib.itoa t.f0 else []).length ≤ 5 := by split <;> simp <;> omega
    generalize (if t.f0 > 1 then 42 :: Lib.itoa t.f0 else []) = Y at this ⊢
    split
    · simp; omega
    · split <;> simp <;> omega
theorem oX_le (x : List Term) : (oX x).length ≤ (oL x).length + 1 := by
  cases x with
  | nil => rw [oX_nil]; simp
  | cons t x => rw [oX_L (by simp)]; omega
theorem oL_cons_len (t : Term) (x : List Term) : (oL (t :: x)).length ≤ (oP t).length + 1 + (oL x).length := by
  show (oP t ++ oR x).length ≤ _
  cases x with
  | nil => rw [oR_nil]; simp; omega
  | cons u x => rw [oR_cons]; show _ ≤ (oP t).length + 1 + (oP u ++ oR x).length; simp; omega
theorem oL_len (x : List Term) : vL x → mL x ≤ 9999 → (oL x).length + 11 ≤ 11 * size x := by
  refine tree_ind (P := fun x => vL x → mL x ≤ 9999 → (oL x).length + 11 ≤ 11 * size x) ?_ ?_ x
  · intro _ _; rw [size_nil]; simp [oL]
  · intro t x h1 h2 hv hm
    rw [vL_cons] at hv
    rw [mL_cons] at hm
    have i1 := h1 hv.1.2 (by omega)
    have i2 := h2 hv.2.2 (by omega)
    have i3 := oP_len hv.1.1 (by omega)
    have i4 := oX_le t.f1
    have i5 := oL_cons_len t x
    rw [size_cons]
    omega
theorem oX_len {x : List Term} (hv : vL x) (hm : mL x ≤ 9999) : (oX x).length ≤ 11 * size x := by
  have := oL_len x hv hm
  have := oX_le x
  omega
theorem itoa_digit : ∀ i : Fin 10, UInt8.ofNat (48 + i.val) = 49 ↔ i.val = 1 := by decide +kernel
theorem itoa_w : ∀ i : Fin 10, UInt8.ofNat (48 + i.val) ≠ 119 := by decide +kernel
theorem itoa_one {n : Int} (h : 1 ≤ n) : Lib.itoa n = [49] ↔ n = 1 := by
  obtain ⟨m, rfl⟩ := Int.eq_ofNat_of_zero_le (show 0 ≤ n by omega)
  by_cases hm : m < 10
  · rw [itoa_small hm]
    have := itoa_digit ⟨m, hm⟩
    simp only at this
    constructor
    · intro q; have := this.1 (List.cons.inj q).1; omega
    · intro q; rw [this.2 (by omega)]
  · rw [itoa_big (by omega)]
    have hne := List.length_pos_iff.2 (itoa_ne (m / 10))
    constructor
    · intro q
      have h1 := congrArg List.length q
      rw [List.length_append, List.length_singleton, List.length_singleton] at h1
      omega
    · intro q; omega
theorem itoa_no_w {n : Int} (h : 1 ≤ n) : Lib.itoa n ≠ [119] := by
  obtain ⟨m, rfl⟩ := Int.eq_ofNat_of_zero_le (show 0 ≤ n by omega)
  by_cases hm : m < 10
  · rw [itoa_small hm]
    have := itoa_w ⟨m, hm⟩
    exact fun q => this (List.cons.inj q).1
  · rw [itoa_big (by omega)]
    have hne := List.length_pos_iff.2 (itoa_ne (m / 10))
    intro q
    have h1 := congrArg List.length q
    rw [List.length_append, List.length_singleton, List.length_singleton] at h1
    omega
theorem two_long {t u : Term} {x : List Term} (h1 : 1 ≤ t.f0) : 2 ≤ (oX (t :: u :: x)).length := by
  have := List.length_pos_iff.2 (oP_ne h1)
  rw [oX_cons, oR_cons]
  simp
  omega
theorem oX_one {x : List Term} (hv : vL x) : oX x = [49] ↔ isOne x = true := by
  match x, hv with
  | [], _ => rw [oX_nil]; simp [isOne]
  | [t], hv =>
    rw [vL_cons] at hv
    rw [oX_cons, oR_nil, List.append_nil, oP_eq]
    show _ ↔ (decide (t.f0 = 1) && t.f1.isEmpty) = true
    cases he : t.f1.isEmpty with
    | true => rw [if_pos rfl, itoa_one hv.1.1, Bool.and_true, decide_eq_true_eq]
    | false =>
      rw [if_neg (by simp), Bool.and_false]
      refine ⟨fun h => ?_, fun h => by cases h⟩
      generalize isOne t.f1 = p at h
      generalize (isOm t.f1 || isNm t.f1) = q at h
      cases p <;> cases q <;> simp at h
  | t :: u :: x, hv =>
    rw [vL_cons] at hv
    have := two_long (u := u) (x := x) hv.1.1
    constructor
    · intro h; rw [h] at this; simp at this
    · intro h; simp [isOne] at h
theorem oX_w {x : List Term} (hv : vL x) : oX x = [119] ↔ isOm x = true := by
  match x, hv with
  | [], _ => rw [oX_nil]; simp [isOm]
  | [t], hv =>
    rw [vL_cons] at hv
    rw [oX_cons, oR_nil, List.append_nil, oP_eq]
    show _ ↔ (decide (t.f0 = 1) && isOne t.f1) = true
    cases he : t.f1.isEmpty with
    | true =>
      have h1 : t.f1 = [] := List.isEmpty_iff.1 he
      have h2 : isOne t.f1 = false := by rw [h1]; rfl
      rw [if_pos rfl, h2, Bool.and_false]
      exact ⟨fun h => absurd h (itoa_no_w hv.1.1), fun h => by cases h⟩
    | false =>
      rw [if_neg (by simp)]
      cases ho : isOne t.f1 with
      | true =>
        rw [if_pos rfl, Bool.and_true, decide_eq_true_eq]
        by_cases hg : t.f0 > 1
        · rw [if_pos hg]
          exact ⟨fun h => by simp at h, fun h => by omega⟩
        · rw [if_neg hg]
          exact ⟨fun _ => by omega, fun _ => rfl⟩
      | false =>
        rw [if_neg (by simp), Bool.and_false]
        refine ⟨fun h => ?_, fun h => by cases h⟩
        generalize (isOm t.f1 || isNm t.f1) = q at h
        cases q <;> simp at h
  | t :: u :: x, hv =>
    rw [vL_cons] at hv
    have := two_long (u := u) (x := x) hv.1.1
    constructor
    · intro h; rw [h] at this; simp at this
    · intro h; simp [isOm] at h
/-! What the code makes of trees and their rows. -/
theorem tree_mem {P : List Term → Prop} (h : ∀ x, (∀ t ∈ x, P t.f1) → P x) (x : List Term) : P x := by
  have : (∀ t ∈ x, P t.f1) ∧ P x := by
    refine tree_ind (P := fun x => (∀ t ∈ x, P t.f1) ∧ P x) ⟨(by intro t ht; cases ht), h _ (by intro t ht; cases ht)⟩ ?_ x
    intro t x h1 h2
    have : ∀ s ∈ t :: x, P s.f1 := by
      intro s hs
      rcases List.mem_cons.1 hs with e | e
      · rw [e]; exact h1.2
      · exact h2.1 s e
    exact ⟨this, h _ this⟩
  exact this.2
theorem size_mem {x : List Term} {t : Term} (h : t ∈ x) : size t.f1 + 2 ≤ size x := by
  induction x with
  | nil => cases h
  | cons s x ih =>
    rw [size_cons]
    rcases List.mem_cons.1 h with h | h
    · rw [h]; have := size_pos x; omega
    · have := ih h; omega
theorem cmp_ev (a b : Int) : Ev (fun k => cmp_Compare_int.f k a b) (if a < b then -1 else if a > b then 1 else 0) := by
  have nn : ∀ a : Int, Ev (fun k => cmp_isNaN_int.f k a) false := fun a => ev_succ (fun k => cmp_isNaN_int.f_eq k a) (ev_some.2 (by simp))
  refine ev_succ (fun k => cmp_Compare_int.f_eq k a b) (ev_bind (nn a) (ev_bind (nn b) (ev_bf rfl (ev_bf rfl ?_))))
  by_cases h : a < b
  · rw [if_pos h]; exact ev_dt h (ev_some.2 rfl)
  · rw [if_neg h]
    by_cases h2 : a > b
    · rw [if_pos h2]; exact ev_df h (ev_dt h2 (ev_some.2 rfl))
    · rw [if_neg h2]; exact ev_df h (ev_df h2 (ev_some.2 rfl))
theorem cL_len (x y : List Term) (h : x = [] ∨ y = []) : cL x y = if (x.length : Int) < (y.length : Int) then -1 else if (x.length : Int) > (y.length : Int) then 1 else 0 := by
  rcases h with rfl | rfl
  · cases y with
    | nil => rw [cL_nn]; simp
    | cons b y => rw [cL_nc, if_pos (by simp <;> omega)]
  · cases x with
    | nil => rw [cL_nn]; simp
    | cons b y => rw [cL_cn, if_neg (by simp <;> omega), if_pos (by simp <;> omega)]
theorem compare_ev (x : List Term) : ∀ y, size x ≤ 1000000000 → size y ≤ 1000000000 → Ev (fun k => impl_compare.f k x y) (cL x y) := by
  refine tree_mem (P := fun x => ∀ y, size x ≤ 1000000000 → size y ≤ 1000000000 → Ev (fun k => impl_compare.f k x y) (cL x y)) (fun x ih y hx hy => ?_) x
  have lx := size_len x
  have ly := size_len y
  have loop : ∀ d i : Nat, i + d = min x.length y.length → Ev (fun k => impl_compare.l0 k x y (i : Int)) (cL (x.drop i) (y.drop i)) := by
    intro d
    induction d with
    | zero =>
      intro i hi
      have e : cL (x.drop i) (y.drop i) = if (x.length : Int) < (y.length : Int) then -1 else if (x.length : Int) > (y.length : Int) then 1 else 0 := by
        rw [cL_len _ _ (by
          rcases Nat.lt_or_ge i x.length with h | h
          · exact .inr (List.drop_eq_nil_of_le (by omega))
          · exact .inl (List.drop_eq_nil_of_le (by omega))), List.length_drop, List.length_drop]
        congr 1
        · simp only [eq_iff_iff]; omega
        · congr 1; simp only [eq_iff_iff]; omega
      rw [e]
      refine ev_succ (fun k => impl_compare.l0_eq k _ _ _) ?_
      by_cases h : (i : Int) < (x.length : Int)
      · exact ev_dt h (ev_df (by omega) (ev_bind (cmp_ev _ _) (ev_some.2 rfl)))
      · exact ev_df h (ev_bind (cmp_ev _ _) (ev_some.2 rfl))
    | succ d ihd =>
      intro i hi
      have h1 : i < x.length := by omega
      have h2 : i < y.length := by omega
      rw [List.drop_eq_getElem_cons h1, List.drop_eq_getElem_cons h2, cL_cc, cT_eq]
      have s1 := size_mem (List.getElem_mem h1)
      have s2 := size_mem (List.getElem_mem h2)
      refine ev_succ (fun k => impl_compare.l0_eq k _ _ _) (ev_dt (by first | omega | (simp only [List.length_append, List.length_cons, List.length_nil, List.length_map, List.length_take, List.length_drop, limE]; omega) | (simp [limE] <;> omega)) (ev_dt (by first | omega | (simp only [List.length_append, List.length_cons, List.length_nil, List.length_map, List.length_take, List.length_drop, limE]; omega) | (simp [limE] <;> omega)) (ev_gd (by first | omega | (simp only [List.length_append, List.length_cons, List.length_nil, List.length_map, List.length_take, List.length_drop, limE]; omega) | (simp [limE] <;> omega)) (ev_gd (by first | omega | (simp only [List.length_append, List.length_cons, List.length_nil, List.length_map, List.length_take, List.length_drop, limE]; omega) | (simp [limE] <;> omega)) ?_))))
      rw [get_at h1, get_at h2, w_succ (by omega)]
      refine ev_bind (ih _ (List.getElem_mem h1) _ (by omega) (by omega)) ?_
      by_cases hc : cL x[i].f1 y[i].f1 = 0
      · rw [if_pos hc]
        refine ev_nf (decide_eq_true hc) (ev_gd (by first | omega | (simp only [List.length_append, List.length_cons, List.length_nil, List.length_map, List.length_take, List.length_drop, limE]; omega) | (simp [limE] <;> omega)) (ev_gd (by first | omega | (simp only [List.length_append, List.length_cons, List.length_nil, List.length_map, List.length_take, List.length_drop, limE]; omega) | (simp [limE] <;> omega)) (ev_bind (cmp_ev _ _) ?_)))
        by_cases ht : (if x[i].f0 < y[i].f0 then (-1 : Int) else if x[i].f0 > y[i].f0 then 1 else 0) = 0
        · rw [if_pos ht]; exact ev_nf (decide_eq_true ht) (ihd (i + 1) (by omega))
        · rw [if_neg ht]; exact ev_nt (decide_eq_false ht) (ev_some.2 rfl)
      · rw [if_neg hc, if_neg hc]
        exact ev_nt (decide_eq_false hc) (ev_some.2 rfl)
  exact ev_succ (fun k => impl_compare.f_eq k _ _) (loop (min x.length y.length) 0 (by omega))
theorem fL_drop {x : List Term} {i : Nat} (h : i < x.length) : fL (x.drop i) = x[i].f0 :: (row x[i].f1 ++ fL (x.drop (i + 1))) := by
  rw [List.drop_eq_getElem_cons h, fL_cons]
theorem fL_len (x : List Term) (i : Nat) : (fL (x.drop i)).length ≤ (fL x).length := by
  have := fL_app (x.take i) (x.drop i)
  rw [List.take_append_drop] at this
  rw [this, List.length_append]
  omega
theorem rowOf_ev (x : List Term) : size x ≤ 1000000000 → Ev (fun k => impl_rowOf.f k x) (row x) := by
  refine tree_mem (P := fun x => size x ≤ 1000000000 → Ev (fun k => impl_rowOf.f k x) (row x)) (fun x ih hx => ?_) x
  have lx := size_len x
  have sx := size_eq x
  have loop : ∀ (d i : Nat) (acc : List Int), i + d = x.length → acc.length + (fL (x.drop i)).length ≤ 1000000000 → Ev (fun k => impl_rowOf.l0 k acc x (x.length : Int) (i : Int)) (acc ++ fL (x.drop i)) := by
    intro d
    induction d with
    | zero =>
      intro i acc hi ha
      refine ev_succ (fun k => impl_rowOf.l0_eq k _ _ _ _) (ev_df (by first | omega | (simp only [List.length_append, List.length_cons, List.length_nil, List.length_map, List.length_take, List.length_drop, limE]; omega) | (simp [limE] <;> omega)) (ev_some.2 ?_))
      rw [List.drop_eq_nil_of_le (by omega), fL_nil, List.append_nil]
    | succ d ihd =>
      intro i acc hi ha
      have h1 : i < x.length := by omega
      have s1 := size_mem (List.getElem_mem h1)
      rw [fL_drop h1] at ha ⊢
      simp only [List.length_cons, List.length_append] at ha
      refine ev_succ (fun k => impl_rowOf.l0_eq k _ _ _ _) (ev_dt (by first | omega | (simp only [List.length_append, List.length_cons, List.length_nil, List.length_map, List.length_take, List.length_drop, limE]; omega) | (simp [limE] <;> omega)) (ev_gd (by first | omega | (simp only [List.length_append, List.length_cons, List.length_nil, List.length_map, List.length_take, List.length_drop, limE]; omega) | (simp [limE] <;> omega)) (ev_gd (by first | omega | (simp only [List.length_append, List.length_cons, List.length_nil, List.length_map, List.length_take, List.length_drop, limE]; omega) | (simp [limE] <;> omega)) ?_)))
      rw [get_at h1, w_succ (by omega)]
      refine ev_bind (ih _ (List.getElem_mem h1) (by omega)) (ev_gd (by first | omega | (simp only [List.length_append, List.length_cons, List.length_nil, List.length_map, List.length_take, List.length_drop, limE]; omega) | (simp [limE] <;> omega)) ?_)
      have := ihd (i + 1) ((acc ++ [x[i].f0]) ++ row x[i].f1) (by omega) (by simp only [List.length_append, List.length_cons, List.length_nil]; omega)
      simpa using this
  refine ev_succ (fun k => impl_rowOf.f_eq k _) ?_
  have := loop x.length 0 [(x.length : Int)] (by omega) (by simp only [List.length_cons, List.length_nil, List.drop_zero]; omega)
  simpa [row] using this
theorem sizeOf_ev (x : List Term) : size x ≤ 1000000000 → Ev (fun k => impl_sizeOf.f k x) (size x : Int) := by
  refine tree_mem (P := fun x => size x ≤ 1000000000 → Ev (fun k => impl_sizeOf.f k x) (size x : Int)) (fun x ih hx => ?_) x
  have lx := size_len x
  have sx := size_eq x
  have loop : ∀ (d i : Nat) (acc : Int), i + d = x.length → 0 ≤ acc → acc + (fL (x.drop i)).length ≤ 1000000000 → Ev (fun k => impl_sizeOf.l0 k acc x (x.length : Int) (i : Int)) (acc + ((fL (x.drop i)).length : Int)) := by
    intro d
    induction d with
    | zero =>
      intro i acc hi h0 ha
      refine ev_succ (fun k => impl_sizeOf.l0_eq k _ _ _ _) (ev_df (by first | omega | (simp only [List.length_append, List.length_cons, List.length_nil, List.length_map, List.length_take, List.length_drop, limE]; omega) | (simp [limE] <;> omega)) (ev_some.2 ?_))
      rw [List.drop_eq_nil_of_le (by omega), fL_nil]; simp
    | succ d ihd =>
      intro i acc hi h0 ha
      have h1 : i < x.length := by omega
      have s1 := size_mem (List.getElem_mem h1)
      rw [fL_drop h1] at ha ⊢
      simp only [List.length_cons, List.length_append] at ha ⊢
      have hr : (row x[i].f1).length = size x[i].f1 := rfl
      refine ev_succ (fun k => impl_sizeOf.l0_eq k _ _ _ _) (ev_dt (by first | omega | (simp only [List.length_append, List.length_cons, List.length_nil, List.length_map, List.length_take, List.length_drop, limE]; omega) | (simp [limE] <;> omega)) (ev_gd (by first | omega | (simp only [List.length_append, List.length_cons, List.length_nil, List.length_map, List.length_take, List.length_drop, limE]; omega) | (simp [limE] <;> omega)) ?_))
      rw [get_at h1, w_succ (by omega)]
      refine ev_bind (ih _ (List.getElem_mem h1) (by omega)) ?_
      rw [w64 (x := 1 + (size x[i].f1 : Int)) (by omega) (by omega), w64 (by omega) (by omega)]
      have := ihd (i + 1) (acc + (1 + (size x[i].f1 : Int))) (by omega) (by omega) (by omega)
      rw [show acc + (((row x[i].f1).length + (fL (x.drop (i + 1))).length + 1 : Nat) : Int) = acc + (1 + (size x[i].f1 : Int)) + ((fL (x.drop (i + 1))).length : Int) by omega]
      exact this
  refine ev_succ (fun k => impl_sizeOf.f_eq k _) ?_
  have := loop x.length 0 1 (by omega) (by omega) (by simp only [List.drop_zero]; omega)
  rw [List.drop_zero, show (1 : Int) + ((fL x).length : Int) = (size x : Int) by omega] at this
  exact this
theorem most_ev (x : List Term) : size x ≤ 1000000000 → Ev (fun k => impl_most.f k x) (mL x) := by
  refine tree_mem (P := fun x => size x ≤ 1000000000 → Ev (fun k => impl_most.f k x) (mL x)) (fun x ih hx => ?_) x
  have lx := size_len x
  have loop : ∀ (d i : Nat) (acc : Int), i + d = x.length → 0 ≤ acc → Ev (fun k => impl_most.l0 k acc x (x.length : Int) (i : Int)) (max acc (mL (x.drop i))) := by
    intro d
    induction d with
    | zero =>
      intro i acc hi h0
      refine ev_succ (fun k => impl_most.l0_eq k _ _ _ _) (ev_df (by first | omega | (simp only [List.length_append, List.length_cons, List.length_nil, List.length_map, List.length_take, List.length_drop, limE]; omega) | (simp [limE] <;> omega)) (ev_some.2 ?_))
      rw [List.drop_eq_nil_of_le (by omega), mL_nil]; omega
    | succ d ihd =>
      intro i acc hi h0
      have h1 : i < x.length := by omega
      have s1 := size_mem (List.getElem_mem h1)
      rw [List.drop_eq_getElem_cons h1, mL_cons]
      refine ev_succ (fun k => impl_most.l0_eq k _ _ _ _) (ev_dt (by first | omega | (simp only [List.length_append, List.length_cons, List.length_nil, List.length_map, List.length_take, List.length_drop, limE]; omega) | (simp [limE] <;> omega)) (ev_gd (by first | omega | (simp only [List.length_append, List.length_cons, List.length_nil, List.length_map, List.length_take, List.length_drop, limE]; omega) | (simp [limE] <;> omega)) ?_))
      rw [get_at h1, w_succ (by omega)]
      refine ev_bind (ih _ (List.getElem_mem h1) (by omega)) ?_
      have := ihd (i + 1) (max (max acc x[i].f0) (mL x[i].f1)) (by omega) (by omega)
      rw [show max acc (max (max x[i].f0 (mL x[i].f1)) (mL (x.drop (i + 1)))) = max (max (max acc x[i].f0) (mL x[i].f1)) (mL (x.drop (i + 1))) by omega]
      exact this
  refine ev_succ (fun k => impl_most.f_eq k _) ?_
  have := loop x.length 0 0 (by omega) (by omega)
  have hp := mL_pos x
  rw [List.drop_zero, show max 0 (mL x) = mL x by omega] at this
  exact this
theorem clipI_ev (l : List Int) : Ev (fun k => slices_Clip_int_int.f k l) l :=
  ev_succ (fun k => slices_Clip_int_int.f_eq k l) (ev_gd (by first | omega | (simp only [List.length_append, List.length_cons, List.length_nil, List.length_map, List.length_take, List.length_drop, limE]; omega) | (simp [limE] <;> omega)) (ev_some.2 (by rw [Int.toNat_natCast, List.take_length])))
theorem told_ev (x : List Term) (hx : size x ≤ 1000000000) : Ev (fun k => impl_told.f k x) (if mL x ≤ 9999 ∧ size x ≤ 60 then (row x, true) else ([], false)) := by
  refine ev_succ (fun k => impl_told.f_eq k _) (ev_bind (sizeOf_ev x hx) ?_)
  by_cases h : (size x : Int) > 60
  · rw [if_neg (by omega)]; exact ev_dt h (ev_some.2 rfl)
  · refine ev_df h (ev_bind (most_ev x hx) ?_)
    by_cases h2 : mL x > 9999
    · rw [if_neg (by omega)]; exact ev_dt h2 (ev_some.2 rfl)
    · rw [if_pos (by omega)]; exact ev_df h2 (ev_bind (rowOf_ev x hx) (ev_bind (clipI_ev _) (ev_some.2 rfl)))
theorem tO1_len {l : List Int} {x : List Term} {r : List Int} (h : tO1 l = some (x, r)) : r.length < l.length ∧ size x ≤ l.length ∧ r = l.drop (l.length - r.length) := by
  have h1 := (tO1_sound h).1
  have h2 := congrArg List.length h1
  rw [List.length_append] at h2
  have h3 : (row x).length = size x := rfl
  have h4 := size_pos x
  refine ⟨by omega, by omega, ?_⟩
  have : l.length - r.length = (row x).length := by omega
  rw [this, h1, List.drop_left]
/-! What the reference makes of rows. -/
theorem drop_at {α : Type} {l : List α} {i : Nat} {x : α} {r : List α} (h : l.drop i = x :: r) : i < l.length ∧ l.drop (i + 1) = r ∧ ∀ h : i < l.length, l[i] = x := by
  have hlt : i < l.length := by
    apply Classical.byContradiction
    intro hc
    rw [List.drop_eq_nil_of_le (by omega)] at h
    cases h
  have e := List.drop_eq_getElem_cons hlt
  rw [h] at e
  injection e with e1 e2
  exact ⟨hlt, e2.symm, fun _ => e1.symm⟩
theorem drop_more {α : Type} {l : List α} {i : Nat} {x r : List α} (h : l.drop i = x ++ r) : l.drop (i + x.length) = r := by
  rw [← List.drop_drop, h, List.drop_left]
theorem drop_fits {α : Type} {l : List α} {i : Nat} {x r : List α} (h : l.drop i = x ++ r) (hx : 0 < x.length) : i + x.length ≤ l.length := by
  have := congrArg List.length h
  rw [List.length_drop, List.length_append] at this
  omega
theorem slice_at {α : Type} {l : List α} {i : Nat} {x r : List α} (h : l.drop i = x ++ r) : (l.take (i + x.length)).drop i = x := by
  rw [List.drop_take, h, show i + x.length - i = x.length by omega, List.take_left]
theorem row_len (x : List Term) : (row x).length = size x := rfl
theorem span_ev (x : List Term) : ∀ (r rest : List Int) (a : Nat), r.length ≤ 1000000000 → r.drop a = row x ++ rest → Ev (fun k => spec_l1Span.f k r (a : Int)) ((a + size x : Nat) : Int) := by
  refine tree_mem (P := fun x => ∀ (r rest : List Int) (a : Nat), r.length ≤ 1000000000 → r.drop a = row x ++ rest → Ev (fun k => spec_l1Span.f k r (a : Int)) ((a + size x : Nat) : Int)) (fun x ih r rest a hr hd => ?_) x
  have sx := size_eq x
  have lx := size_len x
  have hfx := drop_fits hd (by rw [row_len]; omega)
  rw [row_len] at hfx
  rw [row, List.cons_append] at hd
  obtain ⟨h1, h2, h3⟩ := drop_at hd
  have loop : ∀ d i b : Nat, i + d = x.length → r.drop b = fL (x.drop i) ++ rest → b ≤ r.length → Ev (fun k => spec_l1Span.l0 k r (b : Int) (x.length : Int) (i : Int)) ((b + (fL (x.drop i)).length : Nat) : Int) := by
    intro d
    induction d with
    | zero =>
      intro i b hi hb hbl
      refine ev_succ (fun k => spec_l1Span.l0_eq k _ _ _ _) (ev_df (by first | omega | (simp only [List.length_append, List.length_cons, List.length_nil, List.length_map, List.length_take, List.length_drop, limE]; omega) | (simp [limE] <;> omega)) (ev_some.2 ?_))
      rw [List.drop_eq_nil_of_le (by omega), fL_nil]; simp
    | succ d ihd =>
      intro i b hi hb hbl
      have hlt : i < x.length := by omega
      rw [fL_drop hlt] at hb ⊢
      rw [List.cons_append, List.append_assoc] at hb
      obtain ⟨b1, b2, b3⟩ := drop_at hb
      have hp := size_pos x[i].f1
      have hf := drop_fits b2 (by rw [row_len]; omega)
      rw [row_len] at hf
      refine ev_succ (fun k => spec_l1Span.l0_eq k _ _ _ _) (ev_dt (by first | omega | (simp only [List.length_append, List.length_cons, List.length_nil, List.length_map, List.length_take, List.length_drop, limE]; omega) | (simp [limE] <;> omega)) ?_)
      rw [w_succ (by omega), w_succ (by omega)]
      refine ev_bind (ih _ (List.getElem_mem hlt) r _ (b + 1) hr b2) ?_
      have := ihd (i + 1) (b + 1 + size x[i].f1) (by omega) (by have := drop_more b2; rw [row_len] at this; exact this) hf
      simp only [List.length_cons, List.length_append, row_len]
      rw [show b + (size x[i].f1 + (fL (x.drop (i + 1))).length + 1) = b + 1 + size x[i].f1 + (fL (x.drop (i + 1))).length by omega]
      exact this
  have := loop x.length 0 (a + 1) (by omega) (by rw [List.drop_zero]; exact h2) (by omega)
  refine ev_succ (fun k => spec_l1Span.f_eq k _ _) (ev_gd (by first | omega | (simp only [List.length_append, List.length_cons, List.length_nil, List.length_map, List.length_take, List.length_drop, limE]; omega) | (simp [limE] <;> omega)) ?_)
  rw [get_at h1, h3 h1, w_succ (by omega), sx, show a + (1 + (fL x).length) = a + 1 + (fL x).length by omega]
  rw [List.drop_zero] at this
  exact this
theorem terms_ev (x : List Term) (hx : size x ≤ 1000000000) : Ev (fun k => spec_l1Terms.f k (row x)) (x.map (·.f0), x.map fun t => row t.f1) := by
  have lx := size_len x
  have loop : ∀ (d i b : Nat) (p : List Int) (q : List (List Int)), i + d = x.length → (row x).drop b = fL (x.drop i) → b ≤ size x → p.length = i → q.length = i →
      Ev (fun k => spec_l1Terms.l0 k (row x) p q (b : Int)) (p ++ (x.drop i).map (·.f0), q ++ (x.drop i).map fun t => row t.f1) := by
    intro d
    induction d with
    | zero =>
      intro i b p q hi hb hbl hp hq
      have hbb : size x ≤ b := by
        have := congrArg List.length hb
        rw [List.length_drop, List.drop_eq_nil_of_le (by omega), fL_nil, row_len] at this
        simp at this
        omega
      refine ev_succ (fun k => spec_l1Terms.l0_eq k _ _ _ _) (ev_df (by rw [row_len]; omega) (ev_some.2 ?_))
      rw [List.drop_eq_nil_of_le (by omega)]; simp
    | succ d ihd =>
      intro i b p q hi hb hbl hp hq
      have hlt : i < x.length := by omega
      rw [fL_drop hlt] at hb
      obtain ⟨b1, b2, b3⟩ := drop_at hb
      have hp1 := size_pos x[i].f1
      have hf := drop_fits b2 (by rw [row_len]; omega)
      rw [row_len, row_len] at hf
      have b1' := b1
      rw [row_len] at b1'
      refine ev_succ (fun k => spec_l1Terms.l0_eq k _ _ _ _) (ev_dt (by omega) ?_)
      rw [w_succ (by omega)]
      refine ev_bind (span_ev _ (row x) _ (b + 1) (by rw [row_len]; omega) b2) (ev_gd (by omega) (ev_gd (by first | omega | (simp only [List.length_append, List.length_cons, List.length_nil, List.length_map, List.length_take, List.length_drop, limE]; omega) | (simp [limE] <;> omega)) (ev_gd (by rw [row_len]; omega) (ev_gd (by first | omega | (simp only [List.length_append, List.length_cons, List.length_nil, List.length_map, List.length_take, List.length_drop, limE]; omega) | (simp [limE] <;> omega)) ?_))))
      have hsl := slice_at b2
      rw [row_len] at hsl
      rw [get_at b1, b3 b1, Int.toNat_natCast, Int.toNat_natCast, hsl]
      have := ihd (i + 1) (b + 1 + size x[i].f1) (p ++ [x[i].f0]) (q ++ [row x[i].f1]) (by omega) (by have := drop_more b2; rw [row_len] at this; exact this) (by omega) (by simp [hp]) (by simp [hq])
      rw [List.drop_eq_getElem_cons hlt]
      simp only [List.append_assoc, List.cons_append, List.nil_append] at this
      exact this
  refine ev_succ (fun k => spec_l1Terms.f_eq k _) ?_
  have := loop x.length 0 1 [] [] (by omega) rfl (size_pos x) rfl rfl
  simpa using this
theorem make_ev (x : List Term) (hx : size x ≤ 1000000000) : Ev (fun k => spec_l1Make.f k (x.map (·.f0)) (x.map fun t => row t.f1)) (row x) := by
  have lx := size_len x
  have sx := size_eq x
  have loop : ∀ (d i : Nat) (acc : List Int), i + d = x.length → acc.length + (fL (x.drop i)).length ≤ 1000000000 → Ev (fun k => spec_l1Make.l0 k (x.map (·.f0)) (x.map fun t => row t.f1) acc (i : Int)) (acc ++ fL (x.drop i)) := by
    intro d
    induction d with
    | zero =>
      intro i acc hi ha
      refine ev_succ (fun k => spec_l1Make.l0_eq k _ _ _ _) (ev_df (by rw [List.length_map]; omega) (ev_some.2 ?_))
      rw [List.drop_eq_nil_of_le (by omega), fL_nil, List.append_nil]
    | succ d ihd =>
      intro i acc hi ha
      have h1 : i < x.length := by omega
      rw [fL_drop h1] at ha ⊢
      simp only [List.length_cons, List.length_append] at ha
      have g1 : (x.map (·.f0)).getD (i : Int).toNat 0 = x[i].f0 := by rw [get_at (by rw [List.length_map]; exact h1), List.getElem_map]
      have g2 : (x.map fun t => row t.f1).getD (i : Int).toNat [] = row x[i].f1 := by rw [get_at (by rw [List.length_map]; exact h1), List.getElem_map]
      refine ev_succ (fun k => spec_l1Make.l0_eq k _ _ _ _) (ev_dt (by rw [List.length_map]; omega) (ev_gd (by rw [List.length_map]; omega) (ev_gd (by first | omega | (simp only [List.length_append, List.length_cons, List.length_nil, List.length_map, List.length_take, List.length_drop, limE]; omega) | (simp [limE] <;> omega)) (ev_gd (by rw [List.length_map]; omega) ?_))))
      rw [g1, g2, w_succ (by omega)]
      refine ev_gd (by first | omega | (simp only [List.length_append, List.length_cons, List.length_nil, List.length_map, List.length_take, List.length_drop, limE]; omega) | (simp [limE] <;> omega)) ?_
      have := ihd (i + 1) ((acc ++ [x[i].f0]) ++ row x[i].f1) (by omega) (by simp only [List.length_append, List.length_cons, List.length_nil]; omega)
      simpa using this
  refine ev_succ (fun k => spec_l1Make.f_eq k _ _) ?_
  have := loop x.length 0 [((x.map (·.f0)).length : Int)] (by omega) (by simp only [List.length_cons, List.length_nil, List.drop_zero]; omega)
  simpa [row] using this
theorem scompare_ev (x : List Term) : ∀ y, size x ≤ 1000000000 → size y ≤ 1000000000 → Ev (fun k => spec_l1Compare.f k (row x) (row y)) (cL x y) := by
  refine tree_mem (P := fun x => ∀ y, size x ≤ 1000000000 → size y ≤ 1000000000 → Ev (fun k => spec_l1Compare.f k (row x) (row y)) (cL x y)) (fun x ih y hx hy => ?_) x
  have lx := size_len x
  have ly := size_len y
  have loop : ∀ d i : Nat, i + d = min x.length y.length → Ev (fun k => spec_l1Compare.l0 k (x.map (·.f0)) (x.map fun t => row t.f1) (y.map (·.f0)) (y.map fun t => row t.f1) (i : Int)) (cL (x.drop i) (y.drop i)) := by
    intro d
    induction d with
    | zero =>
      intro i hi
      have e : cL (x.drop i) (y.drop i) = if (x.length : Int) < (y.length : Int) then -1 else if (x.length : Int) > (y.length : Int) then 1 else 0 := by
        rw [cL_len _ _ (by
          rcases Nat.lt_or_ge i x.length with h | h
          · exact .inr (List.drop_eq_nil_of_le (by omega))
          · exact .inl (List.drop_eq_nil_of_le (by omega))), List.length_drop, List.length_drop]
        congr 1
        · simp only [eq_iff_iff]; omega
        · congr 1; simp only [eq_iff_iff]; omega
      rw [e]
      have fin : Ev (fun k => br (decide (((x.map (·.f0)).length : Int) < ((y.map (·.f0)).length : Int))) (some (-1)) (br (decide (((x.map (·.f0)).length : Int) > ((y.map (·.f0)).length : Int))) (some 1) (some 0))) (if (x.length : Int) < (y.length : Int) then (-1 : Int) else if (x.length : Int) > (y.length : Int) then 1 else 0) := by
        rw [List.length_map, List.length_map]
        by_cases h1 : (x.length : Int) < (y.length : Int)
        · rw [if_pos h1]; exact ev_dt h1 (ev_some.2 rfl)
        · rw [if_neg h1]
          by_cases h2 : (x.length : Int) > (y.length : Int)
          · rw [if_pos h2]; exact ev_df h1 (ev_dt h2 (ev_some.2 rfl))
          · rw [if_neg h2]; exact ev_df h1 (ev_df h2 (ev_some.2 rfl))
      refine ev_succ (fun k => spec_l1Compare.l0_eq k _ _ _ _ _) ?_
      by_cases h : (i : Int) < (x.length : Int)
      · exact ev_dt (by rw [List.length_map]; exact h) (ev_df (by rw [List.length_map]; omega) fin)
      · exact ev_df (by rw [List.length_map]; exact h) fin
    | succ d ihd =>
      intro i hi
      have h1 : i < x.length := by omega
      have h2 : i < y.length := by omega
      rw [List.drop_eq_getElem_cons h1, List.drop_eq_getElem_cons h2, cL_cc, cT_eq]
      have s1 := size_mem (List.getElem_mem h1)
      have s2 := size_mem (List.getElem_mem h2)
      have g1 : (x.map (·.f0)).getD (i : Int).toNat 0 = x[i].f0 := by rw [get_at (by rw [List.length_map]; exact h1), List.getElem_map]
      have g2 : (x.map fun t => row t.f1).getD (i : Int).toNat [] = row x[i].f1 := by rw [get_at (by rw [List.length_map]; exact h1), List.getElem_map]
      have g3 : (y.map (·.f0)).getD (i : Int).toNat 0 = y[i].f0 := by rw [get_at (by rw [List.length_map]; exact h2), List.getElem_map]
      have g4 : (y.map fun t => row t.f1).getD (i : Int).toNat [] = row y[i].f1 := by rw [get_at (by rw [List.length_map]; exact h2), List.getElem_map]
      have l1 : (i : Int) < ((x.map (·.f0)).length : Int) := by rw [List.length_map]; omega
      have l2 : (i : Int) < ((y.map (·.f0)).length : Int) := by rw [List.length_map]; omega
      refine ev_succ (fun k => spec_l1Compare.l0_eq k _ _ _ _ _) (ev_dt l1 (ev_dt l2 (ev_gd (by rw [List.length_map]; omega) (ev_gd (by rw [List.length_map]; omega) ?_))))
      rw [g1, g2, g3, g4, w_succ (by omega)]
      refine ev_bind (ih _ (List.getElem_mem h1) _ (by omega) (by omega)) ?_
      by_cases hc : cL x[i].f1 y[i].f1 = 0
      · rw [if_pos hc]
        refine ev_nf (decide_eq_true hc) (ev_gd ⟨by omega, l1⟩ (ev_gd ⟨by omega, l2⟩ ?_))
        by_cases ht : x[i].f0 = y[i].f0
        · rw [if_neg (show ¬ x[i].f0 < y[i].f0 by omega), if_neg (show ¬ x[i].f0 > y[i].f0 by omega), if_pos rfl]
          exact ev_nf (decide_eq_true ht) (ihd (i + 1) (by omega))
        · refine ev_nt (decide_eq_false ht) (ev_gd ⟨by omega, l1⟩ (ev_gd ⟨by omega, l2⟩ ?_))
          by_cases hlt : x[i].f0 < y[i].f0
          · rw [if_pos hlt, if_neg (show ¬ (-1 : Int) = 0 by omega)]; exact ev_dt hlt (ev_some.2 rfl)
          · rw [if_neg hlt, if_pos (show x[i].f0 > y[i].f0 by omega), if_neg (show ¬ (1 : Int) = 0 by omega)]; exact ev_df hlt (ev_some.2 rfl)
      · rw [if_neg hc, if_neg hc]
        exact ev_nt (decide_eq_false hc) (ev_some.2 rfl)
  exact ev_succ (fun k => spec_l1Compare.f_eq k _ _) (ev_bind (terms_ev x hx) (ev_bind (terms_ev y hy) (loop (min x.length y.length) 0 (by omega))))
/-- Where an ordinal ends. -/
def eR (n : Nat) : Option (List Term × List Int) → Int
  | some (_, r) => (n : Int) - (r.length : Int)
  | none => -1
theorem end_ev (r : List Int) (hr : r.length ≤ 1000000) : ∀ (N a : Nat), r.length ≤ a + N → a ≤ r.length → Ev (fun k => spec_l1End.f k r (a : Int)) (eR r.length (tO1 (r.drop a))) := by
  intro N
  induction N with
  | zero =>
    intro a h1 h2
    refine ev_succ (fun k => spec_l1End.f_eq k _ _) (ev_dt (by omega) (ev_some.2 ?_))
    rw [List.drop_eq_nil_of_le (by omega)]
    rfl
  | succ N ih =>
    intro a h1 h2
    have loop : ∀ (d i b : Nat) (last : List Int) (p : Option (List Term)), r.length ≤ b + N → b ≤ r.length → i + d ≤ 60 → (i = 0 → p = none) → (0 < i → ∃ q, p = some q ∧ last = row q ∧ size q ≤ 1000000) →
        Ev (fun k => spec_l1End.l0 k r (b : Int) ((i + d : Nat) : Int) last (i : Int)) (eR r.length (tO (r.drop b).length d p (r.drop b))) := by
      intro d
      induction d with
      | zero =>
        intro i b last p hb hb2 hi hp0 hp1
        refine ev_succ (fun k => spec_l1End.l0_eq k _ _ _ _ _) (ev_df (by first | omega | (simp only [List.length_append, List.length_cons, List.length_nil, List.length_map, List.length_take, List.length_drop, limE]; omega) | (simp [limE] <;> omega)) (ev_some.2 ?_))
        simp only [tO, eR, List.length_drop]
        omega
      | succ d ihd =>
        intro i b last p hb hb2 hi hp0 hp1
        refine ev_succ (fun k => spec_l1End.l0_eq k _ _ _ _ _) (ev_dt (by first | omega | (simp only [List.length_append, List.length_cons, List.length_nil, List.length_map, List.length_take, List.length_drop, limE]; omega) | (simp [limE] <;> omega)) ?_)
        by_cases hlt : b < r.length
        · have hdr := List.drop_eq_getElem_cons hlt
          have hT := tO_step (f := (r.drop (b + 1)).length) (n := d) (p := p) (c := r[b]) (l := r.drop (b + 1)) (Nat.le_refl _)
          rw [hdr, show tO (r[b] :: r.drop (b + 1)).length (d + 1) p (r[b] :: r.drop (b + 1)) = _ from hT]
          refine ev_df (by omega) (ev_gd (by first | omega | (simp only [List.length_append, List.length_cons, List.length_nil, List.length_map, List.length_take, List.length_drop, limE]; omega) | (simp [limE] <;> omega)) (ev_bind (l1In_ev _ _ _) ?_))
          rw [get_at hlt]
          by_cases hc : r[b] < 1 ∨ r[b] > 9999
          · rw [if_pos hc]
            refine ev_nt ?_ (ev_some.2 rfl)
            rcases hc with hc | hc
            · simp; omega
            · simp; omega
          · rw [if_neg hc, w_succ (by omega)]
            refine ev_nf (by simp <;> omega) (ev_bind (ih (b + 1) (by omega) (by omega)) ?_)
            cases ht : tO1 (r.drop (b + 1)) with
            | none => exact ev_dt (by simp [eR]) (ev_some.2 rfl)
            | some q =>
              obtain ⟨e, r'⟩ := q
              have hl := tO1_len ht
              rw [List.length_drop] at hl
              obtain ⟨g1, g2, g3⟩ := tO1_sound ht
              have hsz : size e + r'.length = r.length - (b + 1) := by
                have := congrArg List.length g1
                rw [List.length_append, row_len, List.length_drop] at this
                omega
              have he : eR r.length (some (e, r')) = ((b + 1 + size e : Nat) : Int) := by simp only [eR]; omega
              have hsl : (r.take (b + 1 + size e)).drop (b + 1) = row e := by
                have := slice_at g1
                rw [row_len] at this
                exact this
              have hrest : r.drop (b + 1 + size e) = r' := by
                have := drop_more g1
                rw [row_len] at this
                exact this
              rw [he]
              refine ev_df (by omega) ?_
              rw [Int.toNat_natCast, Int.toNat_natCast, hsl]
              have next : pv p e = false → Ev (fun k => spec_l1End.l0 k r ((b + 1 + size e : Nat) : Int) ((i + (d + 1) : Nat) : Int) (row e) (wr ((i : Int) + 1))) (eR r.length (if pv p e = true then none else match tO r'.length d (some e) r' with | none => none | some (x, r'') => some (⟨r[b], e⟩ :: x, r''))) := by
                intro hp
                rw [hp, if_neg (by simp), w_succ (by omega)]
                have := ihd (i + 1) (b + 1 + size e) (row e) (some e) (by omega) (by omega) (by omega) (by omega) (fun _ => ⟨e, rfl, rfl, by omega⟩)
                rw [show i + 1 + d = i + (d + 1) by omega, hrest] at this
                revert this
                cases tO r'.length d (some e) r' with
                | none => exact id
                | some q => exact id
              by_cases h3 : (i : Int) > 0
              · obtain ⟨q, rfl, hq, hqs⟩ := hp1 (by omega)
                rw [hq]
                refine ev_dt h3 (ev_gd (by omega) (ev_bind (scompare_ev e q (by omega) (by omega)) ?_))
                by_cases h4 : cL e q ≥ 0
                · refine ev_dt h4 (ev_some.2 ?_)
                  have hpv : pv (some q) e = true := decide_eq_true h4
                  simp only [hpv, if_true, eR]
                · exact ev_df h4 (ev_gd (by omega) (next (decide_eq_false h4)))
              · obtain rfl := hp0 (by omega)
                exact ev_df h3 (ev_gd (by omega) (next rfl))
        · refine ev_dt (by omega) (ev_some.2 ?_)
          rw [List.drop_eq_nil_of_le (by omega)]
          simp [tO, eR]
    refine ev_succ (fun k => spec_l1End.f_eq k _ _) ?_
    by_cases hlt : a < r.length
    · have hdr := List.drop_eq_getElem_cons hlt
      refine ev_df (by omega) (ev_gd (by first | omega | (simp only [List.length_append, List.length_cons, List.length_nil, List.length_map, List.length_take, List.length_drop, limE]; omega) | (simp [limE] <;> omega)) (ev_bind (l1In_ev _ _ _) ?_))
      rw [get_at hlt, hdr]
      simp only [tO1]
      by_cases hc : r[a] < 0 ∨ r[a] > 60
      · rw [if_pos hc]
        refine ev_nt ?_ (ev_some.2 rfl)
        rcases hc with hc | hc
        · simp; omega
        · simp; omega
      · rw [if_neg hc, w_succ (by omega)]
        refine ev_nf (by simp <;> omega) (ev_gd (by first | omega | (simp only [List.length_append, List.length_cons, List.length_nil, List.length_map, List.length_take, List.length_drop, limE]; omega) | (simp [limE] <;> omega)) ?_)
        have := loop r[a].toNat 0 (a + 1) [] none (by omega) (by omega) (by omega) (fun _ => rfl) (fun h => by omega)
        rw [show ((0 + r[a].toNat : Nat) : Int) = r[a] by omega] at this
        exact this
    · refine ev_dt (by omega) (ev_some.2 ?_)
      rw [List.drop_eq_nil_of_le (by omega)]
      rfl

end Go.Proofs.YtkgpkalclblhbaaGreatDoor.EPure
