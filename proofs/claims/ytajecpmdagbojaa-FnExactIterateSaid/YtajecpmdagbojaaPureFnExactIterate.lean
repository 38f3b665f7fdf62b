/-
  the pure statement of FnExactIterate
-/
import Derived.Test.YtajecpmdagbojaaPFnExactIteratex1
namespace Go.Proofs.Ytajecpmdagbojaa.Pure
open Go.RowKit Go.Proofs.Ytajecpmdagbojaa.PFnExactIterate Go.Proofs.YtajecpmdagbojaaW.PrintWords Go.Proofs.YtajecpmdagbojaaW.PrintLast Go.Proofs.YtajecpmdagbojaaW.PrintMore
set_option linter.unusedVariables false
set_option linter.unusedSimpArgs false

/-! Rounds without counting them: what a printed function tells from some number of rounds on. -/
theorem ev_some {α : Type} {a r : α} : Ev (fun _ => some a) r ↔ a = r := by
  constructor
  · rintro ⟨K, h⟩
    exact Option.some.inj (h K (Nat.le_refl _))
  · rintro rfl
    exact ⟨0, fun _ _ => rfl⟩
theorem ev_pos {α : Type} {c : Prop} [Decidable c] {g h : Nat → Option α} {r : α} (hc : c) : Ev (fun k => if c then g k else h k) r ↔ Ev g r := by simp only [if_pos hc]
theorem ev_neg {α : Type} {c : Prop} [Decidable c] {g h : Nat → Option α} {r : α} (hc : ¬ c) : Ev (fun k => if c then g k else h k) r ↔ Ev h r := by simp only [if_neg hc]
theorem ev_bind {α β : Type} {g : Nat → Option α} {f : Nat → α → Option β} {a : α} (h : Ev g a) {r : β} : Ev (fun k => (g k).bind (f k)) r ↔ Ev (fun k => f k a) r := by
  constructor
  · rintro ⟨K, e⟩
    obtain ⟨L, h⟩ := h
    refine ⟨max K L, fun k hk => ?_⟩
    have h1 := e k (by omega)
    simp only [h k (by omega), Option.bind_some] at h1
    exact h1
  · exact fun e => Ev.bind h e
theorem ev_now {α β : Type} {f : Nat → α → Option β} {a : α} {r : β} : Ev (fun k => (some a).bind (f k)) r ↔ Ev (fun k => f k a) r := by simp only [Option.bind_some]
theorem ev_succ {α : Type} {g f : Nat → Option α} {r : α} (h : ∀ k, g (k + 1) = f k) : Ev g r ↔ Ev f r := by
  constructor
  · rintro ⟨K, e⟩
    exact ⟨K, fun k hk => by rw [← h]; exact e (k + 1) (by omega)⟩
  · exact fun e => Ev.step h e
theorem ev_of_eq {α : Type} {g f : Nat → Option α} {r : α} (h : ∀ k, g k = f k) : Ev g r ↔ Ev f r := by
  have : g = f := funext h
  rw [this]
theorem ev_true {g : Nat → Option Bool} (h : Ev g true) : ∃ k, g k = some true := Ev.rounds h
theorem w64 {x : Int} (h0 : -9223372036854775808 ≤ x) (h1 : x ≤ 9223372036854775807) : wrap64 x = x := by
  unfold wrap64
  omega
theorem w_succ {i : Nat} (h : i < 9223372036854775807) : wrap64 ((i : Int) + 1) = ((i + 1 : Nat) : Int) := by rw [w64] <;> omega
theorem rd_nat {l : List Int} {i : Nat} (h : i < l.length) : rd l (i : Int) = l[i] := by
  unfold rd
  rw [Int.toNat_natCast, List.getD_eq_getElem?_getD, List.getElem?_eq_getElem h]
  rfl
theorem drop_cons {α : Type} {l : List α} {i : Nat} (h : i < l.length) : l.drop i = l[i] :: l.drop (i + 1) := List.drop_eq_getElem_cons h
theorem l1In_ev (n a b : Int) : Ev (fun _ => spec_l1In.f n a b) (decide (a ≤ n) && decide (n ≤ b)) := by
  unfold spec_l1In.f
  by_cases h : n ≥ a
  · refine (ev_pos h).2 (ev_some.2 ?_)
    rw [decide_eq_true (show a ≤ n from h), Bool.true_and]
  · refine (ev_neg h).2 (ev_some.2 ?_)
    rw [decide_eq_false (show ¬ a ≤ n from h), Bool.false_and]
/-! Iteration by levels: what a number becomes, or -1. -/
/-- so many rounds of a step, one after the other; -1 once it is less than 0. -/
def itr (f : Int → Int) : Nat → Int → Int
  | 0, n => n
  | d + 1, n => if f n < 0 then -1 else itr f d (f n)
def iterN : Nat → Int → Int
  | 0, n => if n ≥ 90 then -1 else n + 1
  | l + 1, n => itr (iterN l) n.toNat n
theorem itr_bound {f : Int → Int} (h : ∀ n : Int, 1 ≤ n → n ≤ 90 → (f n = -1 ∨ (1 ≤ f n ∧ f n ≤ 90))) : ∀ (d : Nat) (n : Int), 1 ≤ n → n ≤ 90 → (itr f d n = -1 ∨ (1 ≤ itr f d n ∧ itr f d n ≤ 90)) := by
  intro d
  induction d with
  | zero => intro n h1 h2; exact .inr ⟨h1, h2⟩
  | succ d ih =>
    intro n h1 h2
    unfold itr
    rcases h n h1 h2 with e | ⟨e1, e2⟩
    · rw [if_pos (by omega)]; exact .inl rfl
    · rw [if_neg (by omega)]; exact ih _ e1 e2
theorem iterN_bound : ∀ (l : Nat) (n : Int), 1 ≤ n → n ≤ 90 → (iterN l n = -1 ∨ (1 ≤ iterN l n ∧ iterN l n ≤ 90)) := by
  intro l
  induction l with
  | zero =>
    intro n h1 h2
    unfold iterN
    by_cases h : n ≥ 90
    · rw [if_pos h]; exact .inl rfl
    · rw [if_neg h]; exact .inr ⟨by omega, by omega⟩
  | succ l ih => intro n h1 h2; exact itr_bound ih _ n h1 h2
theorem iterate_l0 {l : Nat} (hl : l ≤ 20) (IH : ∀ n : Int, 1 ≤ n → n ≤ 90 → Ev (fun k => impl_iterate.f k (l : Int) n) (iterN l n)) (m : Int) (hm : m ≤ 90) : ∀ (d : Nat) (i n : Int), 0 ≤ i → i + d = m → 1 ≤ n → n ≤ 90 →
    Ev (fun k => impl_iterate.l0 k ((l : Int) + 1) n m i) (itr (iterN l) d n) := by
  intro d
  induction d with
  | zero =>
    intro i n h0 hi h1 h2
    refine (ev_succ (fun k => by rw [impl_iterate.l0])).2 ?_
    exact (ev_neg (by omega)).2 (ev_some.2 rfl)
  | succ d ih =>
    intro i n h0 hi h1 h2
    refine (ev_succ (fun k => by rw [impl_iterate.l0])).2 ?_
    refine (ev_pos (by omega)).2 ?_
    rw [show wrap64 ((l : Int) + 1 - 1) = l by rw [w64] <;> omega]
    refine (ev_bind (IH n h1 h2)).2 ?_
    unfold itr
    rcases iterN_bound l n h1 h2 with e | ⟨e1, e2⟩
    · rw [if_pos (by omega)]
      exact (ev_pos (by omega)).2 (ev_some.2 rfl)
    · rw [if_neg (by omega)]
      refine (ev_neg (by omega)).2 ?_
      rw [w64 (by omega) (by omega)]
      exact ih (i + 1) _ (by omega) (by omega) e1 e2
theorem iterate_ev : ∀ (l : Nat), l ≤ 20 → ∀ n : Int, 1 ≤ n → n ≤ 90 → Ev (fun k => impl_iterate.f k (l : Int) n) (iterN l n) := by
  intro l
  induction l with
  | zero =>
    intro hl n h1 h2
    refine (ev_succ (fun k => by rw [impl_iterate.f])).2 ?_
    refine (ev_pos rfl).2 ?_
    by_cases h : n ≥ 90
    · refine (ev_pos h).2 (ev_some.2 ?_)
      unfold iterN; rw [if_pos h]
    · refine (ev_neg h).2 (ev_some.2 ?_)
      unfold iterN; rw [if_neg h]; exact w64 (by omega) (by omega)
  | succ l ih =>
    intro hl n h1 h2
    refine (ev_succ (fun k => by rw [impl_iterate.f])).2 ?_
    refine (ev_neg (by omega)).2 ?_
    have := iterate_l0 (l := l) (by omega) (ih (by omega)) n h2 n.toNat 0 n (by omega) (by omega) h1 h2
    exact this
def IterV (l n : Int) : Int := if 1 ≤ n ∧ n ≤ 90 ∧ 0 ≤ l ∧ l ≤ 9 then iterN l.toNat n else -1
theorem Iterate_ev (l n : Int) : Ev (fun k => impl_Iterate.f k l n) (IterV l n) := by
  unfold impl_Iterate.f IterV
  by_cases a : n < 1
  · rw [if_neg (by omega)]; exact (ev_pos a).2 (ev_some.2 rfl)
  refine (ev_neg a).2 ?_
  by_cases b : n > 90
  · rw [if_neg (by omega)]; exact (ev_pos b).2 (ev_some.2 rfl)
  refine (ev_neg b).2 ?_
  by_cases c : l < 0
  · rw [if_neg (by omega)]; exact (ev_pos c).2 (ev_some.2 rfl)
  refine (ev_neg c).2 ?_
  by_cases e : l > 9
  · rw [if_neg (by omega)]; exact (ev_pos e).2 (ev_some.2 rfl)
  refine (ev_neg e).2 ?_
  rw [if_pos (by omega)]
  obtain ⟨m, rfl⟩ : ∃ m : Nat, l = m := ⟨l.toNat, by omega⟩
  exact (ev_bind (iterate_ev m (by omega) n (by omega) (by omega))).2 (ev_some.2 (by simp))
theorem sIterate_l0 {l : Nat} (hl : l ≤ 8) (IH : ∀ n : Int, 1 ≤ n → n ≤ 90 → Ev (fun k => spec_Iterate.f k (l : Int) n) (iterN l n)) (m : Int) (hm : m ≤ 90) : ∀ (d : Nat) (i n : Int), 0 ≤ i → i + d = m → 1 ≤ n → n ≤ 90 →
    Ev (fun k => spec_Iterate.l0 k ((l : Int) + 1) m n i) (itr (iterN l) d n) := by
  intro d
  induction d with
  | zero =>
    intro i n h0 hi h1 h2
    refine (ev_succ (fun k => by rw [spec_Iterate.l0])).2 ?_
    exact (ev_neg (by omega)).2 (ev_some.2 rfl)
  | succ d ih =>
    intro i n h0 hi h1 h2
    refine (ev_succ (fun k => by rw [spec_Iterate.l0])).2 ?_
    refine (ev_pos (by omega)).2 ?_
    rw [show wrap64 ((l : Int) + 1 - 1) = l by rw [w64] <;> omega]
    refine (ev_bind (IH n h1 h2)).2 ?_
    unfold itr
    rcases iterN_bound l n h1 h2 with e | ⟨e1, e2⟩
    · rw [if_pos (by omega)]
      exact (ev_pos (by omega)).2 (ev_some.2 rfl)
    · rw [if_neg (by omega)]
      refine (ev_neg (by omega)).2 ?_
      rw [w64 (by omega) (by omega)]
      exact ih (i + 1) _ (by omega) (by omega) e1 e2
theorem sIterate_good : ∀ (l : Nat), l ≤ 9 → ∀ n : Int, 1 ≤ n → n ≤ 90 → Ev (fun k => spec_Iterate.f k (l : Int) n) (iterN l n) := by
  intro l
  induction l with
  | zero =>
    intro hl n h1 h2
    refine (ev_succ (fun k => by rw [spec_Iterate.f])).2 ?_
    refine (ev_bind (l1In_ev _ 0 9)).2 ((ev_pos (by simp)).2 ((ev_bind (l1In_ev n 1 90)).2 ?_))
    refine (ev_succ (fun k => by rw [spec_Iterate.j0])).2 ?_
    rw [decide_eq_true h1, decide_eq_true h2]
    refine (ev_neg (by simp)).2 ((ev_pos rfl).2 ?_)
    by_cases h : n = 90
    · refine (ev_pos h).2 (ev_some.2 ?_)
      unfold iterN; rw [if_pos (by omega)]
    · refine (ev_neg h).2 (ev_some.2 ?_)
      unfold iterN; rw [if_neg (by omega)]; exact w64 (by omega) (by omega)
  | succ l ih =>
    intro hl n h1 h2
    refine (ev_succ (fun k => by rw [spec_Iterate.f])).2 ?_
    refine (ev_bind (l1In_ev _ 0 9)).2 ((ev_pos (by simp; omega)).2 ((ev_bind (l1In_ev n 1 90)).2 ?_))
    refine (ev_succ (fun k => by rw [spec_Iterate.j0])).2 ?_
    rw [decide_eq_true h1, decide_eq_true h2]
    refine (ev_neg (by simp)).2 ((ev_neg (by omega)).2 ?_)
    have := sIterate_l0 (l := l) (by omega) (ih (by omega)) n h2 n.toNat 0 n (by omega) (by omega) h1 h2
    exact this
theorem sIterate_ev (l n : Int) : Ev (fun k => spec_Iterate.f k l n) (IterV l n) := by
  by_cases h : 1 ≤ n ∧ n ≤ 90 ∧ 0 ≤ l ∧ l ≤ 9
  · unfold IterV
    rw [if_pos h]
    obtain ⟨m, rfl⟩ : ∃ m : Nat, l = m := ⟨l.toNat, by omega⟩
    exact sIterate_good m (by omega) n (by omega) (by omega)
  · unfold IterV
    rw [if_neg h]
    refine (ev_succ (fun k => by rw [spec_Iterate.f])).2 ?_
    refine (ev_bind (l1In_ev _ 0 9)).2 ?_
    by_cases c : 0 ≤ l ∧ l ≤ 9
    · refine (ev_pos (by simp; omega)).2 ((ev_bind (l1In_ev n 1 90)).2 ?_)
      refine (ev_succ (fun k => by rw [spec_Iterate.j0])).2 ?_
      refine (ev_pos ?_).2 (ev_some.2 rfl)
      have : (decide (1 ≤ n) && decide (n ≤ 90)) = false := by
        rw [Bool.eq_false_iff]; simp; omega
      rw [this]; rfl
    · refine (ev_neg (by simp; omega)).2 ?_
      refine (ev_succ (fun k => by rw [spec_Iterate.j0])).2 ?_
      exact (ev_pos rfl).2 (ev_some.2 rfl)
theorem Iterate_same (l n : Int) : ∃ r, Ev (fun k => impl_Iterate.f k l n) r ∧ Ev (fun k => spec_Iterate.f k l n) r := ⟨_, Iterate_ev l n, sIterate_ev l n⟩
theorem FnExactIterate : laws_FnExactIterate.Pure := by
  intro l n h1 h2
  refine ev_true ?_
  unfold laws_FnExactIterate.f
  obtain ⟨r, e1, e2⟩ := Iterate_same l n
  refine (ev_bind e2).2 ((ev_bind e1).2 ?_)
  exact (ev_pos rfl).2 (ev_some.2 rfl)

end Go.Proofs.Ytajecpmdagbojaa.Pure
