/-
  the pure statement of FnExactTradeValid
-/
import Derived.Test.YtajecpmdagbojaaPFnExactTradeValidx2
namespace Go.Proofs.Ytajecpmdagbojaa.Pure
open Go.RowKit Go.Proofs.Ytajecpmdagbojaa.PFnExactTradeValid Go.Proofs.YtajecpmdagbojaaW.PrintWords Go.Proofs.YtajecpmdagbojaaW.PrintLast Go.Proofs.YtajecpmdagbojaaW.PrintMore
set_option linter.unusedVariables false
set_option linter.unusedSimpArgs false

/-! Rounds without counting them: what a printed function tells from some number of rounds on. -/
theorem ev_some {α : Type} {a r : α} : Ev (fun _ => some a) r ↔ a = r := by
  constructor
  · rintro ⟨K, h⟩
    exact Option.some.inj (h K (Nat.le_refl _))
  · rintro rfl
    exact ⟨0, fun _ _ => rfl⟩
theorem ev_pos {α : Type} {c : Prop} [Decidable c] {g h : Nat → Option α} {r : α} (hc : c) : Ev (fun k => if c then g k else h k) r ↔ Ev g r := by simp only [if_pos hc]
theorem ev_neg {α : Type} {c : Prop} [Decidable c] {g h : Nat → Option α} {r : α} (hc : ¬ c) : Ev (fun k => if c then g k else h k) r ↔ Ev h r := by simp only [if_neg hc]
theorem ev_bind {α β : Type} {g : Nat → Option α} {f : Nat → α → Option β} {a : α} (h : Ev g a) {r : β} : Ev (fun k => (g k).bind (f k)) r ↔ Ev (fun k => f k a) r := by
  constructor
  · rintro ⟨K, e⟩
    obtain ⟨L, h⟩ := h
    refine ⟨max K L, fun k hk => ?_⟩
    have h1 := e k (by omega)
    simp only [h k (by omega), Option.bind_some] at h1
    exact h1
  · exact fun e => Ev.bind h e
theorem ev_now {α β : Type} {f : Nat → α → Option β} {a : α} {r : β} : Ev (fun k => (some a).bind (f k)) r ↔ Ev (fun k => f k a) r := by simp only [Option.bind_some]
theorem ev_succ {α : Type} {g f : Nat → Option α} {r : α} (h : ∀ k, g (k + 1) = f k) : Ev g r ↔ Ev f r := by
  constructor
  · rintro ⟨K, e⟩
    exact ⟨K, fun k hk => by rw [← h]; exact e (k + 1) (by omega)⟩
  · exact fun e => Ev.step h e
theorem ev_of_eq {α : Type} {g f : Nat → Option α} {r : α} (h : ∀ k, g k = f k) : Ev g r ↔ Ev f r := by
  have : g = f := funext h
  rw [this]
theorem ev_true {g : Nat → Option Bool} (h : Ev g true) : ∃ k, g k = some true := Ev.rounds h
theorem w64 {x : Int} (h0 : -9223372036854775808 ≤ x) (h1 : x ≤ 9223372036854775807) : wrap64 x = x := by
  unfold wrap64
  omega
theorem w_succ {i : Nat} (h : i < 9223372036854775807) : wrap64 ((i : Int) + 1) = ((i + 1 : Nat) : Int) := by rw [w64] <;> omega
theorem rd_nat {l : List Int} {i : Nat} (h : i < l.length) : rd l (i : Int) = l[i] := by
  unfold rd
  rw [Int.toNat_natCast, List.getD_eq_getElem?_getD, List.getElem?_eq_getElem h]
  rfl
theorem drop_cons {α : Type} {l : List α} {i : Nat} (h : i < l.length) : l.drop i = l[i] :: l.drop (i + 1) := List.drop_eq_getElem_cons h
theorem toIntS_l0 (l : List Int) (hl : l.length < 9223372036854775807) : ∀ d i : Nat, ∀ r : List Int, i + d = l.length → r.length = d →
    Ev (fun k => laws_toIntS.l0 k l (l.take i ++ r) (i : Int)) l := by
  intro d
  induction d with
  | zero =>
    intro i r hi hr
    have : r = [] := List.length_eq_zero_iff.1 hr
    subst this
    refine (ev_succ (fun k => by rw [laws_toIntS.l0])).2 ?_
    refine (ev_neg (by omega)).2 (ev_some.2 ?_)
    rw [List.append_nil, List.take_of_length_le (by omega)]
  | succ d ih =>
    intro i r hi hr
    have hlt : i < l.length := by omega
    match r, hr with
    | x :: r, hr =>
      have hr : r.length = d := by simpa using hr
      refine (ev_succ (fun k => by rw [laws_toIntS.l0])).2 ?_
      have e : (l.take i ++ x :: r).set ((i : Int)).toNat l[i] = l.take (i + 1) ++ r := by
        have hti : (l.take i).length = i := by rw [List.length_take]; omega
        rw [Int.toNat_natCast, List.set_append, if_neg (by omega), hti, Nat.sub_self, List.set_cons_zero, List.take_succ_eq_append_getElem hlt, List.append_assoc]
        rfl
      have h1 : (i : Int) < ((l.take i ++ x :: r).length : Int) := by
        rw [List.length_append, List.length_take, List.length_cons]
        omega
      repeat (first | refine (ev_pos (by omega)).2 ?_)
      rw [rd_nat hlt, e, w_succ (by omega)]
      exact ih (i + 1) r (by omega) hr
theorem toIntS_ev (l : List Int) (hl : l.length ≤ 35184372088832) : Ev (fun k => laws_toIntS.f k l) l := by
  unfold laws_toIntS.f
  refine (ev_pos (by omega)).2 ((ev_pos (by omega)).2 ?_)
  have := toIntS_l0 l (by omega) l.length 0 (List.replicate l.length 0) (by omega) (by simp)
  simpa using this
theorem eqIntS_l0 (l : List Int) (hl : l.length < 9223372036854775807) : ∀ d i : Nat, i + d = l.length → Ev (fun k => laws_eqIntS.l0 k l l (i : Int)) true := by
  intro d
  induction d with
  | zero =>
    intro i hi
    refine (ev_succ (fun k => by rw [laws_eqIntS.l0])).2 ?_
    exact (ev_neg (by omega)).2 (ev_some.2 rfl)
  | succ d ih =>
    intro i hi
    refine (ev_succ (fun k => by rw [laws_eqIntS.l0])).2 ?_
    refine (ev_pos (by omega)).2 ((ev_pos (by omega)).2 ((ev_pos (by omega)).2 ((ev_pos rfl).2 ?_)))
    rw [w_succ (by omega)]
    exact ih (i + 1) (by omega)
theorem eqIntS_ev (l : List Int) (hl : l.length < 9223372036854775807) : Ev (fun k => laws_eqIntS.f k l l) true := by
  unfold laws_eqIntS.f
  exact (ev_pos rfl).2 (eqIntS_l0 l hl l.length 0 (by omega))
theorem szIntS_ev (l : List Int) (n : Int) (h0 : 0 ≤ n) (h1 : n ≤ 1048576) (hl : l.length ≤ 9223372036854775807) : Ev (fun _ => laws_szIntS.f l n) (if n - l.length < 0 then -1 else n - l.length) := by
  unfold laws_szIntS.f
  rw [w64 (by omega) (by omega)]
  by_cases h : n - (l.length : Int) < 0
  · refine (ev_pos h).2 (ev_some.2 ?_)
    rw [if_pos h]
  · refine (ev_neg h).2 (ev_some.2 ?_)
    rw [if_neg h]
/-- what is left behind a rule; less than 0 if it is too much. -/
def szT (a b : List Int) (n : Int) : Int := if n - a.length - b.length < 0 then -1 else n - a.length - b.length
theorem szTrade_ev (a b : List Int) (n : Int) (h0 : 0 ≤ n) (h1 : n ≤ 1048576) (ha : a.length ≤ 9223372036854775807) (hb : b.length ≤ 9223372036854775807) : Ev (fun _ => laws_szTrade.f a b n) (szT a b n) := by
  unfold laws_szTrade.f szT
  refine (ev_bind (szIntS_ev a n h0 h1 ha)).2 ?_
  by_cases h : n - (a.length : Int) < 0
  · rw [if_pos h]
    refine (ev_pos (by omega)).2 (ev_some.2 ?_)
    rw [if_pos (by omega)]
  · rw [if_neg h]
    refine (ev_neg h).2 ((ev_bind (szIntS_ev b _ (by omega) (by omega) hb)).2 ?_)
    by_cases h2 : n - (a.length : Int) - b.length < 0
    · rw [if_pos h2]
      exact (ev_pos (by omega)).2 (ev_some.2 rfl)
    · rw [if_neg h2]
      exact (ev_neg h2).2 (ev_some.2 rfl)
theorem toTrade_ev (a b : List Int) (ha : a.length ≤ 35184372088832) (hb : b.length ≤ 35184372088832) : Ev (fun k => laws_toTrade.f k a b) (a, b) := by
  unfold laws_toTrade.f
  exact (ev_bind (toIntS_ev a ha)).2 ((ev_bind (toIntS_ev b hb)).2 (ev_some.2 rfl))
theorem eqTrade_ev (a b : List Int) (ha : a.length < 9223372036854775807) (hb : b.length < 9223372036854775807) : Ev (fun k => laws_eqTrade.f k a b a b) true := by
  unfold laws_eqTrade.f
  exact (ev_bind (eqIntS_ev a ha)).2 ((ev_pos rfl).2 ((ev_bind (eqIntS_ev b hb)).2 ((ev_pos rfl).2 (ev_some.2 rfl))))
/-! Heaps and things. -/
def okT (m : Int) (n : Int) : Bool := decide (0 ≤ n) && decide (n ≤ m)
def HOK (l : List Int) (m : Int) : Bool := l.all (okT m) && ((l.length : Int) == 3)
theorem HOK_list {l : List Int} {m : Int} (h : HOK l m = true) : ∃ a b c : Int, l = [a, b, c] ∧ 0 ≤ a ∧ a ≤ m ∧ 0 ≤ b ∧ b ≤ m ∧ 0 ≤ c ∧ c ≤ m := by
  unfold HOK at h
  rw [Bool.and_eq_true] at h
  have hl : l.length = 3 := by have := h.2; simp only [beq_iff_eq] at this; omega
  match l, hl with
  | [a, b, c], _ =>
    have := h.1
    simp [okT] at this
    exact ⟨a, b, c, rfl, by omega, by omega, by omega, by omega, by omega, by omega⟩
theorem HOK_mk {a b c m : Int} (h : 0 ≤ a ∧ a ≤ m ∧ 0 ≤ b ∧ b ≤ m ∧ 0 ≤ c ∧ c ≤ m) : HOK [a, b, c] m = true := by
  simp [HOK, okT]
  omega
theorem HOK_three (a b c m : Int) : HOK [a, b, c] m = decide (0 ≤ a ∧ a ≤ m ∧ 0 ≤ b ∧ b ≤ m ∧ 0 ≤ c ∧ c ≤ m) := by
  rw [Bool.eq_iff_iff, decide_eq_true_iff]
  simp [HOK, okT]
  omega
theorem thingsOk_l0 (l : List Int) (m : Int) (hl : l.length < 9223372036854775807) : ∀ d i : Nat, i + d = l.length →
    Ev (fun k => impl_thingsOk.l0 k l m l (l.length : Int) (i : Int)) ((l.drop i).all (okT m) && ((l.length : Int) == 3)) := by
  intro d
  induction d with
  | zero =>
    intro i hi
    refine (ev_succ (fun k => by rw [impl_thingsOk.l0])).2 ?_
    refine (ev_neg (by omega)).2 (ev_some.2 ?_)
    rw [List.drop_eq_nil_of_le (by omega)]
    simp
  | succ d ih =>
    intro i hi
    have hlt : i < l.length := by omega
    refine (ev_succ (fun k => by rw [impl_thingsOk.l0])).2 ?_
    refine (ev_pos (by omega)).2 ((ev_pos (by omega)).2 ((ev_pos (by omega)).2 ?_))
    rw [rd_nat hlt, drop_cons hlt, List.all_cons]
    by_cases h0 : l[i] < 0
    · refine (ev_pos h0).2 (ev_some.2 ?_)
      have : okT m l[i] = false := by simp [okT]; omega
      rw [this]; simp
    · by_cases h1 : l[i] > m
      · refine (ev_neg h0).2 ((ev_pos h1).2 (ev_some.2 ?_))
        have : okT m l[i] = false := by simp [okT]; omega
        rw [this]; simp
      · refine (ev_neg h0).2 ((ev_neg h1).2 ?_)
        have : okT m l[i] = true := by simp [okT]; omega
        rw [this, w_succ (by omega), Bool.true_and]
        exact ih (i + 1) (by omega)
theorem thingsOk_ev (l : List Int) (m : Int) (hl : l.length < 9223372036854775807) : Ev (fun k => impl_thingsOk.f k l m) (HOK l m) := by
  have := thingsOk_l0 l m hl l.length 0 (by omega)
  exact this
def TOK (t g : List Int) : Bool := HOK t 5 && HOK g 5
theorem TradeValid_ev (t g : List Int) (ht : t.length < 9223372036854775807) (hg : g.length < 9223372036854775807) : Ev (fun k => impl_TradeValid.f k t g) (TOK t g) := by
  unfold impl_TradeValid.f TOK
  refine (ev_bind (thingsOk_ev t 5 ht)).2 ?_
  cases h : HOK t 5 with
  | true => exact (ev_pos rfl).2 ((ev_bind (thingsOk_ev g 5 hg)).2 (ev_some.2 (by simp)))
  | false => exact (ev_neg (by simp)).2 (ev_some.2 (by simp))
theorem l1In_ev (n a b : Int) : Ev (fun _ => spec_l1In.f n a b) (decide (a ≤ n) && decide (n ≤ b)) := by
  unfold spec_l1In.f
  by_cases h : n ≥ a
  · refine (ev_pos h).2 (ev_some.2 ?_)
    rw [decide_eq_true (show a ≤ n from h), Bool.true_and]
  · refine (ev_neg h).2 (ev_some.2 ?_)
    rw [decide_eq_false (show ¬ a ≤ n from h), Bool.false_and]
theorem l8List_l0 (l : List Int) (m : Int) (hl : l.length < 9223372036854775807) : ∀ d i : Nat, i + d = l.length →
    Ev (fun k => spec_l8List.l0 k l m (i : Int)) ((l.drop i).all (okT m) && ((l.length : Int) == 3)) := by
  intro d
  induction d with
  | zero =>
    intro i hi
    refine (ev_succ (fun k => by rw [spec_l8List.l0])).2 ?_
    refine (ev_neg (by omega)).2 (ev_some.2 ?_)
    rw [List.drop_eq_nil_of_le (by omega)]
    simp
  | succ d ih =>
    intro i hi
    have hlt : i < l.length := by omega
    refine (ev_succ (fun k => by rw [spec_l8List.l0])).2 ?_
    refine (ev_pos (by omega)).2 ((ev_pos (by omega)).2 ?_)
    rw [rd_nat hlt, drop_cons hlt, List.all_cons]
    refine (ev_bind (l1In_ev l[i] 0 m)).2 ?_
    cases h : okT m l[i] with
    | true =>
      refine (ev_pos h).2 ?_
      rw [w_succ (by omega), Bool.true_and]
      exact ih (i + 1) (by omega)
    | false =>
      exact (ev_neg (by show ¬ okT m l[i] = true; rw [h]; simp)).2 (ev_some.2 (by simp))
theorem l8List_ev (l : List Int) (m : Int) (hl : l.length < 9223372036854775807) : Ev (fun k => spec_l8List.f k l m) (HOK l m) := by
  have := l8List_l0 l m hl l.length 0 (by omega)
  exact this
theorem sTradeValid_ev (t g : List Int) (ht : t.length < 9223372036854775807) (hg : g.length < 9223372036854775807) : Ev (fun k => spec_TradeValid.f k t g) (TOK t g) := by
  unfold spec_TradeValid.f TOK
  refine (ev_bind (l8List_ev t 5 ht)).2 ?_
  cases h : HOK t 5 with
  | true => exact (ev_pos rfl).2 ((ev_bind (l8List_ev g 5 hg)).2 (ev_some.2 (by simp)))
  | false => exact (ev_neg (by simp)).2 (ev_some.2 (by simp))
theorem FnExactTradeValid (a b : List Int) (ha : a.length ≤ maxLen) (wa : ∀ x ∈ a, (Lit.int .i64 x).wf = true) (hb : b.length ≤ maxLen) (wb : ∀ x ∈ b, (Lit.int .i64 x).wf = true) : ∃ k, laws_FnExactTradeValid.f k a b = some true := by
  simp only [maxLen] at ha hb
  refine ev_true ?_
  unfold laws_FnExactTradeValid.f
  refine (ev_bind (szTrade_ev a b 1048576 (by omega) (by omega) (by omega) (by omega))).2 ?_
  unfold szT
  by_cases h : (1048576 : Int) - a.length - b.length < 0
  · rw [if_pos h]; exact (ev_pos (by omega)).2 (ev_some.2 rfl)
  · rw [if_neg h]
    refine (ev_neg h).2 ?_
    refine (ev_bind (toTrade_ev a b (by omega) (by omega))).2 ((ev_bind (sTradeValid_ev a b (by omega) (by omega))).2 ?_)
    refine (ev_bind (toTrade_ev a b (by omega) (by omega))).2 ((ev_bind (TradeValid_ev a b (by omega) (by omega))).2 ?_)
    refine (ev_neg (by simp)).2 ((ev_bind (toTrade_ev a b (by omega) (by omega))).2 ((ev_bind (eqTrade_ev a b (by omega) (by omega))).2 ?_))
    exact (ev_pos rfl).2 (ev_some.2 rfl)

end Go.Proofs.Ytajecpmdagbojaa.Pure
