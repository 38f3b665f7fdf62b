/-
  The pure statement of FnExactTradesRun.
-/
import Derived.Test.YtajecpmdagbojaaQA
import Derived.ProofKit
import Derived.IntWalk
namespace Go.Proofs.Ytajecpmdagbojaa.EPure
open Go Go.RowKit Go.Proofs.Ytajecpmdagbojaa.Eng
set_option linter.unusedVariables false
set_option linter.unusedSimpArgs false

/-! Rounds without counting them. -/
def Ev {α : Type} (g : Nat → Option α) (r : α) : Prop := ∃ K, ∀ k, K ≤ k → g k = some r
theorem ev_some {α : Type} {a r : α} : Ev (fun _ => some a) r ↔ a = r := by
  constructor
  · rintro ⟨K, h⟩
    exact Option.some.inj (h K (Nat.le_refl _))
  · rintro rfl
    exact ⟨0, fun _ _ => rfl⟩
theorem ev_bind {α β : Type} {g : Nat → Option α} {f : Nat → α → Option β} {a : α} (h : Ev g a) {r : β} (h2 : Ev (fun k => f k a) r) : Ev (fun k => (g k).bind (f k)) r := by
  obtain ⟨K, h⟩ := h
  obtain ⟨L, h2⟩ := h2
  exact ⟨max K L, fun k hk => by simp only [h k (by omega), Option.bind_some]; exact h2 k (by omega)⟩
theorem ev_succ {α : Type} {g f : Nat → Option α} {r : α} (h : ∀ k, g (k + 1) = f k) (e : Ev f r) : Ev g r := by
  obtain ⟨K, e⟩ := e
  refine ⟨K + 1, fun k hk => ?_⟩
  obtain ⟨j, rfl⟩ : ∃ j, k = j + 1 := ⟨k - 1, by omega⟩
  rw [h]
  exact e j (by omega)
theorem ev_true {g : Nat → Option Bool} (h : Ev g true) : ∃ k, g k = some true := by
  obtain ⟨K, h⟩ := h
  exact ⟨K, h K (Nat.le_refl _)⟩
theorem ev_gate {α : Type} {c : Bool} {g : Nat → Option α} {r : α} (hc : c = true) (e : Ev g r) : Ev (fun k => gate c (g k)) r := by
  subst hc
  exact e
theorem ev_gd {α : Type} {p : Prop} [Decidable p] {g : Nat → Option α} {r : α} (hp : p) (e : Ev g r) : Ev (fun k => gate (decide p) (g k)) r := ev_gate (decide_eq_true hp) e
theorem ev_bt {α : Type} {c : Bool} {g h : Nat → Option α} {r : α} (hc : c = true) (e : Ev g r) : Ev (fun k => br c (g k) (h k)) r := by
  subst hc
  exact e
theorem ev_bf {α : Type} {c : Bool} {g h : Nat → Option α} {r : α} (hc : c = false) (e : Ev h r) : Ev (fun k => br c (g k) (h k)) r := by
  subst hc
  exact e
theorem ev_dt {α : Type} {p : Prop} [Decidable p] {g h : Nat → Option α} {r : α} (hp : p) (e : Ev g r) : Ev (fun k => br (decide p) (g k) (h k)) r := ev_bt (decide_eq_true hp) e
theorem ev_df {α : Type} {p : Prop} [Decidable p] {g h : Nat → Option α} {r : α} (hp : ¬ p) (e : Ev h r) : Ev (fun k => br (decide p) (g k) (h k)) r := ev_bf (decide_eq_false hp) e
theorem ev_nt {α : Type} {c : Bool} {g h : Nat → Option α} {r : α} (hc : c = false) (e : Ev g r) : Ev (fun k => br (!c) (g k) (h k)) r := by
  subst hc
  exact e
theorem ev_nf {α : Type} {c : Bool} {g h : Nat → Option α} {r : α} (hc : c = true) (e : Ev h r) : Ev (fun k => br (!c) (g k) (h k)) r := by
  subst hc
  exact e
/-! What comes of some rounds, with a property. -/
def EvP {α : Type} (g : Nat → Option α) (Q : α → Prop) : Prop := ∃ r, Ev g r ∧ Q r
theorem Ev.p {α : Type} {g : Nat → Option α} {Q : α → Prop} {r : α} (h : Ev g r) (q : Q r) : EvP g Q := ⟨r, h, q⟩
theorem evp_some {α : Type} {Q : α → Prop} {r : α} (q : Q r) : EvP (fun _ => some r) Q := ⟨r, ev_some.2 rfl, q⟩
theorem evp_bind {α β : Type} {g : Nat → Option α} {f : Nat → α → Option β} {P : α → Prop} {Q : β → Prop} (h : EvP g P) (e : ∀ a, P a → EvP (fun k => f k a) Q) : EvP (fun k => (g k).bind (f k)) Q := by
  obtain ⟨a, h1, p⟩ := h
  obtain ⟨r, h2, q⟩ := e a p
  exact ⟨r, ev_bind h1 h2, q⟩
theorem evp_bindv {α β : Type} {g : Nat → Option α} {f : Nat → α → Option β} {a : α} {Q : β → Prop} (h : Ev g a) (e : EvP (fun k => f k a) Q) : EvP (fun k => (g k).bind (f k)) Q := by
  obtain ⟨r, h2, q⟩ := e
  exact ⟨r, ev_bind h h2, q⟩
theorem evp_succ {α : Type} {g f : Nat → Option α} {Q : α → Prop} (h : ∀ k, g (k + 1) = f k) (e : EvP f Q) : EvP g Q := by
  obtain ⟨r, h2, q⟩ := e
  exact ⟨r, ev_succ h h2, q⟩
theorem evp_mono {α : Type} {g : Nat → Option α} {P Q : α → Prop} (h : EvP g P) (hq : ∀ a, P a → Q a) : EvP g Q := by
  obtain ⟨r, h2, p⟩ := h
  exact ⟨r, h2, hq r p⟩
theorem evp_gd {α : Type} {p : Prop} [Decidable p] {g : Nat → Option α} {Q : α → Prop} (hp : p) (e : EvP g Q) : EvP (fun k => gate (decide p) (g k)) Q := by
  obtain ⟨r, h, q⟩ := e
  exact ⟨r, ev_gd hp h, q⟩
theorem evp_gn {α : Type} {p : Prop} [Decidable p] {g : Nat → Option α} {Q : α → Prop} (hp : ¬ p) (e : EvP g Q) : EvP (fun k => gate (!decide p) (g k)) Q := by
  obtain ⟨r, h, q⟩ := e
  exact ⟨r, ev_gate (by simp [hp]) h, q⟩
theorem evp_b {α : Type} {c : Bool} {g h : Nat → Option α} {Q : α → Prop} (e1 : c = true → EvP g Q) (e2 : c = false → EvP h Q) : EvP (fun k => br c (g k) (h k)) Q := by
  cases c with
  | true => exact e1 rfl
  | false => exact e2 rfl
theorem evp_d {α : Type} {p : Prop} [Decidable p] {g h : Nat → Option α} {Q : α → Prop} (e1 : p → EvP g Q) (e2 : ¬ p → EvP h Q) : EvP (fun k => br (decide p) (g k) (h k)) Q :=
  evp_b (fun h => e1 (of_decide_eq_true h)) (fun h => e2 (of_decide_eq_false h))
theorem evp_true {g : Nat → Option Bool} (h : EvP g (fun b => b = true)) : ∃ k, g k = some true := by
  obtain ⟨r, h, rfl⟩ := h
  exact ev_true h
theorem wr_eq (x : Int) : wr x = wrap64 x := by unfold wrap64; exact IntKind.wrap_i64 x
theorem w64 {x : Int} (h0 : -9223372036854775808 ≤ x) (h1 : x ≤ 9223372036854775807) : wr x = x := by
  rw [wr_eq]
  unfold wrap64
  omega
theorem w_succ {i : Nat} (h : i < 9223372036854775807) : wr ((i : Int) + 1) = ((i + 1 : Nat) : Int) := by rw [w64] <;> omega
theorem get_nat {l : List Int} {i : Nat} (h : i < l.length) : l.getD (i : Int).toNat 0 = l[i] := by
  rw [Int.toNat_natCast, List.getD_eq_getElem?_getD, List.getElem?_eq_getElem h]
  rfl
theorem limE : lim = 1099511627776 := rfl
theorem ev_const {α : Type} {x : Option α} {r : α} (h : x = some r) : Ev (fun _ => x) r := ⟨0, fun _ _ => h⟩
theorem get_at {α : Type} {l : List α} {i : Nat} {d : α} (h : i < l.length) : l.getD (i : Int).toNat d = l[i] := by
  rw [Int.toNat_natCast, List.getD_eq_getElem?_getD, List.getElem?_eq_getElem h]
  rfl
theorem ev_eq {α : Type} {g : Nat → Option α} {a b : α} (h : Ev g a) (e : a = b) : Ev g b := e ▸ h
theorem l1In_ev (a b c : Int) : Ev (fun k => spec_l1In.f k a b c) (decide (a ≥ b) && decide (a ≤ c)) := by
  refine ev_succ (fun k => spec_l1In.f_eq k a b c) ?_
  by_cases h : a ≥ b
  · exact ev_dt h (ev_some.2 (by simp [h]))
  · exact ev_df h (ev_some.2 (by simp [h]))
/-! Heaps that are valid. -/
def vh (m : Int) (l : List Int) : Bool := decide (l.length = 3) && l.all fun n => decide (0 ≤ n) && decide (n ≤ m)
theorem thingsOk_ev (l : List Int) (m : Int) (hl : l.length < 9000000000000000000) : Ev (fun k => impl_thingsOk.f k l m) (vh m l) := by
  have loop : ∀ d i : Nat, i + d = l.length → Ev (fun k => impl_thingsOk.l0 k l m l (l.length : Int) (i : Int)) (decide (l.length = 3) && (l.drop i).all fun n => decide (0 ≤ n) && decide (n ≤ m)) := by
    intro d
    induction d with
    | zero =>
      intro i hi
      refine ev_succ (fun k => impl_thingsOk.l0_eq k _ _ _ _ _) (ev_df (by omega) (ev_some.2 ?_))
      rw [List.drop_eq_nil_of_le (by omega), List.all_nil, Bool.and_true]
      by_cases h : l.length = 3
      · rw [decide_eq_true h]; exact decide_eq_true (by omega)
      · rw [decide_eq_false h]; exact decide_eq_false (by omega)
    | succ d ih =>
      intro i hi
      have hlt : i < l.length := by omega
      refine ev_succ (fun k => impl_thingsOk.l0_eq k _ _ _ _ _) (ev_dt (by omega) (ev_gd (by omega) ?_))
      rw [get_at hlt, w_succ (by omega), List.drop_eq_getElem_cons hlt, List.all_cons]
      by_cases h1 : l[i] < 0
      · rw [decide_eq_false (show ¬ 0 ≤ l[i] by omega)]
        exact ev_dt h1 (ev_some.2 (by simp))
      refine ev_df h1 ?_
      by_cases h2 : l[i] > m
      · rw [decide_eq_false (show ¬ l[i] ≤ m by omega)]
        exact ev_dt h2 (ev_some.2 (by simp))
      refine ev_df h2 ?_
      rw [decide_eq_true (show 0 ≤ l[i] by omega), decide_eq_true (show l[i] ≤ m by omega)]
      exact ih (i + 1) (by omega)
  exact ev_succ (fun k => impl_thingsOk.f_eq k _ _) (loop l.length 0 (by omega))
theorem l8List_ev (l : List Int) (m : Int) (hl : l.length < 9000000000000000000) : Ev (fun k => spec_l8List.f k l m) (vh m l) := by
  have loop : ∀ d i : Nat, i + d = l.length → Ev (fun k => spec_l8List.l0 k l m (i : Int)) (decide (l.length = 3) && (l.drop i).all fun n => decide (0 ≤ n) && decide (n ≤ m)) := by
    intro d
    induction d with
    | zero =>
      intro i hi
      refine ev_succ (fun k => spec_l8List.l0_eq k _ _ _) (ev_df (by omega) (ev_some.2 ?_))
      rw [List.drop_eq_nil_of_le (by omega), List.all_nil, Bool.and_true]
      by_cases h : l.length = 3
      · rw [decide_eq_true h]; exact decide_eq_true (by omega)
      · rw [decide_eq_false h]; exact decide_eq_false (by omega)
    | succ d ih =>
      intro i hi
      have hlt : i < l.length := by omega
      refine ev_succ (fun k => spec_l8List.l0_eq k _ _ _) (ev_dt (by omega) (ev_gd (by omega) ?_))
      rw [get_at hlt, w_succ (by omega), List.drop_eq_getElem_cons hlt, List.all_cons]
      refine ev_bind (l1In_ev _ _ _) ?_
      cases h : (decide (l[i] ≥ 0) && decide (l[i] ≤ m)) with
      | true =>
        have h' : (decide (0 ≤ l[i]) && decide (l[i] ≤ m)) = true := h
        rw [Bool.true_and]
        exact ev_nf rfl (ih (i + 1) (by omega))
      | false =>
        have h' : (decide (0 ≤ l[i]) && decide (l[i] ≤ m)) = false := h
        rw [Bool.false_and, Bool.and_false]
        exact ev_nt rfl (ev_some.2 rfl)
  exact ev_succ (fun k => spec_l8List.f_eq k _ _) (loop l.length 0 (by omega))
theorem vh_len {m : Int} {l : List Int} (h : vh m l = true) : l.length = 3 ∧ ∀ n ∈ l, 0 ≤ n ∧ n ≤ m := by
  unfold vh at h
  simp only [Bool.and_eq_true, decide_eq_true_eq, List.all_eq_true] at h
  exact h
/-! Copies of rows of numbers, and rows held against each other. -/
theorem toIntS_l0 (l : List Int) (hl : l.length ≤ 1000000000) : ∀ d i : Nat, i + d = l.length → Ev (fun k => laws_toIntS.l0 k l (l.take i ++ List.replicate d 0) (i : Int)) l := by
  intro d
  induction d with
  | zero =>
    intro i hi
    refine ev_succ (fun k => laws_toIntS.l0_eq k _ _ _) (ev_df (by omega) (ev_some.2 ?_))
    rw [List.take_of_length_le (by omega)]; simp
  | succ d ih =>
    intro i hi
    have hlt : i < l.length := by omega
    have hlen : (l.take i ++ List.replicate (d + 1) (0 : Int)).length = l.length := by simp; omega
    refine ev_succ (fun k => laws_toIntS.l0_eq k _ _ _) (ev_dt (by omega) (ev_gd (by omega) (ev_gd (by rw [hlen]; omega) (ev_gd (by rw [hlen]; omega) ?_))))
    rw [get_nat hlt, w_succ (by omega), Int.toNat_natCast]
    have e : (l.take i ++ List.replicate (d + 1) (0 : Int)).set i l[i] = l.take (i + 1) ++ List.replicate d 0 := by
      rw [List.set_append_right _ _ (by simp; omega), List.length_take, Nat.min_eq_left (by omega), Nat.sub_self, List.replicate_succ, List.set_cons_zero, ← List.take_append_getElem hlt, List.append_assoc]
      rfl
    rw [e]
    exact ih (i + 1) (by omega)
theorem toIntS_ev (l : List Int) (hl : l.length ≤ 1000000000) : Ev (fun k => laws_toIntS.f k l) l := by
  refine ev_succ (fun k => laws_toIntS.f_eq k l) (ev_gd ⟨by omega, by rw [Int.toNat_natCast, limE]; omega, rfl⟩ ?_)
  have := toIntS_l0 l hl l.length 0 (by omega)
  rw [Int.toNat_natCast]
  simpa using this
theorem eqIntS_l0 (l : List Int) (hl : l.length < 9223372036854775807) : ∀ d i : Nat, i + d = l.length → Ev (fun k => laws_eqIntS.l0 k l l (i : Int)) true := by
  intro d
  induction d with
  | zero =>
    intro i hi
    exact ev_succ (fun k => laws_eqIntS.l0_eq k _ _ _) (ev_df (by omega) (ev_some.2 rfl))
  | succ d ih =>
    intro i hi
    refine ev_succ (fun k => laws_eqIntS.l0_eq k _ _ _) (ev_dt (by omega) (ev_gd (by omega) (ev_gd (by omega) (ev_nf (by simp) ?_))))
    rw [w_succ (by omega)]
    exact ih (i + 1) (by omega)
theorem eqIntS_self (l : List Int) (hl : l.length < 9223372036854775807) : Ev (fun k => laws_eqIntS.f k l l) true :=
  ev_succ (fun k => laws_eqIntS.f_eq k _ _) (ev_nf (by simp) (eqIntS_l0 l hl l.length 0 (by omega)))
/-! The size of a row of numbers. -/
theorem szIntS_ev (l : List Int) (n : Int) (h0 : 0 ≤ n) (h1 : n ≤ 1048576) (hl : l.length ≤ maxLen) : Ev (fun k => laws_szIntS.f k l n) (if (l.length : Int) ≤ n then n - l.length else -1) := by
  have hm : maxLen ≤ 9223372036854775807 := by decide
  refine ev_succ (fun k => laws_szIntS.f_eq k _ _) ?_
  rw [w64 (by omega) (by omega)]
  by_cases h : (l.length : Int) ≤ n
  · rw [if_pos h]; exact ev_df (by omega) (ev_some.2 rfl)
  · rw [if_neg h]; exact ev_dt (by omega) (ev_some.2 rfl)
/-! Rows of anything, filled. -/
theorem at_nat {α : Type} {l : List α} {i : Nat} {d : α} (h : i < l.length) : l.getD (i : Int).toNat d = l[i] := by
  rw [Int.toNat_natCast, List.getD_eq_getElem?_getD, List.getElem?_eq_getElem h]
  rfl
theorem fill_len {α : Type} {l : List α} {z : α} {i d : Nat} (h : i + d = l.length) : (l.take i ++ List.replicate d z).length = l.length := by simp; omega
theorem fill_step {α : Type} {l : List α} {z : α} {i d : Nat} (h : i + (d + 1) = l.length) (hlt : i < l.length) : (l.take i ++ List.replicate (d + 1) z).set (i : Int).toNat l[i] = l.take (i + 1) ++ List.replicate d z := by
  rw [Int.toNat_natCast, List.set_append_right _ _ (by simp; omega), List.length_take, Nat.min_eq_left (by omega), Nat.sub_self, List.replicate_succ, List.set_cons_zero, ← List.take_append_getElem hlt, List.append_assoc]
  rfl
def RowOk (l : List Int) : Prop := l.length ≤ 1048576
theorem szII_ev (l : List Int) (n : Int) (h0 : 0 ≤ n) (h1 : n ≤ 1048576) (hl : l.length ≤ maxLen) : EvP (fun k => laws_szIntS.f k l n) (fun r => r ≤ 1048576 ∧ (0 ≤ r → RowOk l)) := by
  refine (szIntS_ev l n h0 h1 hl).p ?_
  unfold RowOk
  split <;> exact ⟨by omega, fun _ => by omega⟩
def TrOk (t : Trade) : Prop := RowOk t.f0 ∧ RowOk t.f1
/-! Rules that are valid. -/
def tv (t : Trade) : Bool := vh 5 t.f0 && vh 5 t.f1
def tsV (ts : List Trade) : Bool := ts.all tv && decide (ts.length ≤ 4)
theorem vh_mono {l : List Int} (h : vh 5 l = true) : vh 40 l = true := by
  unfold vh at h ⊢
  rw [Bool.and_eq_true, List.all_eq_true] at h ⊢
  refine ⟨h.1, fun n hn => ?_⟩
  have := h.2 n hn
  simp only [Bool.and_eq_true, decide_eq_true_eq] at this ⊢
  omega
theorem implTV_ev (t : Trade) (h : TrOk t) : Ev (fun k => impl_TradeValid.f k t) (tv t) := by
  have h0 := h.1
  have h1 := h.2
  unfold RowOk at h0 h1
  refine ev_succ (fun k => impl_TradeValid.f_eq k _) (ev_bind (thingsOk_ev _ 5 (by omega)) ?_)
  unfold tv
  cases vh 5 t.f0 with
  | false => exact ev_bf rfl (ev_some.2 rfl)
  | true => exact ev_bt rfl (ev_bind (thingsOk_ev _ 5 (by omega)) (ev_some.2 rfl))
theorem specTV_ev (t : Trade) (h : TrOk t) : Ev (fun k => spec_TradeValid.f k t) (tv t) := by
  have h0 := h.1
  have h1 := h.2
  unfold RowOk at h0 h1
  refine ev_succ (fun k => spec_TradeValid.f_eq k _) (ev_bind (l8List_ev _ 5 (by omega)) ?_)
  unfold tv
  cases vh 5 t.f0 with
  | false => exact ev_bf rfl (ev_some.2 rfl)
  | true => exact ev_bt rfl (ev_bind (l8List_ev _ 5 (by omega)) (ev_some.2 rfl))
theorem all_at {α : Type} {p : α → Bool} {l : List α} {i : Nat} (h : i < l.length) : (l.drop i).all p = (p l[i] && (l.drop (i + 1)).all p) := by
  rw [List.drop_eq_getElem_cons h, List.all_cons]
theorem implTsV_ev (a : List Trade) (hl : a.length ≤ 1048576) (hr : ∀ r ∈ a, TrOk r) : Ev (fun k => impl_TradesValid.f k a) (tsV a) := by
  have loop : ∀ d i : Nat, i + d = a.length → Ev (fun k => impl_TradesValid.l0 k a a (a.length : Int) (i : Int)) ((a.drop i).all tv && decide (a.length ≤ 4)) := by
    intro d
    induction d with
    | zero =>
      intro i hi
      refine ev_succ (fun k => impl_TradesValid.l0_eq k _ _ _ _) (ev_df (by omega) (ev_some.2 ?_))
      rw [List.drop_eq_nil_of_le (by omega)]
      show _ = (true && _)
      rw [Bool.true_and]
      exact decide_eq_decide.2 (by omega)
    | succ d ih =>
      intro i hi
      have hlt : i < a.length := by omega
      refine ev_succ (fun k => impl_TradesValid.l0_eq k _ _ _ _) (ev_dt (by omega) (ev_gd (by omega) ?_))
      rw [at_nat hlt, w_succ (by omega), all_at hlt]
      refine ev_bind (implTV_ev _ (hr _ (List.getElem_mem hlt))) ?_
      cases tv a[i] with
      | false => exact ev_nt rfl (ev_some.2 rfl)
      | true => rw [Bool.true_and]; exact ev_nf rfl (ih (i + 1) (by omega))
  exact ev_succ (fun k => impl_TradesValid.f_eq k _) (loop a.length 0 (by omega))
theorem specTsV_ev (a : List Trade) (hl : a.length ≤ 1048576) (hr : ∀ r ∈ a, TrOk r) : Ev (fun k => spec_TradesValid.f k a) (tsV a) := by
  have loop : ∀ d i : Nat, i + d = a.length → Ev (fun k => spec_TradesValid.l0 k a (i : Int)) ((a.drop i).all tv && decide (a.length ≤ 4)) := by
    intro d
    induction d with
    | zero =>
      intro i hi
      refine ev_succ (fun k => spec_TradesValid.l0_eq k _ _) (ev_df (by omega) (ev_some.2 ?_))
      rw [List.drop_eq_nil_of_le (by omega)]
      show _ = (true && _)
      rw [Bool.true_and]
      exact decide_eq_decide.2 (by omega)
    | succ d ih =>
      intro i hi
      have hlt : i < a.length := by omega
      refine ev_succ (fun k => spec_TradesValid.l0_eq k _ _) (ev_dt (by omega) (ev_gd (by omega) ?_))
      rw [at_nat hlt, w_succ (by omega), all_at hlt]
      refine ev_bind (specTV_ev _ (hr _ (List.getElem_mem hlt))) ?_
      cases tv a[i] with
      | false => exact ev_nt rfl (ev_some.2 rfl)
      | true => rw [Bool.true_and]; exact ev_nf rfl (ih (i + 1) (by omega))
  exact ev_succ (fun k => spec_TradesValid.f_eq k _) (loop a.length 0 (by omega))
/-! Exchanges: one, all that can be done, and rows of them. -/
def mvL : List Int → List Int → List Int → Option (List Int)
  | [], _, _ => some []
  | h :: hs, t :: ts, g :: gs => if h < t then none else if h - t + g > 40 then none else (mvL hs ts gs).map ((h - t + g) :: ·)
  | _, _, _ => none
def mvS : List Int → List Int → List Int → Option (List Int)
  | [], _, _ => some []
  | h :: hs, t :: ts, g :: gs => if h < t then none else (mvS hs ts gs).map ((h - t + g) :: ·)
  | _, _, _ => none
def mvR (o : Option (List Int)) : List Int × Bool := match o with
  | some l => (l, true)
  | none => ([], false)
def mvV (h : List Int) (t : Trade) : List Int × Bool := mvR (mvL h t.f0 t.f1)
theorem mvL_S : ∀ (h t g : List Int), mvL h t g = (mvS h t g).bind fun l => if (l.all fun n => decide (n ≤ 40)) = true then some l else none
  | [], _, _ => by simp [mvL, mvS]
  | h :: hs, t :: ts, g :: gs => by
    rw [mvL, mvS]
    split
    · rfl
    · rw [mvL_S hs ts gs]
      cases hq : mvS hs ts gs with
      | none => simp
      | some l =>
        by_cases h4 : h - t + g > 40
        · rw [if_pos h4]
          have : ¬ h - t + g ≤ 40 := by omega
          simp [this]
        · rw [if_neg h4]
          have : h - t + g ≤ 40 := by omega
          by_cases ha : (l.all fun n => decide (n ≤ 40)) = true
          · simp only [Option.map_some, Option.bind_some, if_pos ha, List.all_cons, decide_eq_true this, Bool.true_and]
          · simp only [Option.map_some, Option.bind_some, if_neg ha, List.all_cons, decide_eq_true this, Bool.true_and, Option.map_none]
  | _ :: _, [], _ => by simp [mvL, mvS]
  | _ :: _, _ :: _, [] => by simp [mvL, mvS]
theorem mvS_ok : ∀ {h t g l : List Int}, mvS h t g = some l → (∀ n ∈ g, 0 ≤ n) → l.length = h.length ∧ ∀ n ∈ l, 0 ≤ n
  | [], _, _, l, e, _ => by simp [mvS] at e; subst e; simp
  | h :: hs, t :: ts, g :: gs, l, e, hg => by
    rw [mvS] at e
    split at e
    · cases e
    · rw [Option.map_eq_some_iff] at e
      obtain ⟨r, h1, rfl⟩ := e
      obtain ⟨i1, i2⟩ := mvS_ok h1 (fun n hn => hg n (List.mem_cons_of_mem _ hn))
      have := hg g (List.mem_cons_self ..)
      refine ⟨by simp [i1], fun n hn => ?_⟩
      rcases List.mem_cons.1 hn with rfl | hn
      · omega
      · exact i2 n hn
  | _ :: _, [], _, _, e, _ => by simp [mvS] at e
  | _ :: _, _ :: _, [], _, e, _ => by simp [mvS] at e
theorem tv_of {t : Trade} (h : tv t = true) : (t.f0.length = 3 ∧ ∀ n ∈ t.f0, 0 ≤ n ∧ n ≤ 40) ∧ (t.f1.length = 3 ∧ ∀ n ∈ t.f1, 0 ≤ n ∧ n ≤ 40) := by
  unfold tv at h
  rw [Bool.and_eq_true] at h
  exact ⟨vh_len (vh_mono h.1), vh_len (vh_mono h.2)⟩
theorem vh_mk {l : List Int} (h : l.length = 3) (h2 : ∀ n ∈ l, 0 ≤ n) : vh 40 l = (l.all fun n => decide (n ≤ 40)) := by
  unfold vh
  rw [decide_eq_true h, Bool.true_and]
  rw [Bool.eq_iff_iff, List.all_eq_true, List.all_eq_true]
  constructor
  · intro h1 n hn; have := h1 n hn; simp at this ⊢; exact this.2
  · intro h1 n hn; have := h1 n hn; have := h2 n hn; simp at *; omega
theorem mvV_ok {h : List Int} {t : Trade} (hh : vh 40 h = true) (ht : tv t = true) (hd : (mvV h t).2 = true) : vh 40 (mvV h t).1 = true := by
  obtain ⟨h3, h0⟩ := vh_len hh
  obtain ⟨⟨t3, t0⟩, g3, g0⟩ := tv_of ht
  unfold mvV at hd ⊢
  rw [mvL_S] at hd ⊢
  cases hs : mvS h t.f0 t.f1 with
  | none => rw [hs] at hd; simp [mvR] at hd
  | some l =>
    rw [hs] at hd
    obtain ⟨e1, e2⟩ := mvS_ok hs (fun n hn => (g0 n hn).1)
    simp only [Option.bind_some] at hd ⊢
    by_cases ha : (l.all fun n => decide (n ≤ 40)) = true
    · rw [if_pos ha] at hd ⊢
      show vh 40 l = true
      rw [vh_mk (by omega) e2]; exact ha
    · rw [if_neg ha] at hd; simp [mvR] at hd
theorem traded_ev {h : List Int} {t : Trade} (hh : vh 40 h = true) (ht : tv t = true) : Ev (fun k => impl_traded.f k h t) (mvV h t) := by
  obtain ⟨h3, h0⟩ := vh_len hh
  obtain ⟨⟨t3, t0⟩, g3, g0⟩ := tv_of ht
  have loop : ∀ (d i : Nat) (acc : List Int), i + d = 3 → acc.length = i → Ev (fun k => impl_traded.l0 k t acc h (h.length : Int) (i : Int)) (mvR ((mvL (h.drop i) (t.f0.drop i) (t.f1.drop i)).map (acc ++ ·))) := by
    intro d
    induction d with
    | zero =>
      intro i acc hi ha
      refine ev_succ (fun k => impl_traded.l0_eq k _ _ _ _ _) (ev_df (by omega) (ev_some.2 ?_))
      rw [List.drop_eq_nil_of_le (show h.length ≤ i by omega)]
      simp [mvL, mvR]
    | succ d ih =>
      intro i acc hi ha
      have l1 : i < h.length := by omega
      have l2 : i < t.f0.length := by omega
      have l3 : i < t.f1.length := by omega
      have b1 := h0 h[i] (List.getElem_mem l1)
      have b2 := t0 t.f0[i] (List.getElem_mem l2)
      have b3 := g0 t.f1[i] (List.getElem_mem l3)
      refine ev_succ (fun k => impl_traded.l0_eq k _ _ _ _ _) (ev_dt (by omega) (ev_gd (by omega) (ev_gd (by omega) ?_)))
      rw [get_nat l1, get_nat l2, get_nat l3, List.drop_eq_getElem_cons l1, List.drop_eq_getElem_cons l2, List.drop_eq_getElem_cons l3, mvL]
      rw [w64 (x := h[i] - t.f0[i]) (by omega) (by omega), w64 (x := h[i] - t.f0[i] + t.f1[i]) (by omega) (by omega)]
      by_cases c1 : h[i] < t.f0[i]
      · rw [if_pos c1]; exact ev_dt c1 (ev_some.2 rfl)
      · rw [if_neg c1]
        refine ev_df c1 (ev_gd (by omega) (ev_gd (by omega) ?_))
        by_cases c2 : h[i] - t.f0[i] + t.f1[i] > 40
        · rw [if_pos c2]; exact ev_dt c2 (ev_some.2 rfl)
        · rw [if_neg c2]
          refine ev_df c2 (ev_gd (by omega) (ev_gd (by omega) (ev_gd (by rw [ha, limE]; simp; omega) ?_)))
          rw [w_succ (by omega)]
          have := ih (i + 1) (acc ++ [h[i] - t.f0[i] + t.f1[i]]) (by omega) (by simp [ha])
          refine ev_eq this ?_
          rw [Option.map_map]
          congr 2
          funext l
          simp
  have := loop 3 0 [] (by omega) rfl
  refine ev_succ (fun k => impl_traded.f_eq k _ _) (ev_eq this ?_)
  unfold mvV
  congr 1
  simp
theorem sDoT_ev (h : List Int) (t : Trade) (hl : h.length ≤ 1000000000) (hr : TrOk t) : Ev (fun k => spec_TradeDo.f k h t) (if vh 40 h = true ∧ tv t = true then mvV h t else ([], false)) := by
  have r0 := hr.1
  have r1 := hr.2
  unfold RowOk at r0 r1
  refine ev_succ (fun k => spec_TradeDo.f_eq k _ _) (ev_bind (ev_succ (fun k => spec_HeapsValid.f_eq k _) (ev_bind (l8List_ev h 40 (by omega)) (ev_some.2 rfl))) ?_)
  cases hh : vh 40 h with
  | false => exact ev_nt rfl (ev_some.2 (by simp))
  | true =>
    refine ev_nf rfl (ev_bind (specTV_ev t hr) ?_)
    cases ht : tv t with
    | false => exact ev_nt rfl (ev_some.2 (by simp))
    | true =>
      refine ev_nf rfl ?_
      rw [if_pos ⟨rfl, rfl⟩]
      obtain ⟨h3, h0⟩ := vh_len hh
      obtain ⟨⟨t3, t0⟩, g3, g0⟩ := tv_of ht
      have loop : ∀ (d i : Nat) (acc : List Int), i + d = 3 → acc.length = i → (∀ n ∈ acc, 0 ≤ n) → Ev (fun k => spec_TradeDo.l0 k h t acc (i : Int)) (match mvS (h.drop i) (t.f0.drop i) (t.f1.drop i) with
          | some l => if vh 40 (acc ++ l) = true then (acc ++ l, true) else ([], false)
          | none => ([], false)) := by
        intro d
        induction d with
        | zero =>
          intro i acc hi ha hn
          refine ev_succ (fun k => spec_TradeDo.l0_eq k _ _ _ _) (ev_df (by omega) (ev_bind (ev_succ (fun k => spec_HeapsValid.f_eq k _) (ev_bind (l8List_ev acc 40 (by omega)) (ev_some.2 rfl))) ?_))
          rw [List.drop_eq_nil_of_le (show h.length ≤ i by omega)]
          simp only [mvS, List.append_nil]
          cases vh 40 acc with
          | false => exact ev_nt rfl (ev_some.2 (by simp))
          | true => exact ev_nf rfl (ev_some.2 (by simp))
        | succ d ih =>
          intro i acc hi ha hn
          have l1 : i < h.length := by omega
          have l2 : i < t.f0.length := by omega
          have l3 : i < t.f1.length := by omega
          have b1 := h0 h[i] (List.getElem_mem l1)
          have b2 := t0 t.f0[i] (List.getElem_mem l2)
          have b3 := g0 t.f1[i] (List.getElem_mem l3)
          refine ev_succ (fun k => spec_TradeDo.l0_eq k _ _ _ _) (ev_dt (by omega) (ev_gd (by omega) (ev_gd (by omega) ?_)))
          rw [get_nat l1, get_nat l2, get_nat l3, List.drop_eq_getElem_cons l1, List.drop_eq_getElem_cons l2, List.drop_eq_getElem_cons l3, mvS]
          rw [w64 (x := h[i] - t.f0[i]) (by omega) (by omega), w64 (x := h[i] - t.f0[i] + t.f1[i]) (by omega) (by omega)]
          by_cases c1 : h[i] < t.f0[i]
          · rw [if_pos c1]; exact ev_dt c1 (ev_some.2 rfl)
          · rw [if_neg c1]
            refine ev_df c1 (ev_gd (by omega) (ev_gd (by omega) (ev_gd (by omega) (ev_gd (by rw [ha, limE]; simp; omega) ?_))))
            rw [w_succ (by omega)]
            have := ih (i + 1) (acc ++ [h[i] - t.f0[i] + t.f1[i]]) (by omega) (by simp [ha]) (fun n hnn => by
              rcases List.mem_append.1 hnn with q | q
              · exact hn n q
              · simp at q; subst q; omega)
            refine ev_eq this ?_
            cases mvS (h.drop (i + 1)) (t.f0.drop (i + 1)) (t.f1.drop (i + 1)) with
            | none => rfl
            | some l => simp
      have := loop 3 0 [] (by omega) rfl (by simp)
      refine ev_eq this ?_
      unfold mvV
      rw [mvL_S]
      simp only [List.drop_zero, List.nil_append]
      cases hs : mvS h t.f0 t.f1 with
      | none => rfl
      | some l =>
        obtain ⟨e1, e2⟩ := mvS_ok hs (fun n hn => (g0 n hn).1)
        simp only [Option.bind_some]
        rw [vh_mk (by omega) e2]
        split <;> rfl
/-! What can be done. -/
def mayL (h : List Int) : List Trade → Int → List Int
  | [], _ => []
  | t :: ts, i => if (mvV h t).2 = true then i :: mayL h ts (i + 1) else mayL h ts (i + 1)
def mayV (h : List Int) (ts : List Trade) : List Int := if vh 40 h = true ∧ tsV ts = true then mayL h ts 0 else []
theorem mayL_len (h : List Int) : ∀ (ts : List Trade) (i : Int), (mayL h ts i).length ≤ ts.length
  | [], _ => by simp [mayL]
  | t :: ts, i => by
    rw [mayL]
    have := mayL_len h ts (i + 1)
    split <;> simp <;> omega
theorem tsV_of {ts : List Trade} (h : tsV ts = true) : (∀ t ∈ ts, tv t = true) ∧ ts.length ≤ 4 := by
  unfold tsV at h
  rw [Bool.and_eq_true, List.all_eq_true, decide_eq_true_eq] at h
  exact h
theorem mayV_len (h : List Int) (ts : List Trade) : (mayV h ts).length ≤ 4 := by
  unfold mayV
  split
  · rename_i hc
    have := mayL_len h ts 0
    have := (tsV_of hc.2).2
    omega
  · simp
theorem iMay_ev (h : List Int) (ts : List Trade) (hl : h.length ≤ 1000000000) (h2 : ts.length ≤ 1048576) (hr : ∀ t ∈ ts, TrOk t) : Ev (fun k => impl_TradesMay.f k h ts) (mayV h ts) := by
  refine ev_succ (fun k => impl_TradesMay.f_eq k _ _) (ev_bind (ev_succ (fun k => impl_HeapsValid.f_eq k _) (ev_bind (thingsOk_ev h 40 (by omega)) (ev_some.2 rfl))) ?_)
  unfold mayV
  cases hh : vh 40 h with
  | false => exact ev_nt rfl (ev_some.2 (by simp))
  | true =>
    refine ev_nf rfl (ev_bind (implTsV_ev ts h2 hr) ?_)
    cases ht : tsV ts with
    | false => exact ev_nt rfl (ev_some.2 (by simp))
    | true =>
      refine ev_nf rfl ?_
      rw [if_pos ⟨rfl, rfl⟩]
      have hts := (tsV_of ht).1
      have h4 := (tsV_of ht).2
      have loop : ∀ (d i : Nat) (acc : List Int), i + d = ts.length → acc.length ≤ i → Ev (fun k => impl_TradesMay.l0 k h acc ts (ts.length : Int) (i : Int)) (acc ++ mayL h (ts.drop i) (i : Int)) := by
        intro d
        induction d with
        | zero =>
          intro i acc hi ha
          refine ev_succ (fun k => impl_TradesMay.l0_eq k _ _ _ _ _) (ev_df (by omega) (ev_some.2 ?_))
          rw [List.drop_eq_nil_of_le (by omega)]; simp [mayL]
        | succ d ih =>
          intro i acc hi ha
          have hlt : i < ts.length := by omega
          refine ev_succ (fun k => impl_TradesMay.l0_eq k _ _ _ _ _) (ev_dt (by omega) (ev_gd (by omega) ?_))
          rw [at_nat hlt, List.drop_eq_getElem_cons hlt, mayL, w_succ (by omega)]
          refine ev_bind (traded_ev hh (hts _ (List.getElem_mem hlt))) ?_
          cases hd : (mvV h ts[i]).2 with
          | false =>
            refine ev_bf rfl ?_
            rw [if_neg (by simp)]
            exact ih (i + 1) acc (by omega) (by omega)
          | true =>
            refine ev_bt rfl (ev_gd (by rw [limE]; simp; omega) ?_)
            rw [if_pos rfl]
            have := ih (i + 1) (acc ++ [(i : Int)]) (by omega) (by simp; omega)
            refine ev_eq this ?_
            rw [List.append_assoc]; rfl
      have := loop ts.length 0 [] (by omega) (by simp)
      simpa using this
theorem sMay_ev (h : List Int) (ts : List Trade) (hl : h.length ≤ 1000000000) (h2 : ts.length ≤ 1048576) (hr : ∀ t ∈ ts, TrOk t) : Ev (fun k => spec_TradesMay.f k h ts) (mayV h ts) := by
  refine ev_succ (fun k => spec_TradesMay.f_eq k _ _) ?_
  unfold mayV
  by_cases ht : tsV ts = true
  · have hts := (tsV_of ht).1
    have h4 := (tsV_of ht).2
    have loop : ∀ (d i : Nat) (acc : List Int), i + d = ts.length → acc.length ≤ i → Ev (fun k => spec_TradesMay.l0 k h ts acc (i : Int)) (acc ++ if vh 40 h = true then mayL h (ts.drop i) (i : Int) else []) := by
      intro d
      induction d with
      | zero =>
        intro i acc hi ha
        refine ev_succ (fun k => spec_TradesMay.l0_eq k _ _ _ _) (ev_df (by omega) (ev_some.2 ?_))
        rw [List.drop_eq_nil_of_le (by omega)]; simp [mayL]
      | succ d ih =>
        intro i acc hi ha
        have hlt : i < ts.length := by omega
        refine ev_succ (fun k => spec_TradesMay.l0_eq k _ _ _ _) (ev_dt (by omega) (ev_bind (specTsV_ev ts h2 hr) (ev_bt ht (ev_gd (by omega) ?_))))
        rw [at_nat hlt, List.drop_eq_getElem_cons hlt, mayL, w_succ (by omega)]
        refine ev_bind (sDoT_ev h ts[i] hl (hr _ (List.getElem_mem hlt))) ?_
        cases hh : vh 40 h with
        | false =>
          rw [if_neg (by simp)]
          refine ev_bf rfl ?_
          have := ih (i + 1) acc (by omega) (by omega)
          rw [hh] at this
          simpa using this
        | true =>
          rw [if_pos ⟨rfl, hts _ (List.getElem_mem hlt)⟩]
          cases hd : (mvV h ts[i]).2 with
          | false =>
            refine ev_bf rfl ?_
            have := ih (i + 1) acc (by omega) (by omega)
            rw [hh] at this
            simpa using this
          | true =>
            refine ev_bt rfl (ev_gd (by rw [limE]; simp; omega) ?_)
            have := ih (i + 1) (acc ++ [(i : Int)]) (by omega) (by simp; omega)
            rw [hh] at this
            simpa using this
    have := loop ts.length 0 [] (by omega) (by simp)
    refine ev_eq this ?_
    cases vh 40 h <;> simp [ht]
  · refine ev_succ (fun k => spec_TradesMay.l0_eq k _ _ _ _) ?_
    rw [if_neg (fun hc => ht hc.2)]
    by_cases h0 : (0 : Int) < (ts.length : Int)
    · exact ev_dt h0 (ev_bind (specTsV_ev ts h2 hr) (ev_bf (by simpa using ht) (ev_some.2 rfl)))
    · exact ev_df h0 (ev_some.2 rfl)
/-! Rows of exchanges. -/
def trunL (ts : List Trade) : List Int → List Int → List Int × Bool
  | [], h => (h, true)
  | i :: is, h => if 0 ≤ i ∧ i < (ts.length : Int) then (if (mvV h (ts.getD i.toNat ⟨[], []⟩)).2 = true then trunL ts is (mvV h (ts.getD i.toNat ⟨[], []⟩)).1 else ([], false)) else ([], false)
def trunV (h : List Int) (ts : List Trade) (l : List Int) : List Int × Bool := if vh 40 h = true ∧ tsV ts = true ∧ l.length ≤ 99 then trunL ts l h else ([], false)
theorem tmem {ts : List Trade} {i : Int} (h : 0 ≤ i ∧ i < (ts.length : Int)) : ts.getD i.toNat (⟨[], []⟩ : Trade) ∈ ts := by
  have hlt : i.toNat < ts.length := by omega
  rw [List.getD_eq_getElem?_getD, List.getElem?_eq_getElem hlt]
  exact List.getElem_mem hlt
theorem trunL_len {ts : List Trade} (ht : ∀ t ∈ ts, tv t = true) : ∀ (l h : List Int), vh 40 h = true → (trunL ts l h).1.length ≤ 3
  | [], h, hh => by rw [trunL]; have := (vh_len hh).1; simp only; omega
  | i :: is, h, hh => by
    rw [trunL]
    split
    · rename_i hi
      split
      · rename_i hd
        exact trunL_len ht is _ (mvV_ok hh (ht _ (tmem hi)) hd)
      · simp
    · simp
theorem trunV_len (h : List Int) (ts : List Trade) (l : List Int) : (trunV h ts l).1.length ≤ 3 := by
  unfold trunV
  split
  · rename_i hc; exact trunL_len (tsV_of hc.2.1).1 l h hc.1
  · simp
theorem cloneH_ev (x : List Int) (h : x.length < lim) : Ev (fun k => slices_Clone_int_int.f k x) x := by
  have : (fun k => slices_Clone_int_int.f k x) = fun k => gate (decide (0 + x.length < lim)) (some x) := funext fun k => slices_Clone_int_int.f_eq k x
  rw [this]
  exact ev_gd (by omega) (ev_some.2 rfl)
theorem iTRun_ev (h : List Int) (ts : List Trade) (l : List Int) (hl : h.length ≤ 1048576) (h2 : ts.length ≤ 1048576) (hr : ∀ t ∈ ts, TrOk t) : Ev (fun k => impl_TradesRun.f k h ts l) (trunV h ts l) := by
  refine ev_succ (fun k => impl_TradesRun.f_eq k _ _ _) (ev_bind (ev_succ (fun k => impl_HeapsValid.f_eq k _) (ev_bind (thingsOk_ev h 40 (by omega)) (ev_some.2 rfl))) ?_)
  unfold trunV
  cases hh : vh 40 h with
  | false => exact ev_nt rfl (ev_some.2 (by simp))
  | true =>
    refine ev_nf rfl (ev_bind (implTsV_ev ts h2 hr) ?_)
    cases ht : tsV ts with
    | false => exact ev_nt rfl (ev_some.2 (by simp))
    | true =>
      refine ev_nf rfl ?_
      have hts := (tsV_of ht).1
      by_cases h9 : l.length ≤ 99
      · rw [if_pos ⟨rfl, rfl, h9⟩]
        refine ev_df (by omega) (ev_bind (cloneH_ev h (by rw [limE]; omega)) ?_)
        have loop : ∀ (d i : Nat) (x : List Int), i + d = l.length → vh 40 x = true → Ev (fun k => impl_TradesRun.l0 k ts x l (l.length : Int) (i : Int)) (trunL ts (l.drop i) x) := by
          intro d
          induction d with
          | zero =>
            intro i x hi hx
            refine ev_succ (fun k => impl_TradesRun.l0_eq k _ _ _ _ _) (ev_df (by omega) (ev_some.2 ?_))
            rw [List.drop_eq_nil_of_le (by omega)]; rfl
          | succ d ih =>
            intro i x hi hx
            have hlt : i < l.length := by omega
            refine ev_succ (fun k => impl_TradesRun.l0_eq k _ _ _ _ _) (ev_dt (by omega) (ev_gd (by omega) ?_))
            rw [get_nat hlt, List.drop_eq_getElem_cons hlt, trunL, w_succ (by omega)]
            by_cases c0 : l[i] < 0
            · rw [if_neg (by omega)]; exact ev_dt c0 (ev_some.2 rfl)
            · refine ev_df c0 ?_
              by_cases c1 : l[i] ≥ (ts.length : Int)
              · rw [if_neg (by omega)]; exact ev_dt c1 (ev_some.2 rfl)
              · have hi2 : 0 ≤ l[i] ∧ l[i] < (ts.length : Int) := by omega
                rw [if_pos hi2]
                refine ev_df c1 (ev_gd hi2 (ev_bind (traded_ev hx (hts _ (tmem hi2))) ?_))
                cases hd : (mvV x (ts.getD l[i].toNat ⟨[], []⟩)).2 with
                | false => exact ev_nt rfl (ev_some.2 (by simp))
                | true =>
                  refine ev_nf rfl ?_
                  rw [if_pos rfl]
                  exact ih (i + 1) _ (by omega) (mvV_ok hx (hts _ (tmem hi2)) hd)
        exact loop l.length 0 h (by omega) hh
      · rw [if_neg (fun hc => h9 hc.2.2)]
        exact ev_dt (by omega) (ev_some.2 rfl)
theorem sTRun_ev (h : List Int) (ts : List Trade) (l : List Int) (hl : h.length ≤ 1048576) (h2 : ts.length ≤ 1048576) (hr : ∀ t ∈ ts, TrOk t) : Ev (fun k => spec_TradesRun.f k h ts l) (trunV h ts l) := by
  refine ev_succ (fun k => spec_TradesRun.f_eq k _ _ _) (ev_bind (ev_succ (fun k => spec_HeapsValid.f_eq k _) (ev_bind (l8List_ev h 40 (by omega)) (ev_some.2 rfl))) ?_)
  unfold trunV
  cases hh : vh 40 h with
  | false => exact ev_nt rfl (ev_some.2 (by simp))
  | true =>
    refine ev_nf rfl (ev_bind (specTsV_ev ts h2 hr) ?_)
    cases ht : tsV ts with
    | false => exact ev_nt rfl (ev_some.2 (by simp))
    | true =>
      refine ev_nf rfl ?_
      have hts := (tsV_of ht).1
      by_cases h9 : l.length ≤ 99
      · rw [if_pos ⟨rfl, rfl, h9⟩]
        refine ev_df (by omega) (ev_gd (by rw [limE]; simp; omega) ?_)
        rw [List.nil_append]
        have loop : ∀ (d i : Nat) (x : List Int), i + d = l.length → vh 40 x = true → Ev (fun k => spec_TradesRun.l0 k ts l x (i : Int)) (trunL ts (l.drop i) x) := by
          intro d
          induction d with
          | zero =>
            intro i x hi hx
            refine ev_succ (fun k => spec_TradesRun.l0_eq k _ _ _ _) (ev_df (by omega) (ev_some.2 ?_))
            rw [List.drop_eq_nil_of_le (by omega)]; rfl
          | succ d ih =>
            intro i x hi hx
            have hlt : i < l.length := by omega
            refine ev_succ (fun k => spec_TradesRun.l0_eq k _ _ _ _) (ev_dt (by omega) (ev_gd (by omega) ?_))
            rw [get_nat hlt, List.drop_eq_getElem_cons hlt, trunL, w_succ (by omega), w64 (x := (ts.length : Int) - 1) (by omega) (by omega)]
            refine ev_bind (l1In_ev _ _ _) ?_
            by_cases c1 : 0 ≤ l[i] ∧ l[i] < (ts.length : Int)
            · rw [if_pos c1]
              refine ev_nf (by simp; omega) (ev_gd (by omega) (ev_gd c1 ?_))
              have hx3 := (vh_len hx).1
              refine ev_bind (sDoT_ev x _ (by omega) (hr _ (tmem c1))) ?_
              rw [if_pos ⟨hx, hts _ (tmem c1)⟩]
              cases hd : (mvV x (ts.getD l[i].toNat ⟨[], []⟩)).2 with
              | false => exact ev_nt rfl (ev_some.2 (by simp))
              | true =>
                refine ev_nf rfl ?_
                rw [if_pos rfl]
                exact ih (i + 1) _ (by omega) (mvV_ok hx (hts _ (tmem c1)) hd)
            · rw [if_neg c1]
              exact ev_nt (by simp; omega) (ev_some.2 rfl)
        exact loop l.length 0 h (by omega) hh
      · rw [if_neg (fun hc => h9 hc.2.2)]
        exact ev_dt (by omega) (ev_some.2 rfl)
/-! Trades, copied, sized and held against each other. -/
theorem szTr_ev (t : Trade) (n : Int) (h0 : 0 ≤ n) (h1 : n ≤ 1048576) (hl : t.f0.length ≤ maxLen ∧ t.f1.length ≤ maxLen) : EvP (fun k => laws_szTrade.f k t n) (fun r => r ≤ 1048576 ∧ (0 ≤ r → TrOk t)) := by
  refine evp_succ (fun k => laws_szTrade.f_eq k _ _) (evp_bind (szII_ev _ n h0 h1 hl.1) (fun r ⟨r1, r2⟩ => evp_d (fun _ => evp_some ⟨by omega, fun h => by omega⟩) (fun hr => ?_)))
  refine evp_bind (szII_ev _ r (by omega) r1 hl.2) (fun q ⟨q1, q2⟩ => evp_d (fun _ => evp_some ⟨by omega, fun h => by omega⟩) (fun hq => evp_some ⟨q1, fun h => ⟨r2 (by omega), q2 (by omega)⟩⟩))
theorem szTradeS_ev (a : List Trade) (n : Int) (h0 : 0 ≤ n) (h1 : n ≤ 1048576) (hl : a.length ≤ maxLen) (hr : ∀ t ∈ a, t.f0.length ≤ maxLen ∧ t.f1.length ≤ maxLen) : EvP (fun k => laws_szTradeS.f k a n) (fun r => r ≤ 1048576 ∧ (0 ≤ r → a.length ≤ 1048576 ∧ ∀ t ∈ a, TrOk t)) := by
  have hm : maxLen ≤ 9223372036854775807 := by decide
  refine evp_succ (fun k => laws_szTradeS.f_eq k _ _) ?_
  rw [w64 (by omega) (by omega)]
  refine evp_d (fun h => evp_some ⟨by omega, fun h => by omega⟩) (fun hge => ?_)
  have loop : ∀ (d i : Nat) (n : Int), i + d = a.length → 0 ≤ n → n ≤ 1048576 → (∀ r ∈ a.take i, TrOk r) → EvP (fun k => laws_szTradeS.l0 k a n (i : Int)) (fun r => r ≤ 1048576 ∧ (0 ≤ r → a.length ≤ 1048576 ∧ ∀ r ∈ a, TrOk r)) := by
    intro d
    induction d with
    | zero =>
      intro i n hi h0 h1 hall
      rw [List.take_of_length_le (by omega)] at hall
      exact evp_succ (fun k => laws_szTradeS.l0_eq k _ _ _) (evp_d (fun h => by omega) (fun _ => evp_some ⟨h1, fun _ => ⟨by omega, hall⟩⟩))
    | succ d ih =>
      intro i n hi h0 h1 hall
      have hlt : i < a.length := by omega
      refine evp_succ (fun k => laws_szTradeS.l0_eq k _ _ _) (evp_d (fun _ => evp_gd (by omega) ?_) (fun h => by omega))
      rw [at_nat hlt, w_succ (by omega)]
      refine evp_bind (szTr_ev _ n h0 h1 (hr _ (List.getElem_mem hlt))) (fun r ⟨r1, r2⟩ => evp_d (fun h => evp_some ⟨by omega, fun h => by omega⟩) (fun hr => ih (i + 1) r (by omega) (by omega) r1 ?_))
      intro x hx
      rw [← List.take_append_getElem hlt] at hx
      rcases List.mem_append.1 hx with hx | hx
      · exact hall x hx
      · simp at hx; subst hx; exact r2 (by omega)
  exact loop a.length 0 _ (by omega) (by omega) (by omega) (by simp)
theorem toTr_ev (t : Trade) (h : TrOk t) : Ev (fun k => laws_toTrade.f k t) (t.f0, t.f1) :=
  ev_succ (fun k => laws_toTrade.f_eq k _) (ev_bind (toIntS_ev _ (by have := h.1; unfold RowOk at this; omega)) (ev_bind (toIntS_ev _ (by have := h.2; unfold RowOk at this; omega)) (ev_some.2 rfl)))
theorem toTradeS_ev (a : List Trade) (hl : a.length ≤ 1048576) (hr : ∀ r ∈ a, TrOk r) : Ev (fun k => laws_toTradeS.f k a) a := by
  have loop : ∀ d i : Nat, i + d = a.length → Ev (fun k => laws_toTradeS.l0 k a (a.take i ++ List.replicate d (⟨([] : List Int), ([] : List Int)⟩ : Trade)) (i : Int)) a := by
    intro d
    induction d with
    | zero =>
      intro i hi
      refine ev_succ (fun k => laws_toTradeS.l0_eq k _ _ _) (ev_df (by omega) (ev_some.2 ?_))
      rw [List.take_of_length_le (by omega)]; simp
    | succ d ih =>
      intro i hi
      have hlt : i < a.length := by omega
      have hlen := fill_len (z := (⟨([] : List Int), ([] : List Int)⟩ : Trade)) hi
      refine ev_succ (fun k => laws_toTradeS.l0_eq k _ _ _) (ev_dt (by omega) (ev_gd (by omega) ?_))
      rw [at_nat hlt]
      refine ev_bind (toTr_ev _ (hr _ (List.getElem_mem hlt))) (ev_gd (by rw [hlen]; omega) (ev_gd (by rw [hlen]; omega) ?_))
      rw [show (⟨(a[i].f0, a[i].f1).1, (a[i].f0, a[i].f1).2⟩ : Trade) = a[i] from rfl, fill_step hi hlt, w_succ (by omega)]
      exact ih (i + 1) (by omega)
  refine ev_succ (fun k => laws_toTradeS.f_eq k a) (ev_gd ⟨by omega, by rw [Int.toNat_natCast, limE]; omega, rfl⟩ ?_)
  have := loop a.length 0 (by omega)
  rw [Int.toNat_natCast]
  simpa using this
theorem eqTr_self (t : Trade) (h : TrOk t) : Ev (fun k => laws_eqTrade.f k t t) true :=
  ev_succ (fun k => laws_eqTrade.f_eq k _ _) (ev_bind (eqIntS_self _ (by have := h.1; unfold RowOk at this; omega)) (ev_nf rfl (ev_bind (eqIntS_self _ (by have := h.2; unfold RowOk at this; omega)) (ev_nf rfl (ev_some.2 rfl)))))
theorem eqTradeS_self (a : List Trade) (hl : a.length ≤ 1048576) (hr : ∀ r ∈ a, TrOk r) : Ev (fun k => laws_eqTradeS.f k a a) true := by
  have loop : ∀ d i : Nat, i + d = a.length → Ev (fun k => laws_eqTradeS.l0 k a a (i : Int)) true := by
    intro d
    induction d with
    | zero => intro i hi; exact ev_succ (fun k => laws_eqTradeS.l0_eq k _ _ _) (ev_df (by omega) (ev_some.2 rfl))
    | succ d ih =>
      intro i hi
      have hlt : i < a.length := by omega
      refine ev_succ (fun k => laws_eqTradeS.l0_eq k _ _ _) (ev_dt (by omega) (ev_gd (by omega) (ev_gd (by omega) ?_)))
      rw [at_nat hlt, w_succ (by omega)]
      exact ev_bind (eqTr_self _ (hr _ (List.getElem_mem hlt))) (ev_nf rfl (ih (i + 1) (by omega)))
  exact ev_succ (fun k => laws_eqTradeS.f_eq k _ _) (ev_nf (by simp) (loop a.length 0 (by omega)))
/-! What marks in rows of rows hand on. -/
theorem mark1_fst : ∀ (l : List Int) (k : Int), 0 ≤ k → k + l.length ≤ 9000000000000000000 → (mark1 l k).1 = k + l.length
  | [], k, _, _ => by simp [mark1]
  | x :: l, k, h0, h1 => by
    have hl : ((x :: l).length : Int) = (l.length : Int) + 1 := by simp
    rw [hl] at h1 ⊢
    rw [mark1, w64 (by omega) (by omega)]
    show (mark1 l (k + 1)).1 = _
    rw [mark1_fst l (k + 1) (by omega) (by omega)]
    omega
/-! Rows written over with numbers that follow each other, from any number on. -/
def mkF (c : Int) (n : Nat) : List Int := (List.range n).map fun (i : Nat) => c + (i : Int)
theorem mkF_len (c : Int) (n : Nat) : (mkF c n).length = n := by simp [mkF]
theorem mkF_at {c : Int} {n i : Nat} (h : i < n) : (mkF c n)[i]'(by rw [mkF_len]; exact h) = c + (i : Int) := by simp [mkF]
theorem mkF_succ (c : Int) (n : Nat) : mkF c (n + 1) = mkF c n ++ [c + (n : Int)] := by simp [mkF, List.range_succ]
theorem markc_ev (c : Int) (h0 : 0 ≤ c) (h1 : c ≤ 1000000000) (l : List Int) (hl : l.length ≤ 1000000000) : Ev (fun k => laws_markIntS.f k l c) (c + (l.length : Int), mkF c l.length) := by
  have loop : ∀ d i : Nat, i + d = l.length → Ev (fun k => laws_markIntS.l0 k (mkF c i ++ l.drop i) (c + (i : Int)) (i : Int)) (c + (l.length : Int), mkF c l.length) := by
    intro d
    induction d with
    | zero =>
      intro i hi
      have hlen : (mkF c i ++ l.drop i).length = l.length := by rw [List.length_append, mkF_len, List.length_drop]; omega
      refine ev_succ (fun k => laws_markIntS.l0_eq k _ _ _) (ev_df (by rw [hlen]; omega) (ev_some.2 ?_))
      rw [List.drop_eq_nil_of_le (by omega), List.append_nil, show i = l.length by omega]
    | succ d ih =>
      intro i hi
      have hlen : (mkF c i ++ l.drop i).length = l.length := by rw [List.length_append, mkF_len, List.length_drop]; omega
      have hlt : i < l.length := by omega
      refine ev_succ (fun k => laws_markIntS.l0_eq k _ _ _) (ev_dt (by rw [hlen]; omega) (ev_gd (by rw [hlen]; omega) (ev_gd (by rw [hlen]; omega) ?_)))
      have e : (mkF c i ++ l.drop i).set (i : Int).toNat (c + (i : Int)) = mkF c (i + 1) ++ l.drop (i + 1) := by
        rw [Int.toNat_natCast, List.set_append_right _ _ (by rw [mkF_len]; omega), mkF_len, Nat.sub_self, List.drop_eq_getElem_cons hlt, List.set_cons_zero, mkF_succ, List.append_assoc]
        rfl
      rw [e, w_succ (by omega), w64 (by omega) (by omega)]
      have := ih (i + 1) (by omega)
      rw [show c + (i : Int) + 1 = c + ((i + 1 : Nat) : Int) by omega]
      exact this
  have := loop l.length 0 (by omega)
  refine ev_succ (fun k => laws_markIntS.f_eq k _ _) ?_
  simpa [mkF] using this
theorem heldc_ev (c : Int) (h0 : 0 ≤ c) (h1 : c ≤ 1000000000) (n : Nat) (hn : n ≤ 1000000000) : Ev (fun k => laws_heldIntS.f k (mkF c n) c) (c + (n : Int)) := by
  have loop : ∀ d i : Nat, i + d = n → Ev (fun k => laws_heldIntS.l0 k (mkF c n) (c + (i : Int)) (i : Int)) (c + (n : Int)) := by
    intro d
    induction d with
    | zero =>
      intro i hi
      refine ev_succ (fun k => laws_heldIntS.l0_eq k _ _ _) (ev_df (by rw [mkF_len]; omega) (ev_some.2 (by omega)))
    | succ d ih =>
      intro i hi
      have hlt : i < (mkF c n).length := by rw [mkF_len]; omega
      refine ev_succ (fun k => laws_heldIntS.l0_eq k _ _ _) (ev_dt (by omega) (ev_gd (by omega) (ev_nf ?_ ?_)))
      · rw [get_nat hlt, mkF_at (by omega)]; exact decide_eq_true rfl
      · rw [w_succ (by omega), w64 (by omega) (by omega), show c + (i : Int) + 1 = c + ((i + 1 : Nat) : Int) by omega]
        exact ih (i + 1) (by omega)
  have := loop n 0 (by omega)
  refine ev_succ (fun k => laws_heldIntS.f_eq k _ _) ?_
  simpa using this
theorem markT_fst : ∀ (l : List Trade) (k : Int), 0 ≤ k → k + 2097152 * l.length ≤ 9000000000000000000 → (∀ r ∈ l, TrOk r) → 0 ≤ (markT l k).1 ∧ (markT l k).1 ≤ k + 2097152 * l.length
  | [], k, h0, _, _ => by simp [markT]; exact h0
  | x :: l, k, h0, h1, hr => by
    have hl : ((x :: l).length : Int) = (l.length : Int) + 1 := by simp
    rw [hl] at h1 ⊢
    have hx := hr x (List.mem_cons_self ..)
    have x0 := hx.1
    have x1 := hx.2
    unfold RowOk at x0 x1
    have := markT_fst l (k + x.f0.length + x.f1.length) (by omega) (by omega) (fun r h => hr r (List.mem_cons_of_mem _ h))
    rw [markT]
    show 0 ≤ (markT l (mark1 x.f1 (mark1 x.f0 k).1).1).1 ∧ (markT l (mark1 x.f1 (mark1 x.f0 k).1).1).1 ≤ _
    rw [mark1_fst x.f0 k h0 (by omega), mark1_fst x.f1 _ (by omega) (by omega)]
    omega
theorem markTS_ev (a : List Trade) (c : Int) (hl : a.length ≤ 1048576) (hr : ∀ r ∈ a, TrOk r) : Ev (fun k => laws_markTradeS.f k a c) ((markT a c).1, (markT a c).2) := by
  have hok : okT a = true := decide_eq_true ⟨by rw [limE]; omega, fun r h => by have := hr r h; have x0 := this.1; have x1 := this.2; unfold RowOk at x0 x1; rw [limE]; omega⟩
  refine ⟨0, fun k _ => ?_⟩
  show laws_markTradeS.f k a c = _
  rw [laws_markTradeS.f_eq, hok]
  rfl
/-! The law. -/
def TrW (t : Trade) : Prop := (t.f0.length ≤ maxLen ∧ ∀ x ∈ t.f0, (Lit.int .i64 x).wf = true) ∧ (t.f1.length ≤ maxLen ∧ ∀ x ∈ t.f1, (Lit.int .i64 x).wf = true)
theorem markS_ev (c : Int) (h0 : 0 ≤ c) (h1 : c ≤ 9000000000000000000) (l : List Int) (hl : l.length ≤ 1000000000) : Ev (fun k => laws_markIntS.f k l c) (c + (l.length : Int), mkF c l.length) := by
  have loop : ∀ d i : Nat, i + d = l.length → Ev (fun k => laws_markIntS.l0 k (mkF c i ++ l.drop i) (c + (i : Int)) (i : Int)) (c + (l.length : Int), mkF c l.length) := by
    intro d
    induction d with
    | zero =>
      intro i hi
      have hlen : (mkF c i ++ l.drop i).length = l.length := by rw [List.length_append, mkF_len, List.length_drop]; omega
      refine ev_succ (fun k => laws_markIntS.l0_eq k _ _ _) (ev_df (by rw [hlen]; omega) (ev_some.2 ?_))
      rw [List.drop_eq_nil_of_le (by omega), List.append_nil, show i = l.length by omega]
    | succ d ih =>
      intro i hi
      have hlen : (mkF c i ++ l.drop i).length = l.length := by rw [List.length_append, mkF_len, List.length_drop]; omega
      have hlt : i < l.length := by omega
      refine ev_succ (fun k => laws_markIntS.l0_eq k _ _ _) (ev_dt (by rw [hlen]; omega) (ev_gd (by rw [hlen]; omega) (ev_gd (by rw [hlen]; omega) ?_)))
      have e : (mkF c i ++ l.drop i).set (i : Int).toNat (c + (i : Int)) = mkF c (i + 1) ++ l.drop (i + 1) := by
        rw [Int.toNat_natCast, List.set_append_right _ _ (by rw [mkF_len]; omega), mkF_len, Nat.sub_self, List.drop_eq_getElem_cons hlt, List.set_cons_zero, mkF_succ, List.append_assoc]
        rfl
      rw [e, w_succ (by omega), w64 (by omega) (by omega)]
      have := ih (i + 1) (by omega)
      rw [show c + (i : Int) + 1 = c + ((i + 1 : Nat) : Int) by omega]
      exact this
  have := loop l.length 0 (by omega)
  refine ev_succ (fun k => laws_markIntS.f_eq k _ _) ?_
  simpa [mkF] using this
theorem pure_FnExactTradesRun (h : List Int) (o : List Trade) (l : List Int) (h1 : h.length ≤ maxLen) (h3 : ∀ x ∈ h, (Lit.int .i64 x).wf = true) (h4 : o.length ≤ maxLen) (h5 : ∀ r ∈ o, TrW r) (h6 : l.length ≤ maxLen) (h7 : ∀ x ∈ l, (Lit.int .i64 x).wf = true) : ∃ k, laws_FnExactTradesRun.f k h o l = some true := by
  refine evp_true (evp_succ (fun k => laws_FnExactTradesRun.f_eq k h o l) (evp_d (fun _ => evp_some rfl) (fun hl => evp_d (fun _ => evp_some rfl) (fun hll => evp_bind (szTradeS_ev o 1048576 (by omega) (by omega) h4 (fun r hr => ⟨(h5 r hr).1.1, (h5 r hr).2.1⟩)) (fun r hr => evp_d (fun _ => evp_some rfl) (fun h0 => ?_))))))
  obtain ⟨ho, hr2⟩ := hr.2 (by omega)
  have hl' : h.length ≤ 1048576 := by omega
  have hl2 : l.length ≤ 1048576 := by omega
  have ti := toIntS_ev h (by omega)
  have tl := toIntS_ev l (by omega)
  have to := toTradeS_ev o ho hr2
  have sp := sTRun_ev h o l (by omega) ho hr2
  have im := iTRun_ev h o l (by omega) ho hr2
  have hv := trunV_len h o l
  have es := eqIntS_self (trunV h o l).1 (by omega)
  have mi := markc_ev 1 (by omega) (by omega) h (by omega)
  have mm := markTS_ev o ((1 : Int) + (h.length : Int)) ho hr2
  have mf := markT_fst o ((1 : Int) + (h.length : Int)) (by omega) (by omega) hr2
  have mg := markc_ev 1 (by omega) (by omega) (trunV h o l).1 (by omega)
  have hg := heldc_ev 1 (by omega) (by omega) (trunV h o l).1.length (by omega)
  have ml := markS_ev (markT o ((1 : Int) + (h.length : Int))).1 (by omega) (by omega) l (by omega)
  refine Ev.p ?_ rfl
  refine ev_bind ti (ev_bind to (ev_bind tl (ev_bind sp (ev_bind ti (ev_bind to (ev_bind tl (ev_bind im (ev_bind es (ev_nf rfl (ev_nf (by simp) (ev_bind ti (ev_bind (eqIntS_self h (by omega)) (ev_nf rfl (ev_bind to (ev_bind (eqTradeS_self o ho hr2) (ev_nf rfl (ev_bind tl (ev_bind (eqIntS_self l (by omega)) (ev_nf rfl ?_)))))))))))))))))))
  refine ev_bind mi (ev_bind mm (ev_bind ml (ev_df (by simp only; omega) (ev_bind es (ev_nf rfl (ev_nf (by simp) ?_))))))
  refine ev_bind mg (ev_bind hg (ev_df (by omega) (ev_nf (by simp) (ev_bind ti (ev_bind to (ev_bind tl (ev_bind im (ev_bind es (ev_nf rfl (ev_nf (by simp) (ev_bind hg (ev_df (by omega) (ev_nf (by simp) (ev_some.2 rfl))))))))))))))
end Go.Proofs.Ytajecpmdagbojaa.EPure
