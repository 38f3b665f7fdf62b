/-
  The pure statement of FnExactHeapsLast.
-/
import Derived.Test.YtogfnegopdejfaaQW
import Derived.ProofKit
import Derived.IntWalk
namespace Go.Proofs.Ytogfnegopdejfaa.EPure
open Go Go.RowKit Go.Proofs.Ytogfnegopdejfaa.Eng
set_option linter.unusedVariables false
set_option linter.unusedSimpArgs false

/-! Rounds without counting them. -/
def Ev {α : Type} (g : Nat → Option α) (r : α) : Prop := ∃ K, ∀ k, K ≤ k → g k = some r
theorem ev_some {α : Type} {a r : α} : Ev (fun _ => some a) r ↔ a = r := by
  constructor
  · rintro ⟨K, h⟩
    exact Option.some.inj (h K (Nat.le_refl _))
  · rintro rfl
    exact ⟨0, fun _ _ => rfl⟩
theorem ev_bind {α β : Type} {g : Nat → Option α} {f : Nat → α → Option β} {a : α} (h : Ev g a) {r : β} (h2 : Ev (fun k => f k a) r) : Ev (fun k => (g k).bind (f k)) r := by
  obtain ⟨K, h⟩ := h
  obtain ⟨L, h2⟩ := h2
  exact ⟨max K L, fun k hk => by simp only [h k (by omega), Option.bind_some]; exact h2 k (by omega)⟩
theorem ev_succ {α : Type} {g f : Nat → Option α} {r : α} (h : ∀ k, g (k + 1) = f k) (e : Ev f r) : Ev g r := by
  obtain ⟨K, e⟩ := e
  refine ⟨K + 1, fun k hk => ?_⟩
  obtain ⟨j, rfl⟩ : ∃ j, k = j + 1 := ⟨k - 1, by omega⟩
  rw [h]
  exact e j (by omega)
theorem ev_true {g : Nat → Option Bool} (h : Ev g true) : ∃ k, g k = some true := by
  obtain ⟨K, h⟩ := h
  exact ⟨K, h K (Nat.le_refl _)⟩
theorem ev_gate {α : Type} {c : Bool} {g : Nat → Option α} {r : α} (hc : c = true) (e : Ev g r) : Ev (fun k => gate c (g k)) r := by
  subst hc
  exact e
theorem ev_gd {α : Type} {p : Prop} [Decidable p] {g : Nat → Option α} {r : α} (hp : p) (e : Ev g r) : Ev (fun k => gate (decide p) (g k)) r := ev_gate (decide_eq_true hp) e
theorem ev_bt {α : Type} {c : Bool} {g h : Nat → Option α} {r : α} (hc : c = true) (e : Ev g r) : Ev (fun k => br c (g k) (h k)) r := by
  subst hc
  exact e
theorem ev_bf {α : Type} {c : Bool} {g h : Nat → Option α} {r : α} (hc : c = false) (e : Ev h r) : Ev (fun k => br c (g k) (h k)) r := by
  subst hc
  exact e
theorem ev_dt {α : Type} {p : Prop} [Decidable p] {g h : Nat → Option α} {r : α} (hp : p) (e : Ev g r) : Ev (fun k => br (decide p) (g k) (h k)) r := ev_bt (decide_eq_true hp) e
theorem ev_df {α : Type} {p : Prop} [Decidable p] {g h : Nat → Option α} {r : α} (hp : ¬ p) (e : Ev h r) : Ev (fun k => br (decide p) (g k) (h k)) r := ev_bf (decide_eq_false hp) e
theorem ev_nt {α : Type} {c : Bool} {g h : Nat → Option α} {r : α} (hc : c = false) (e : Ev g r) : Ev (fun k => br (!c) (g k) (h k)) r := by
  subst hc
  exact e
theorem ev_nf {α : Type} {c : Bool} {g h : Nat → Option α} {r : α} (hc : c = true) (e : Ev h r) : Ev (fun k => br (!c) (g k) (h k)) r := by
  subst hc
  exact e
/-! What comes of some rounds, with a property. -/
def EvP {α : Type} (g : Nat → Option α) (Q : α → Prop) : Prop := ∃ r, Ev g r ∧ Q r
theorem Ev.p {α : Type} {g : Nat → Option α} {Q : α → Prop} {r : α} (h : Ev g r) (q : Q r) : EvP g Q := ⟨r, h, q⟩
theorem evp_some {α : Type} {Q : α → Prop} {r : α} (q : Q r) : EvP (fun _ => some r) Q := ⟨r, ev_some.2 rfl, q⟩
theorem evp_bind {α β : Type} {g : Nat → Option α} {f : Nat → α → Option β} {P : α → Prop} {Q : β → Prop} (h : EvP g P) (e : ∀ a, P a → EvP (fun k => f k a) Q) : EvP (fun k => (g k).bind (f k)) Q := by
  obtain ⟨a, h1, p⟩ := h
  obtain ⟨r, h2, q⟩ := e a p
  exact ⟨r, ev_bind h1 h2, q⟩
theorem evp_bindv {α β : Type} {g : Nat → Option α} {f : Nat → α → Option β} {a : α} {Q : β → Prop} (h : Ev g a) (e : EvP (fun k => f k a) Q) : EvP (fun k => (g k).bind (f k)) Q := by
  obtain ⟨r, h2, q⟩ := e
  exact ⟨r, ev_bind h h2, q⟩
theorem evp_succ {α : Type} {g f : Nat → Option α} {Q : α → Prop} (h : ∀ k, g (k + 1) = f k) (e : EvP f Q) : EvP g Q := by
  obtain ⟨r, h2, q⟩ := e
  exact ⟨r, ev_succ h h2, q⟩
theorem evp_mono {α : Type} {g : Nat → Option α} {P Q : α → Prop} (h : EvP g P) (hq : ∀ a, P a → Q a) : EvP g Q := by
  obtain ⟨r, h2, p⟩ := h
  exact ⟨r, h2, hq r p⟩
theorem evp_gd {α : Type} {p : Prop} [Decidable p] {g : Nat → Option α} {Q : α → Prop} (hp : p) (e : EvP g Q) : EvP (fun k => gate (decide p) (g k)) Q := by
  obtain ⟨r, h, q⟩ := e
  exact ⟨r, ev_gd hp h, q⟩
theorem evp_gn {α : Type} {p : Prop} [Decidable p] {g : Nat → Option α} {Q : α → Prop} (hp : ¬ p) (e : EvP g Q) : EvP (fun k => gate (!decide p) (g k)) Q := by
  obtain ⟨r, h, q⟩ := e
  exact ⟨r, ev_gate (by simp [hp]) h, q⟩
theorem evp_b {α : Type} {c : Bool} {g h : Nat → Option α} {Q : α → Prop} (e1 : c = true → EvP g Q) (e2 : c = false → EvP h Q) : EvP (fun k => br c (g k) (h k)) Q := by
  cases c with
  | true => exact e1 rfl
  | false => exact e2 rfl
theorem evp_d {α : Type} {p : Prop} [Decidable p] {g h : Nat → Option α} {Q : α → Prop} (e1 : p → EvP g Q) (e2 : ¬ p → EvP h Q) : EvP (fun k => br (decide p) (g k) (h k)) Q :=
  evp_b (fun h => e1 (of_decide_eq_true h)) (fun h => e2 (of_decide_eq_false h))
theorem evp_true {g : Nat → Option Bool} (h : EvP g (fun b => b = true)) : ∃ k, g k = some true := by
  obtain ⟨r, h, rfl⟩ := h
  exact ev_true h
theorem wr_eq (x : Int) : wr x = wrap64 x := by unfold wrap64; exact IntKind.wrap_i64 x
theorem w64 {x : Int} (h0 : -9223372036854775808 ≤ x) (h1 : x ≤ 9223372036854775807) : wr x = x := by
  rw [wr_eq]
  unfold wrap64
  omega
theorem w_succ {i : Nat} (h : i < 9223372036854775807) : wr ((i : Int) + 1) = ((i + 1 : Nat) : Int) := by rw [w64] <;> omega
theorem get_nat {l : List Int} {i : Nat} (h : i < l.length) : l.getD (i : Int).toNat 0 = l[i] := by
  rw [Int.toNat_natCast, List.getD_eq_getElem?_getD, List.getElem?_eq_getElem h]
  rfl
theorem limE : lim = 1099511627776 := rfl
theorem ev_const {α : Type} {x : Option α} {r : α} (h : x = some r) : Ev (fun _ => x) r := ⟨0, fun _ _ => h⟩
theorem get_at {α : Type} {l : List α} {i : Nat} {d : α} (h : i < l.length) : l.getD (i : Int).toNat d = l[i] := by
  rw [Int.toNat_natCast, List.getD_eq_getElem?_getD, List.getElem?_eq_getElem h]
  rfl
theorem ev_eq {α : Type} {g : Nat → Option α} {a b : α} (h : Ev g a) (e : a = b) : Ev g b := e ▸ h
theorem l1In_ev (a b c : Int) : Ev (fun k => spec_l1In.f k a b c) (decide (a ≥ b) && decide (a ≤ c)) := by
  refine ev_succ (fun k => spec_l1In.f_eq k a b c) ?_
  by_cases h : a ≥ b
  · exact ev_dt h (ev_some.2 (by simp [h]))
  · exact ev_df h (ev_some.2 (by simp [h]))
/-! Heaps that are valid. -/
def vh (m : Int) (l : List Int) : Bool := decide (l.length = 3) && l.all fun n => decide (0 ≤ n) && decide (n ≤ m)
theorem thingsOk_ev (l : List Int) (m : Int) (hl : l.length < 9000000000000000000) : Ev (fun k => impl_thingsOk.f k l m) (vh m l) := by
  have loop : ∀ d i : Nat, i + d = l.length → Ev (fun k => impl_thingsOk.l0 k l m l (l.length : Int) (i : Int)) (decide (l.length = 3) && (l.drop i).all fun n => decide (0 ≤ n) && decide (n ≤ m)) := by
    intro d
    induction d with
    | zero =>
      intro i hi
      refine ev_succ (fun k => impl_thingsOk.l0_eq k _ _ _ _ _) (ev_df (by omega) (ev_some.2 ?_))
      rw [List.drop_eq_nil_of_le (by omega), List.all_nil, Bool.and_true]
      by_cases h : l.length = 3
      · rw [decide_eq_true h]; exact decide_eq_true (by omega)
      · rw [decide_eq_false h]; exact decide_eq_false (by omega)
    | succ d ih =>
      intro i hi
      have hlt : i < l.length := by omega
      refine ev_succ (fun k => impl_thingsOk.l0_eq k _ _ _ _ _) (ev_dt (by omega) (ev_gd (by omega) ?_))
      rw [get_at hlt, w_succ (by omega), List.drop_eq_getElem_cons hlt, List.all_cons]
      by_cases h1 : l[i] < 0
      · rw [decide_eq_false (show ¬ 0 ≤ l[i] by omega)]
        exact ev_dt h1 (ev_some.2 (by simp))
      refine ev_df h1 ?_
      by_cases h2 : l[i] > m
      · rw [decide_eq_false (show ¬ l[i] ≤ m by omega)]
        exact ev_dt h2 (ev_some.2 (by simp))
      refine ev_df h2 ?_
      rw [decide_eq_true (show 0 ≤ l[i] by omega), decide_eq_true (show l[i] ≤ m by omega)]
      exact ih (i + 1) (by omega)
  exact ev_succ (fun k => impl_thingsOk.f_eq k _ _) (loop l.length 0 (by omega))
theorem l8List_ev (l : List Int) (m : Int) (hl : l.length < 9000000000000000000) : Ev (fun k => spec_l8List.f k l m) (vh m l) := by
  have loop : ∀ d i : Nat, i + d = l.length → Ev (fun k => spec_l8List.l0 k l m (i : Int)) (decide (l.length = 3) && (l.drop i).all fun n => decide (0 ≤ n) && decide (n ≤ m)) := by
    intro d
    induction d with
    | zero =>
      intro i hi
      refine ev_succ (fun k => spec_l8List.l0_eq k _ _ _) (ev_df (by omega) (ev_some.2 ?_))
      rw [List.drop_eq_nil_of_le (by omega), List.all_nil, Bool.and_true]
      by_cases h : l.length = 3
      · rw [decide_eq_true h]; exact decide_eq_true (by omega)
      · rw [decide_eq_false h]; exact decide_eq_false (by omega)
    | succ d ih =>
      intro i hi
      have hlt : i < l.length := by omega
      refine ev_succ (fun k => spec_l8List.l0_eq k _ _ _) (ev_dt (by omega) (ev_gd (by omega) ?_))
      rw [get_at hlt, w_succ (by omega), List.drop_eq_getElem_cons hlt, List.all_cons]
      refine ev_bind (l1In_ev _ _ _) ?_
      cases h : (decide (l[i] ≥ 0) && decide (l[i] ≤ m)) with
      | true =>
        have h' : (decide (0 ≤ l[i]) && decide (l[i] ≤ m)) = true := h
        rw [Bool.true_and]
        exact ev_nf rfl (ih (i + 1) (by omega))
      | false =>
        have h' : (decide (0 ≤ l[i]) && decide (l[i] ≤ m)) = false := h
        rw [Bool.false_and, Bool.and_false]
        exact ev_nt rfl (ev_some.2 rfl)
  exact ev_succ (fun k => spec_l8List.f_eq k _ _) (loop l.length 0 (by omega))
theorem vh_len {m : Int} {l : List Int} (h : vh m l = true) : l.length = 3 ∧ ∀ n ∈ l, 0 ≤ n ∧ n ≤ m := by
  unfold vh at h
  simp only [Bool.and_eq_true, decide_eq_true_eq, List.all_eq_true] at h
  exact h
/-! Rows of anything, filled. -/
theorem at_nat {α : Type} {l : List α} {i : Nat} {d : α} (h : i < l.length) : l.getD (i : Int).toNat d = l[i] := by
  rw [Int.toNat_natCast, List.getD_eq_getElem?_getD, List.getElem?_eq_getElem h]
  rfl
theorem fill_len {α : Type} {l : List α} {z : α} {i d : Nat} (h : i + d = l.length) : (l.take i ++ List.replicate d z).length = l.length := by simp; omega
theorem fill_step {α : Type} {l : List α} {z : α} {i d : Nat} (h : i + (d + 1) = l.length) (hlt : i < l.length) : (l.take i ++ List.replicate (d + 1) z).set (i : Int).toNat l[i] = l.take (i + 1) ++ List.replicate d z := by
  rw [Int.toNat_natCast, List.set_append_right _ _ (by simp; omega), List.length_take, Nat.min_eq_left (by omega), Nat.sub_self, List.replicate_succ, List.set_cons_zero, ← List.take_append_getElem hlt, List.append_assoc]
  rfl
def RowOk (l : List Int) : Prop := l.length ≤ 1048576
def TrOk (t : Trade) : Prop := RowOk t.f0 ∧ RowOk t.f1
/-! Rules that are valid. -/
def tv (t : Trade) : Bool := vh 5 t.f0 && vh 5 t.f1
def tsV (ts : List Trade) : Bool := ts.all tv && decide (ts.length ≤ 4)
theorem tsV_of {ts : List Trade} (h : tsV ts = true) : (∀ t ∈ ts, tv t = true) ∧ ts.length ≤ 4 := by
  unfold tsV at h
  rw [Bool.and_eq_true, List.all_eq_true, decide_eq_true_eq] at h
  exact h
theorem vh_mono {l : List Int} (h : vh 5 l = true) : vh 40 l = true := by
  unfold vh at h ⊢
  rw [Bool.and_eq_true, List.all_eq_true] at h ⊢
  refine ⟨h.1, fun n hn => ?_⟩
  have := h.2 n hn
  simp only [Bool.and_eq_true, decide_eq_true_eq] at this ⊢
  omega
theorem implTV_ev (t : Trade) (h : TrOk t) : Ev (fun k => impl_TradeValid.f k t) (tv t) := by
  have h0 := h.1
  have h1 := h.2
  unfold RowOk at h0 h1
  refine ev_succ (fun k => impl_TradeValid.f_eq k _) (ev_bind (thingsOk_ev _ 5 (by omega)) ?_)
  unfold tv
  cases vh 5 t.f0 with
  | false => exact ev_bf rfl (ev_some.2 rfl)
  | true => exact ev_bt rfl (ev_bind (thingsOk_ev _ 5 (by omega)) (ev_some.2 rfl))
theorem specTV_ev (t : Trade) (h : TrOk t) : Ev (fun k => spec_TradeValid.f k t) (tv t) := by
  have h0 := h.1
  have h1 := h.2
  unfold RowOk at h0 h1
  refine ev_succ (fun k => spec_TradeValid.f_eq k _) (ev_bind (l8List_ev _ 5 (by omega)) ?_)
  unfold tv
  cases vh 5 t.f0 with
  | false => exact ev_bf rfl (ev_some.2 rfl)
  | true => exact ev_bt rfl (ev_bind (l8List_ev _ 5 (by omega)) (ev_some.2 rfl))
theorem all_at {α : Type} {p : α → Bool} {l : List α} {i : Nat} (h : i < l.length) : (l.drop i).all p = (p l[i] && (l.drop (i + 1)).all p) := by
  rw [List.drop_eq_getElem_cons h, List.all_cons]
theorem implTsV_ev (a : List Trade) (hl : a.length ≤ 1048576) (hr : ∀ r ∈ a, TrOk r) : Ev (fun k => impl_TradesValid.f k a) (tsV a) := by
  have loop : ∀ d i : Nat, i + d = a.length → Ev (fun k => impl_TradesValid.l0 k a a (a.length : Int) (i : Int)) ((a.drop i).all tv && decide (a.length ≤ 4)) := by
    intro d
    induction d with
    | zero =>
      intro i hi
      refine ev_succ (fun k => impl_TradesValid.l0_eq k _ _ _ _) (ev_df (by omega) (ev_some.2 ?_))
      rw [List.drop_eq_nil_of_le (by omega)]
      show _ = (true && _)
      rw [Bool.true_and]
      exact decide_eq_decide.2 (by omega)
    | succ d ih =>
      intro i hi
      have hlt : i < a.length := by omega
      refine ev_succ (fun k => impl_TradesValid.l0_eq k _ _ _ _) (ev_dt (by omega) (ev_gd (by omega) ?_))
      rw [at_nat hlt, w_succ (by omega), all_at hlt]
      refine ev_bind (implTV_ev _ (hr _ (List.getElem_mem hlt))) ?_
      cases tv a[i] with
      | false => exact ev_nt rfl (ev_some.2 rfl)
      | true => rw [Bool.true_and]; exact ev_nf rfl (ih (i + 1) (by omega))
  exact ev_succ (fun k => impl_TradesValid.f_eq k _) (loop a.length 0 (by omega))
theorem specTsV_ev (a : List Trade) (hl : a.length ≤ 1048576) (hr : ∀ r ∈ a, TrOk r) : Ev (fun k => spec_TradesValid.f k a) (tsV a) := by
  have loop : ∀ d i : Nat, i + d = a.length → Ev (fun k => spec_TradesValid.l0 k a (i : Int)) ((a.drop i).all tv && decide (a.length ≤ 4)) := by
    intro d
    induction d with
    | zero =>
      intro i hi
      refine ev_succ (fun k => spec_TradesValid.l0_eq k _ _) (ev_df (by omega) (ev_some.2 ?_))
      rw [List.drop_eq_nil_of_le (by omega)]
      show _ = (true && _)
      rw [Bool.true_and]
      exact decide_eq_decide.2 (by omega)
    | succ d ih =>
      intro i hi
      have hlt : i < a.length := by omega
      refine ev_succ (fun k => spec_TradesValid.l0_eq k _ _) (ev_dt (by omega) (ev_gd (by omega) ?_))
      rw [at_nat hlt, w_succ (by omega), all_at hlt]
      refine ev_bind (specTV_ev _ (hr _ (List.getElem_mem hlt))) ?_
      cases tv a[i] with
      | false => exact ev_nt rfl (ev_some.2 rfl)
      | true => rw [Bool.true_and]; exact ev_nf rfl (ih (i + 1) (by omega))
  exact ev_succ (fun k => spec_TradesValid.f_eq k _) (loop a.length 0 (by omega))
/-! Exchanges: one, all that can be done, and rows of them. -/
def mvL : List Int → List Int → List Int → Option (List Int)
  | [], _, _ => some []
  | h :: hs, t :: ts, g :: gs => if h < t then none else if h - t + g > 40 then none else (mvL hs ts gs).map ((h - t + g) :: ·)
  | _, _, _ => none
def mvS : List Int → List Int → List Int → Option (List Int)
  | [], _, _ => some []
  | h :: hs, t :: ts, g :: gs => if h < t then none else (mvS hs ts gs).map ((h - t + g) :: ·)
  | _, _, _ => none
def mvR (o : Option (List Int)) : List Int × Bool := match o with
  | some l => (l, true)
  | none => ([], false)
def mvV (h : List Int) (t : Trade) : List Int × Bool := mvR (mvL h t.f0 t.f1)
theorem mvL_S : ∀ (h t g : List Int), mvL h t g = (mvS h t g).bind fun l => if (l.all fun n => decide (n ≤ 40)) = true then some l else none
  | [], _, _ => by simp [mvL, mvS]
  | h :: hs, t :: ts, g :: gs => by
    rw [mvL, mvS]
    split
    · rfl
    · rw [mvL_S hs ts gs]
      cases hq : mvS hs ts gs with
      | none => simp
      | some l =>
        by_cases h4 : h - t + g > 40
        · rw [if_pos h4]
          have : ¬ h - t + g ≤ 40 := by omega
          simp [this]
        · rw [if_neg h4]
          have : h - t + g ≤ 40 := by omega
          by_cases ha : (l.all fun n => decide (n ≤ 40)) = true
          · simp only [Option.map_some, Option.bind_some, if_pos ha, List.all_cons, decide_eq_true this, Bool.true_and]
          · simp only [Option.map_some, Option.bind_some, if_neg ha, List.all_cons, decide_eq_true this, Bool.true_and, Option.map_none]
  | _ :: _, [], _ => by simp [mvL, mvS]
  | _ :: _, _ :: _, [] => by simp [mvL, mvS]
theorem mvS_ok : ∀ {h t g l : List Int}, mvS h t g = some l → (∀ n ∈ g, 0 ≤ n) → l.length = h.length ∧ ∀ n ∈ l, 0 ≤ n
  | [], _, _, l, e, _ => by simp [mvS] at e; subst e; simp
  | h :: hs, t :: ts, g :: gs, l, e, hg => by
    rw [mvS] at e
    split at e
    · cases e
    · rw [Option.map_eq_some_iff] at e
      obtain ⟨r, h1, rfl⟩ := e
      obtain ⟨i1, i2⟩ := mvS_ok h1 (fun n hn => hg n (List.mem_cons_of_mem _ hn))
      have := hg g (List.mem_cons_self ..)
      refine ⟨by simp [i1], fun n hn => ?_⟩
      rcases List.mem_cons.1 hn with rfl | hn
      · omega
      · exact i2 n hn
  | _ :: _, [], _, _, e, _ => by simp [mvS] at e
  | _ :: _, _ :: _, [], _, e, _ => by simp [mvS] at e
theorem tv_of {t : Trade} (h : tv t = true) : (t.f0.length = 3 ∧ ∀ n ∈ t.f0, 0 ≤ n ∧ n ≤ 40) ∧ (t.f1.length = 3 ∧ ∀ n ∈ t.f1, 0 ≤ n ∧ n ≤ 40) := by
  unfold tv at h
  rw [Bool.and_eq_true] at h
  exact ⟨vh_len (vh_mono h.1), vh_len (vh_mono h.2)⟩
theorem vh_mk {l : List Int} (h : l.length = 3) (h2 : ∀ n ∈ l, 0 ≤ n) : vh 40 l = (l.all fun n => decide (n ≤ 40)) := by
  unfold vh
  rw [decide_eq_true h, Bool.true_and]
  rw [Bool.eq_iff_iff, List.all_eq_true, List.all_eq_true]
  constructor
  · intro h1 n hn; have := h1 n hn; simp at this ⊢; exact this.2
  · intro h1 n hn; have := h1 n hn; have := h2 n hn; simp at *; omega
theorem mvV_ok {h : List Int} {t : Trade} (hh : vh 40 h = true) (ht : tv t = true) (hd : (mvV h t).2 = true) : vh 40 (mvV h t).1 = true := by
  obtain ⟨h3, h0⟩ := vh_len hh
  obtain ⟨⟨t3, t0⟩, g3, g0⟩ := tv_of ht
  unfold mvV at hd ⊢
  rw [mvL_S] at hd ⊢
  cases hs : mvS h t.f0 t.f1 with
  | none => rw [hs] at hd; simp [mvR] at hd
  | some l =>
    rw [hs] at hd
    obtain ⟨e1, e2⟩ := mvS_ok hs (fun n hn => (g0 n hn).1)
    simp only [Option.bind_some] at hd ⊢
    by_cases ha : (l.all fun n => decide (n ≤ 40)) = true
    · rw [if_pos ha] at hd ⊢
      show vh 40 l = true
      rw [vh_mk (by omega) e2]; exact ha
    · rw [if_neg ha] at hd; simp [mvR] at hd
theorem traded_ev {h : List Int} {t : Trade} (hh : vh 40 h = true) (ht : tv t = true) : Ev (fun k => impl_traded.f k h t) (mvV h t) := by
  obtain ⟨h3, h0⟩ := vh_len hh
  obtain ⟨⟨t3, t0⟩, g3, g0⟩ := tv_of ht
  have loop : ∀ (d i : Nat) (acc : List Int), i + d = 3 → acc.length = i → Ev (fun k => impl_traded.l0 k t acc h (h.length : Int) (i : Int)) (mvR ((mvL (h.drop i) (t.f0.drop i) (t.f1.drop i)).map (acc ++ ·))) := by
    intro d
    induction d with
    | zero =>
      intro i acc hi ha
      refine ev_succ (fun k => impl_traded.l0_eq k _ _ _ _ _) (ev_df (by omega) (ev_some.2 ?_))
      rw [List.drop_eq_nil_of_le (show h.length ≤ i by omega)]
      simp [mvL, mvR]
    | succ d ih =>
      intro i acc hi ha
      have l1 : i < h.length := by omega
      have l2 : i < t.f0.length := by omega
      have l3 : i < t.f1.length := by omega
      have b1 := h0 h[i] (List.getElem_mem l1)
      have b2 := t0 t.f0[i] (List.getElem_mem l2)
      have b3 := g0 t.f1[i] (List.getElem_mem l3)
      refine ev_succ (fun k => impl_traded.l0_eq k _ _ _ _ _) (ev_dt (by omega) (ev_gd (by omega) (ev_gd (by omega) ?_)))
      rw [get_nat l1, get_nat l2, get_nat l3, List.drop_eq_getElem_cons l1, List.drop_eq_getElem_cons l2, List.drop_eq_getElem_cons l3, mvL]
      rw [w64 (x := h[i] - t.f0[i]) (by omega) (by omega), w64 (x := h[i] - t.f0[i] + t.f1[i]) (by omega) (by omega)]
      by_cases c1 : h[i] < t.f0[i]
      · rw [if_pos c1]; exact ev_dt c1 (ev_some.2 rfl)
      · rw [if_neg c1]
        refine ev_df c1 (ev_gd (by omega) (ev_gd (by omega) ?_))
        by_cases c2 : h[i] - t.f0[i] + t.f1[i] > 40
        · rw [if_pos c2]; exact ev_dt c2 (ev_some.2 rfl)
        · rw [if_neg c2]
          refine ev_df c2 (ev_gd (by omega) (ev_gd (by omega) (ev_gd (by rw [ha, limE]; simp; omega) ?_)))
          rw [w_succ (by omega)]
          have := ih (i + 1) (acc ++ [h[i] - t.f0[i] + t.f1[i]]) (by omega) (by simp [ha])
          refine ev_eq this ?_
          rw [Option.map_map]
          congr 2
          funext l
          simp
  have := loop 3 0 [] (by omega) rfl
  refine ev_succ (fun k => impl_traded.f_eq k _ _) (ev_eq this ?_)
  unfold mvV
  congr 1
  simp
theorem sDoT_ev (h : List Int) (t : Trade) (hl : h.length ≤ 1000000000) (hr : TrOk t) : Ev (fun k => spec_TradeDo.f k h t) (if vh 40 h = true ∧ tv t = true then mvV h t else ([], false)) := by
  have r0 := hr.1
  have r1 := hr.2
  unfold RowOk at r0 r1
  refine ev_succ (fun k => spec_TradeDo.f_eq k _ _) (ev_bind (ev_succ (fun k => spec_HeapsValid.f_eq k _) (ev_bind (l8List_ev h 40 (by omega)) (ev_some.2 rfl))) ?_)
  cases hh : vh 40 h with
  | false => exact ev_nt rfl (ev_some.2 (by simp))
  | true =>
    refine ev_nf rfl (ev_bind (specTV_ev t hr) ?_)
    cases ht : tv t with
    | false => exact ev_nt rfl (ev_some.2 (by simp))
    | true =>
      refine ev_nf rfl ?_
      rw [if_pos ⟨rfl, rfl⟩]
      obtain ⟨h3, h0⟩ := vh_len hh
      obtain ⟨⟨t3, t0⟩, g3, g0⟩ := tv_of ht
      have loop : ∀ (d i : Nat) (acc : List Int), i + d = 3 → acc.length = i → (∀ n ∈ acc, 0 ≤ n) → Ev (fun k => spec_TradeDo.l0 k h t acc (i : Int)) (match mvS (h.drop i) (t.f0.drop i) (t.f1.drop i) with
          | some l => if vh 40 (acc ++ l) = true then (acc ++ l, true) else ([], false)
          | none => ([], false)) := by
        intro d
        induction d with
        | zero =>
          intro i acc hi ha hn
          refine ev_succ (fun k => spec_TradeDo.l0_eq k _ _ _ _) (ev_df (by omega) (ev_bind (ev_succ (fun k => spec_HeapsValid.f_eq k _) (ev_bind (l8List_ev acc 40 (by omega)) (ev_some.2 rfl))) ?_))
          rw [List.drop_eq_nil_of_le (show h.length ≤ i by omega)]
          simp only [mvS, List.append_nil]
          cases vh 40 acc with
          | false => exact ev_nt rfl (ev_some.2 (by simp))
          | true => exact ev_nf rfl (ev_some.2 (by simp))
        | succ d ih =>
          intro i acc hi ha hn
          have l1 : i < h.length := by omega
          have l2 : i < t.f0.length := by omega
          have l3 : i < t.f1.length := by omega
          have b1 := h0 h[i] (List.getElem_mem l1)
          have b2 := t0 t.f0[i] (List.getElem_mem l2)
          have b3 := g0 t.f1[i] (List.getElem_mem l3)
          refine ev_succ (fun k => spec_TradeDo.l0_eq k _ _ _ _) (ev_dt (by omega) (ev_gd (by omega) (ev_gd (by omega) ?_)))
          rw [get_nat l1, get_nat l2, get_nat l3, List.drop_eq_getElem_cons l1, List.drop_eq_getElem_cons l2, List.drop_eq_getElem_cons l3, mvS]
          rw [w64 (x := h[i] - t.f0[i]) (by omega) (by omega), w64 (x := h[i] - t.f0[i] + t.f1[i]) (by omega) (by omega)]
          by_cases c1 : h[i] < t.f0[i]
          · rw [if_pos c1]; exact ev_dt c1 (ev_some.2 rfl)
          · rw [if_neg c1]
            refine ev_df c1 (ev_gd (by omega) (ev_gd (by omega) (ev_gd (by omega) (ev_gd (by rw [ha, limE]; simp; omega) ?_))))
            rw [w_succ (by omega)]
            have := ih (i + 1) (acc ++ [h[i] - t.f0[i] + t.f1[i]]) (by omega) (by simp [ha]) (fun n hnn => by
              rcases List.mem_append.1 hnn with q | q
              · exact hn n q
              · simp at q; subst q; omega)
            refine ev_eq this ?_
            cases mvS (h.drop (i + 1)) (t.f0.drop (i + 1)) (t.f1.drop (i + 1)) with
            | none => rfl
            | some l => simp
      have := loop 3 0 [] (by omega) rfl (by simp)
      refine ev_eq this ?_
      unfold mvV
      rw [mvL_S]
      simp only [List.drop_zero, List.nil_append]
      cases hs : mvS h t.f0 t.f1 with
      | none => rfl
      | some l =>
        obtain ⟨e1, e2⟩ := mvS_ok hs (fun n hn => (g0 n hn).1)
        simp only [Option.bind_some]
        rw [vh_mk (by omega) e2]
        split <;> rfl
/-! Heaps that are reached: plain. -/
def succs (ts : List Trade) (h : List Int) : List (List Int) := ts.filterMap fun t => if (mvV h t).2 = true then some (mvV h t).1 else none
def addL : List (List Int) → List (List Int) → List (List Int)
  | [], out => out
  | x :: r, out => addL r (if x ∈ out then out else out ++ [x])
def reachL (ts : List Trade) : Nat → Nat → List (List Int) → Option (List (List Int))
  | 0, _, _ => none
  | f + 1, i, out => match out[i]? with
    | some h => if (addL (succs ts h) out).length > 400 then none else reachL ts f (i + 1) (addL (succs ts h) out)
    | none => some out
def reachV (ts : List Trade) (h : List Int) : List (List Int) := if vh 40 h = true ∧ tsV ts = true then (reachL ts 402 0 [h]).getD [] else []
theorem addL_pre : ∀ (xs out : List (List Int)), ∃ r, addL xs out = out ++ r
  | [], out => ⟨[], by simp [addL]⟩
  | x :: r, out => by
    obtain ⟨s, hs⟩ := addL_pre r (if x ∈ out then out else out ++ [x])
    unfold addL
    rw [hs]
    split
    · exact ⟨s, rfl⟩
    · exact ⟨x :: s, by simp⟩
theorem addL_len (xs out : List (List Int)) : out.length ≤ (addL xs out).length := by
  obtain ⟨r, hr⟩ := addL_pre xs out
  rw [hr, List.length_append]; omega
theorem addL_mem : ∀ (xs out : List (List Int)) (y : List Int), y ∈ addL xs out ↔ y ∈ out ∨ y ∈ xs
  | [], out, y => by simp [addL]
  | x :: r, out, y => by
    unfold addL
    rw [addL_mem r _ y]
    by_cases h : x ∈ out
    · rw [if_pos h]
      simp only [List.mem_cons]
      constructor
      · rintro (q | q)
        · exact .inl q
        · exact .inr (.inr q)
      · rintro (q | rfl | q)
        · exact .inl q
        · exact .inl h
        · exact .inr q
    · rw [if_neg h]
      simp only [List.mem_append, List.mem_cons, List.not_mem_nil, or_false]
      constructor
      · rintro ((q | q) | q)
        · exact .inl q
        · exact .inr (.inl q)
        · exact .inr (.inr q)
      · rintro (q | q | q)
        · exact .inl (.inl q)
        · exact .inl (.inr q)
        · exact .inr q
theorem addL_nodup : ∀ (xs out : List (List Int)), out.Nodup → (addL xs out).Nodup
  | [], out, h => by simpa [addL] using h
  | x :: r, out, h => by
    unfold addL
    apply addL_nodup
    split
    · exact h
    · rename_i hx
      rw [List.nodup_append]
      exact ⟨h, by simp, fun a ha b hb e => by simp at hb; subst hb; subst e; exact hx ha⟩
theorem nodup_sub : ∀ (l m : List (List Int)), l.Nodup → (∀ x ∈ l, x ∈ m) → l.length ≤ m.length
  | [], m, _, _ => by simp
  | x :: l, m, hn, hs => by
    rw [List.nodup_cons] at hn
    have hx := hs x (by simp)
    have := nodup_sub l (m.erase x) hn.2 (fun y hy => (List.mem_erase_of_ne (fun e => hn.1 (by rw [← e]; exact hy))).2 (hs y (by simp [hy])))
    have h2 := List.length_erase_of_mem hx
    have h3 : 0 < m.length := List.length_pos_of_mem hx
    simp only [List.length_cons]
    omega
/-- What has been found: 'i' heaps have been gone on from. -/
structure RInv (ts : List Trade) (h : List Int) (i : Nat) (out : List (List Int)) : Prop where
  first : out[0]? = some h
  nodup : out.Nodup
  valid : ∀ x ∈ out, vh 40 x = true
  closed : ∀ j x, j < i → out[j]? = some x → ∀ y ∈ succs ts x, y ∈ out
  from' : ∀ j x, 0 < j → out[j]? = some x → ∃ j' x', j' < j ∧ out[j']? = some x' ∧ x ∈ succs ts x'
  le : i ≤ out.length
theorem succs_valid {ts : List Trade} (ht : ∀ t ∈ ts, tv t = true) {x : List Int} (hx : vh 40 x = true) {y : List Int} (hy : y ∈ succs ts x) : vh 40 y = true := by
  unfold succs at hy
  obtain ⟨t, h1, h2⟩ := List.mem_filterMap.1 hy
  split at h2
  · rename_i hd
    cases h2
    exact mvV_ok hx (ht t h1) hd
  · cases h2
theorem addL_from {ts : List Trade} (xs : List (List Int)) : ∀ (out : List (List Int)) (j : Nat) (y : List Int), (addL xs out)[j]? = some y → out.length ≤ j → y ∈ xs := by
  induction xs with
  | nil =>
    intro out j y h hj
    simp only [addL] at h
    rw [List.getElem?_eq_none hj] at h; cases h
  | cons x r ih =>
    intro out j y h hj
    unfold addL at h
    by_cases hx : x ∈ out
    · rw [if_pos hx] at h; exact List.mem_cons_of_mem _ (ih _ j y h hj)
    · rw [if_neg hx] at h
      by_cases hj2 : out.length = j
      · obtain ⟨s, hs⟩ := addL_pre r (out ++ [x])
        rw [hs, List.append_assoc, ← hj2, List.getElem?_append_right (Nat.le_refl _)] at h
        simp at h
        simp [h]
      · exact List.mem_cons_of_mem _ (ih _ j y h (by simp; omega))
theorem RInv.step {ts : List Trade} (ht : ∀ t ∈ ts, tv t = true) {h : List Int} {i : Nat} {out : List (List Int)} (hI : RInv ts h i out) {x : List Int} (hx : out[i]? = some x) : RInv ts h (i + 1) (addL (succs ts x) out) := by
  obtain ⟨r, hr⟩ := addL_pre (succs ts x) out
  have old : ∀ j y, out[j]? = some y → (addL (succs ts x) out)[j]? = some y := fun j y hy => by
    rw [hr, List.getElem?_append_left (List.getElem?_eq_some_iff.1 hy).1]; exact hy
  have hil : i < out.length := (List.getElem?_eq_some_iff.1 hx).1
  refine ⟨old 0 h hI.first, addL_nodup _ _ hI.nodup, fun y hy => ?_, fun j y hj hy z hz => ?_, fun j y hj hy => ?_, ?_⟩
  · rcases (addL_mem _ _ _).1 hy with q | q
    · exact hI.valid y q
    · exact succs_valid ht (hI.valid x (List.mem_of_getElem? hx)) q
  · rw [addL_mem]
    by_cases e : j = i
    · subst e
      have : y = x := by rw [old j x hx] at hy; exact (Option.some.inj hy).symm
      subst this
      exact .inr hz
    · have hjl : j < out.length := by omega
      have : out[j]? = some y := by rw [hr, List.getElem?_append_left hjl] at hy; exact hy
      exact .inl (hI.closed j y (by omega) this z hz)
  · by_cases hjl : j < out.length
    · have : out[j]? = some y := by rw [hr, List.getElem?_append_left hjl] at hy; exact hy
      obtain ⟨j', x', h1, h2, h3⟩ := hI.from' j y hj this
      exact ⟨j', x', h1, old _ _ h2, h3⟩
    · exact ⟨i, x, by omega, old _ _ hx, addL_from (ts := ts) _ _ _ _ hy (by omega)⟩
  · have := addL_len (succs ts x) out; omega
theorem reachL_spec {ts : List Trade} (ht : ∀ t ∈ ts, tv t = true) {h : List Int} : ∀ (f i : Nat) (out L : List (List Int)), RInv ts h i out → out.length ≤ 400 → reachL ts f i out = some L → RInv ts h L.length L ∧ L.length ≤ 400
  | 0, _, _, _, _, _, e => by simp [reachL] at e
  | f + 1, i, out, L, hI, hl, e => by
    unfold reachL at e
    split at e
    · rename_i x hx
      split at e
      · cases e
      · rename_i h4
        exact reachL_spec ht f (i + 1) _ L (hI.step ht hx) (by omega) e
    · rename_i hx
      cases e
      have : out.length ≤ i := List.getElem?_eq_none_iff.1 hx
      have hi : i = out.length := by have := hI.le; omega
      subst hi
      exact ⟨hI, hl⟩
/-- What is said of what is reached. -/
structure Reach (ts : List Trade) (h : List Int) (L : List (List Int)) : Prop where
  first : L[0]? = some h
  nodup : L.Nodup
  valid : ∀ x ∈ L, vh 40 x = true
  closed : ∀ x ∈ L, ∀ y ∈ succs ts x, y ∈ L
  from' : ∀ j x, 0 < j → L[j]? = some x → ∃ j' x', j' < j ∧ L[j']? = some x' ∧ x ∈ succs ts x'
  len : L.length ≤ 400
  trades : ∀ t ∈ ts, tv t = true
theorem rinv_one {ts : List Trade} {h : List Int} (hh : vh 40 h = true) : RInv ts h 0 [h] :=
  ⟨rfl, by simp, fun x hx => by simp at hx; subst hx; exact hh, fun j x hj => by omega, fun j x hj hx => by
    have := (List.getElem?_eq_some_iff.1 hx).1; simp at this; omega, by simp⟩
theorem reach_of {ts : List Trade} {h : List Int} (hne : reachV ts h ≠ []) : Reach ts h (reachV ts h) ∧ vh 40 h = true ∧ tsV ts = true := by
  unfold reachV at hne ⊢
  split at hne
  · rename_i hv
    rw [if_pos hv]
    have ht := (tsV_of hv.2).1
    cases hr : reachL ts 402 0 [h] with
    | none => rw [hr] at hne; simp at hne
    | some L =>
      obtain ⟨h1, h2⟩ := reachL_spec ht 402 0 [h] L (rinv_one hv.1) (by simp) hr
      refine ⟨⟨h1.first, h1.nodup, h1.valid, fun x hx => ?_, h1.from', h2, ht⟩, hv.1, hv.2⟩
      obtain ⟨j, hj⟩ := List.getElem?_of_mem hx
      exact h1.closed j x (List.getElem?_eq_some_iff.1 hj).1 hj
  · exact absurd rfl hne
/-- Where all that is reached lies in few heaps, it is told. -/
theorem reachL_some {ts : List Trade} {M : List (List Int)} (hc : ∀ x ∈ M, ∀ y ∈ succs ts x, y ∈ M) (hM : M.length ≤ 400) : ∀ (f i : Nat) (out : List (List Int)), out.Nodup → (∀ x ∈ out, x ∈ M) → i ≤ out.length → 401 < f + i → ∃ L, reachL ts f i out = some L ∧ (∀ x ∈ L, x ∈ M) ∧ ∃ r, L = out ++ r
  | 0, i, out, hn, hs, hi, hf => by have := nodup_sub out M hn hs; omega
  | f + 1, i, out, hn, hs, hi, hf => by
    have hl := nodup_sub out M hn hs
    unfold reachL
    split
    · rename_i x hx
      have hs2 : ∀ y ∈ addL (succs ts x) out, y ∈ M := fun y hy => by
        rcases (addL_mem _ _ _).1 hy with q | q
        · exact hs y q
        · exact hc x (hs x (List.mem_of_getElem? hx)) y q
      have hn2 := addL_nodup (succs ts x) out hn
      have hl2 := nodup_sub _ M hn2 hs2
      rw [if_neg (by omega)]
      have hal := addL_len (succs ts x) out
      have hil : i < out.length := (List.getElem?_eq_some_iff.1 hx).1
      obtain ⟨L, e1, e2, r, e3⟩ := reachL_some hc hM f (i + 1) _ hn2 hs2 (by omega) (by omega)
      obtain ⟨r2, e4⟩ := addL_pre (succs ts x) out
      exact ⟨L, e1, e2, r2 ++ r, by rw [e3, e4, List.append_assoc]⟩
    · exact ⟨out, rfl, hs, [], by simp⟩
/-! Heaps that are reached: both sides. -/
def keyT (x : List Int) : Int × Int × Int := (x.getD 0 0, x.getD 1 0, x.getD 2 0)
theorem mp_get_set (t : Ty) (k j : Int × Int × Int) (y : Den t) : ∀ M : List ((Int × Int × Int) × Den t), mpGet t k (mpSet t j y M) = if k = j then y else mpGet t k M
  | [] => by
    simp only [mpSet, mpGet]
  | e :: M => by
    simp only [mpSet]
    by_cases h : j = e.1
    · rw [if_pos h]
      simp only [mpGet]
      by_cases hk : k = j
      · rw [if_pos hk, if_pos hk]
      · rw [if_neg hk, if_neg hk, if_neg (fun e' => hk (e'.trans h.symm))]
    · rw [if_neg h]
      simp only [mpGet]
      by_cases hk : k = e.1
      · rw [if_pos hk, if_pos hk, if_neg (fun e' => h (e'.symm.trans hk))]
      · rw [if_neg hk, if_neg hk]; exact mp_get_set t k j y M
theorem three {x : List Int} (h : vh 40 x = true) : ∃ a b c, x = [a, b, c] ∧ 0 ≤ a ∧ a ≤ 40 ∧ 0 ≤ b ∧ b ≤ 40 ∧ 0 ≤ c ∧ c ≤ 40 := by
  obtain ⟨h3, h0⟩ := vh_len h
  match x, h3, h0 with
  | [a, b, c], _, h0 =>
    have ha := h0 a (by simp)
    have hb := h0 b (by simp)
    have hc := h0 c (by simp)
    exact ⟨a, b, c, rfl, ha.1, ha.2, hb.1, hb.2, hc.1, hc.2⟩
theorem keyT_inj {x y : List Int} (hx : vh 40 x = true) (hy : vh 40 y = true) (h : keyT x = keyT y) : x = y := by
  obtain ⟨a, b, c, rfl, _⟩ := three hx
  obtain ⟨d, e, f, rfl, _⟩ := three hy
  simp [keyT] at h
  obtain ⟨rfl, rfl, rfl⟩ := h
  rfl
def codeZ (x : List Int) : Int := (x.getD 0 0 * 41 + x.getD 1 0) * 41 + x.getD 2 0
theorem codeZ_in {x : List Int} (hx : vh 40 x = true) : 0 ≤ codeZ x ∧ codeZ x < 68921 := by
  obtain ⟨a, b, c, rfl, h⟩ := three hx
  simp [codeZ]
  omega
theorem codeZ_inj {x y : List Int} (hx : vh 40 x = true) (hy : vh 40 y = true) (h : codeZ x = codeZ y) : x = y := by
  obtain ⟨a, b, c, rfl, _⟩ := three hx
  obtain ⟨d, e, f, rfl, _⟩ := three hy
  simp [codeZ] at h
  have h1 : c = f := by omega
  have h2 : b = e := by omega
  have h3 : a = d := by omega
  rw [h1, h2, h3]
theorem l8Code_ev {x : List Int} (hx : vh 40 x = true) : Ev (fun k => spec_l8Code.f k x) (codeZ x) := by
  obtain ⟨a, b, c, rfl, h⟩ := three hx
  refine ev_succ (fun k => spec_l8Code.f_eq k _) (ev_gd (by simp) (ev_gd (by simp) (ev_gd (by simp) (ev_some.2 ?_))))
  show wr (wr (wr (wr (a * 41) + b) * 41) + c) = (a * 41 + b) * 41 + c
  rw [w64 (x := a * 41) (by omega) (by omega), w64 (x := a * 41 + b) (by omega) (by omega), w64 (x := (a * 41 + b) * 41) (by omega) (by omega), w64 (by omega) (by omega)]
theorem cloneI_ev (x : List Int) (h : x.length < lim) : Ev (fun k => slices_Clone_int_int.f k x) x := by
  have : (fun k => slices_Clone_int_int.f k x) = fun k => gate (decide (0 + x.length < lim)) (some x) := funext fun k => slices_Clone_int_int.f_eq k x
  rw [this]
  exact ev_gd (by omega) (ev_some.2 rfl)
theorem at_out {out : List (List Int)} {i : Nat} {x : List Int} (h : out[i]? = some x) : out.getD (i : Int).toNat ([] : List Int) = x := by
  rw [Int.toNat_natCast, List.getD_eq_getElem?_getD, h]; rfl
theorem at_tr {ts : List Trade} {i : Nat} (h : i < ts.length) : ts.getD (i : Int).toNat (⟨([] : List Int), ([] : List Int)⟩ : Trade) = ts[i] := by
  rw [Int.toNat_natCast, List.getD_eq_getElem?_getD, List.getElem?_eq_getElem h]; rfl
theorem succs_cons (t : Trade) (ts : List Trade) (x : List Int) : succs (t :: ts) x = if (mvV x t).2 = true then (mvV x t).1 :: succs ts x else succs ts x := by
  unfold succs
  rw [List.filterMap_cons]
  by_cases h : (mvV x t).2 = true
  · rw [if_pos h, if_pos h]
  · rw [if_neg h, if_neg h]
theorem app_at {out : List (List Int)} {i : Nat} {x : List Int} (y : List Int) (h : out[i]? = some x) : (out ++ [y])[i]? = some x := by
  rw [List.getElem?_append_left (List.getElem?_eq_some_iff.1 h).1]; exact h
def MOk (M : List ((Int × Int × Int) × Bool)) (out : List (List Int)) : Prop := ∀ x, vh 40 x = true → (mpGet .bool (keyT x) M = true ↔ x ∈ out)
theorem MOk.add {M : List ((Int × Int × Int) × Bool)} {out : List (List Int)} (h : MOk M out) {y : List Int} (hy : vh 40 y = true) : MOk (mpSet .bool (keyT y) true M) (out ++ [y]) := by
  intro x hx
  rw [mp_get_set]
  by_cases e : keyT x = keyT y
  · rw [if_pos e, keyT_inj hx hy e]; simp
  · rw [if_neg e, h x hx]
    have : x ≠ y := fun e' => e (by rw [e'])
    simp [this]
theorem mv_len {x : List Int} {t : Trade} (hx : vh 40 x = true) (ht : tv t = true) (hd : (mvV x t).2 = true) : (mvV x t).1.length = 3 := (vh_len (mvV_ok hx ht hd)).1
theorem apart_one {xs : List (List Int)} {y : List Int} (h : y ∉ xs) : apartR xs [y] = true := by
  unfold apartR
  simp only [List.all_cons, List.all_nil, Bool.and_true, List.all_eq_true]
  intro x hx
  have : x ≠ y := fun e => h (e ▸ hx)
  simp [this]
theorem implReach_ev (h : List Int) (ts : List Trade) (hl : h.length ≤ 1048576) (h2 : ts.length ≤ 1048576) (hr : ∀ t ∈ ts, TrOk t) : Ev (fun k => impl_HeapsReached.f k h ts) (reachV ts h) := by
  refine ev_succ (fun k => impl_HeapsReached.f_eq k _ _) (ev_bind (ev_succ (fun k => impl_HeapsValid.f_eq k _) (ev_bind (thingsOk_ev h 40 (by omega)) (ev_some.2 rfl))) ?_)
  unfold reachV
  cases hh : vh 40 h with
  | false => exact ev_nt rfl (ev_some.2 (by simp))
  | true =>
    refine ev_nf rfl (ev_bind (implTsV_ev ts h2 hr) ?_)
    cases ht : tsV ts with
    | false => exact ev_nt rfl (ev_some.2 (by simp))
    | true =>
      rw [if_pos ⟨rfl, rfl⟩]
      have hts := (tsV_of ht).1
      have h4 := (tsV_of ht).2
      have inner : ∀ (d j i : Nat) (out : List (List Int)) (M : List ((Int × Int × Int) × Bool)) (x : List Int), j + d = ts.length → out[i]? = some x → vh 40 x = true → MOk M out → out.length ≤ 400 → ∀ r,
          ((addL (succs (ts.drop j) x) out).length ≤ 400 → ∀ M', MOk M' (addL (succs (ts.drop j) x) out) → Ev (fun k => impl_HeapsReached.l0 k ts (addL (succs (ts.drop j) x) out) M' (wr ((i : Int) + 1))) r) →
          ((addL (succs (ts.drop j) x) out).length > 400 → r = []) → Ev (fun k => impl_HeapsReached.l1 k ts out M (i : Int) ts (ts.length : Int) (j : Int)) r := by
        intro d
        induction d with
        | zero =>
          intro j i out M x hj hx hv hM ho r k1 k2
          refine ev_succ (fun k => impl_HeapsReached.l1_eq k _ _ _ _ _ _ _) (ev_df (by omega) ?_)
          rw [List.drop_eq_nil_of_le (show ts.length ≤ j by omega)] at k1
          exact k1 ho M hM
        | succ d ih =>
          intro j i out M x hj hx hv hM ho r k1 k2
          have hlt : j < ts.length := by omega
          have hil := (List.getElem?_eq_some_iff.1 hx).1
          have htj := hts ts[j] (List.getElem_mem hlt)
          rw [List.drop_eq_getElem_cons hlt, succs_cons] at k1 k2
          refine ev_succ (fun k => impl_HeapsReached.l1_eq k _ _ _ _ _ _ _) (ev_dt (by omega) (ev_gd (by omega) (ev_gd (by omega) ?_)))
          rw [at_out hx, at_tr hlt, w_succ (i := j) (by omega)]
          refine ev_bind (traded_ev hv htj) ?_
          cases hd : (mvV x ts[j]).2 with
          | false =>
            rw [hd] at k1 k2
            exact ev_nt rfl (ih (j + 1) i out M x (by omega) hx hv hM ho r k1 k2)
          | true =>
            rw [hd] at k1 k2
            simp only [if_true] at k1 k2
            have hy := mvV_ok hv htj hd
            have hy3 := mv_len hv htj hd
            unfold addL at k1 k2
            refine ev_nf rfl (ev_gd (by omega) ?_)
            by_cases hm : (mvV x ts[j]).1 ∈ out
            · rw [if_pos hm] at k1 k2
              exact ev_bt ((hM _ hy).2 hm) (ih (j + 1) i out M x (by omega) hx hv hM ho r k1 k2)
            · rw [if_neg hm] at k1 k2
              refine ev_bf (by cases hb : mpGet .bool (keyT (mvV x ts[j]).1) M with | false => exact hb | true => exact absurd ((hM _ hy).1 hb) hm) (ev_gd (by omega) (ev_gate (by rw [Bool.and_eq_true]; exact ⟨decide_eq_true (by rw [limE]; simp; omega), apart_one hm⟩) ?_))
              by_cases h400 : ((out ++ [(mvV x ts[j]).1]).length : Int) > 400
              · have := addL_len (succs (ts.drop (j + 1)) x) (out ++ [(mvV x ts[j]).1])
                exact ev_dt h400 (ev_some.2 (k2 (by omega)).symm)
              · refine ev_df h400 ?_
                exact ih (j + 1) i _ _ x (by omega) (app_at _ hx) hv (hM.add hy) (by omega) r k1 k2
      have outer : ∀ (f i : Nat) (out : List (List Int)) (M : List ((Int × Int × Int) × Bool)), out.length ≤ 400 → out ≠ [] → (∀ x ∈ out, vh 40 x = true) → MOk M out → i ≤ out.length → 401 < f + i → Ev (fun k => impl_HeapsReached.l0 k ts out M (i : Int)) ((reachL ts f i out).getD []) := by
        intro f
        induction f with
        | zero => intro i out M ho _ _ _ hi hf; omega
        | succ f ih =>
          intro i out M ho hne hv hM hi hf
          unfold reachL
          refine ev_succ (fun k => impl_HeapsReached.l0_eq k _ _ _ _) ?_
          cases hx : out[i]? with
          | none =>
            have := List.getElem?_eq_none_iff.1 hx
            exact ev_df (by omega) (ev_some.2 rfl)
          | some x =>
            have hil := (List.getElem?_eq_some_iff.1 hx).1
            have hvx := hv x (List.mem_of_getElem? hx)
            refine ev_dt (by omega) (inner ts.length 0 i out M x (by omega) hx hvx hM ho _ ?_ ?_)
            · intro h400 M' hM'
              simp only [List.drop_zero] at h400 hM' ⊢
              rw [if_neg (by omega), w_succ (by omega)]
              have hal := addL_len (succs ts x) out
              refine ih (i + 1) _ M' h400 (fun e => by rw [e] at hal; simp at hal; exact hne hal) (fun y hy => ?_) hM' (by omega) (by omega)
              rcases (addL_mem _ _ _).1 hy with q | q
              · exact hv y q
              · exact succs_valid hts hvx q
            · intro h400
              simp only [List.drop_zero] at h400
              show (if (addL (succs ts x) out).length > 400 then none else reachL ts f (i + 1) (addL (succs ts x) out)).getD [] = []
              rw [if_pos h400]
              rfl
      refine ev_nf rfl (ev_bind (cloneI_ev h (by rw [limE]; omega)) (ev_gd (by rw [(vh_len hh).1]; omega) ?_))
      refine outer 402 0 [h] _ (by simp) (by simp) (fun x hx => by simp at hx; subst hx; exact hh) ?_ (by simp) (by omega)
      intro x hx
      show mpGet .bool (keyT x) (mpSet .bool (keyT h) true []) = true ↔ x ∈ [h]
      rw [mp_get_set]
      by_cases e : keyT x = keyT h
      · rw [if_pos e, keyT_inj hx hh e]; simp
      · rw [if_neg e]
        have : x ≠ h := fun e' => e (by rw [e'])
        simp [this, mpGet, zeroD]
def SOk (S : List Bool) (out : List (List Int)) : Prop := S.length = 68921 ∧ ∀ x, vh 40 x = true → (S.getD (codeZ x).toNat false = true ↔ x ∈ out)
theorem SOk.add {S : List Bool} {out : List (List Int)} (h : SOk S out) {y : List Int} (hy : vh 40 y = true) : SOk (S.set (codeZ y).toNat true) (out ++ [y]) := by
  refine ⟨by simp [h.1], fun x hx => ?_⟩
  have cx := codeZ_in hx
  have cy := codeZ_in hy
  have hlen := h.1
  rw [List.getD_eq_getElem?_getD, List.getElem?_set]
  by_cases e : (codeZ y).toNat = (codeZ x).toNat
  · rw [if_pos e, if_pos (by omega), codeZ_inj hx hy (by omega)]; simp
  · have := h.2 x hx
    rw [List.getD_eq_getElem?_getD] at this
    rw [if_neg e, this]
    have : x ≠ y := fun e' => e (by rw [e'])
    simp [this]
theorem tr_ok {t : Trade} (h : tv t = true) : TrOk t := by
  obtain ⟨⟨h1, _⟩, h2, _⟩ := tv_of h
  exact ⟨by unfold RowOk; omega, by unfold RowOk; omega⟩
theorem specReach_ev (h : List Int) (ts : List Trade) (hl : h.length ≤ 1048576) (h2 : ts.length ≤ 1048576) (hr : ∀ t ∈ ts, TrOk t) : Ev (fun k => spec_HeapsReached.f k h ts) (reachV ts h) := by
  refine ev_succ (fun k => spec_HeapsReached.f_eq k _ _) (ev_bind (ev_succ (fun k => spec_HeapsValid.f_eq k _) (ev_bind (l8List_ev h 40 (by omega)) (ev_some.2 rfl))) ?_)
  unfold reachV
  cases hh : vh 40 h with
  | false => exact ev_nt rfl (ev_some.2 (by simp))
  | true =>
    refine ev_nf rfl (ev_bind (specTsV_ev ts h2 hr) ?_)
    cases ht : tsV ts with
    | false => exact ev_nt rfl (ev_some.2 (by simp))
    | true =>
      rw [if_pos ⟨rfl, rfl⟩]
      have hts := (tsV_of ht).1
      have h4 := (tsV_of ht).2
      have inner : ∀ (d j i : Nat) (out : List (List Int)) (S : List Bool) (x : List Int), j + d = ts.length → out[i]? = some x → vh 40 x = true → SOk S out → out.length ≤ 400 + j → ∀ r,
          (∀ S', SOk S' (addL (succs (ts.drop j) x) out) → Ev (fun k => br (decide (((addL (succs (ts.drop j) x) out).length : Int) > 400)) (some ([] : List (List Int))) (spec_HeapsReached.l0 k ts (addL (succs (ts.drop j) x) out) S' (wr ((i : Int) + 1)))) r) →
          Ev (fun k => spec_HeapsReached.l1 k ts out S (i : Int) (j : Int)) r := by
        intro d
        induction d with
        | zero =>
          intro j i out S x hj hx hv hS ho r k1
          refine ev_succ (fun k => spec_HeapsReached.l1_eq k _ _ _ _ _) (ev_df (by omega) ?_)
          rw [List.drop_eq_nil_of_le (show ts.length ≤ j by omega)] at k1
          exact k1 S hS
        | succ d ih =>
          intro j i out S x hj hx hv hS ho r k1
          have hlt : j < ts.length := by omega
          have hil := (List.getElem?_eq_some_iff.1 hx).1
          have htj := hts ts[j] (List.getElem_mem hlt)
          rw [List.drop_eq_getElem_cons hlt, succs_cons] at k1
          refine ev_succ (fun k => spec_HeapsReached.l1_eq k _ _ _ _ _) (ev_dt (by omega) (ev_gd (by omega) (ev_gd (by omega) ?_)))
          rw [at_out hx, at_tr hlt, w_succ (i := j) (by omega)]
          have hdo := sDoT_ev x ts[j] (by rw [(vh_len hv).1]; omega) (tr_ok htj)
          rw [if_pos ⟨hv, htj⟩] at hdo
          refine ev_bind hdo ?_
          cases hd : (mvV x ts[j]).2 with
          | false =>
            rw [hd] at k1
            exact ev_bf rfl (ih (j + 1) i out S x (by omega) hx hv hS (by omega) r k1)
          | true =>
            rw [hd] at k1
            simp only [if_true] at k1
            have hy := mvV_ok hv htj hd
            have hc := codeZ_in hy
            have hS1 := hS.1
            unfold addL at k1
            refine ev_bt rfl (ev_bind (l8Code_ev hy) (ev_gd (by omega) ?_))
            by_cases hm : (mvV x ts[j]).1 ∈ out
            · rw [if_pos hm] at k1
              exact ev_nf ((hS.2 _ hy).2 hm) (ih (j + 1) i out S x (by omega) hx hv hS (by omega) r k1)
            · rw [if_neg hm] at k1
              refine ev_nt (by cases hb : S.getD (codeZ (mvV x ts[j]).1).toNat false with | false => rfl | true => exact absurd ((hS.2 _ hy).1 hb) hm) ?_
              refine ev_succ (fun k => spec_HeapsReached.j0_eq k _ _ _ _ _ _) (ev_bind (l8Code_ev hy) (ev_gd (by omega) (ev_gd (by omega) (ev_gd (by rw [limE]; simp; omega) ?_))))
              rw [w_succ (i := j) (by omega)]
              exact ih (j + 1) i _ _ x (by omega) (app_at _ hx) hv (hS.add hy) (by simp; omega) r k1
      have outer : ∀ (f i : Nat) (out : List (List Int)) (S : List Bool), out.length ≤ 400 → (∀ x ∈ out, vh 40 x = true) → SOk S out → i ≤ out.length → 401 < f + i → Ev (fun k => spec_HeapsReached.l0 k ts out S (i : Int)) ((reachL ts f i out).getD []) := by
        intro f
        induction f with
        | zero => intro i out S ho _ _ hi hf; omega
        | succ f ih =>
          intro i out S ho hv hS hi hf
          unfold reachL
          refine ev_succ (fun k => spec_HeapsReached.l0_eq k _ _ _ _) ?_
          cases hx : out[i]? with
          | none =>
            have := List.getElem?_eq_none_iff.1 hx
            exact ev_df (by omega) (ev_some.2 rfl)
          | some x =>
            have hil := (List.getElem?_eq_some_iff.1 hx).1
            have hvx := hv x (List.mem_of_getElem? hx)
            refine ev_dt (by omega) (inner ts.length 0 i out S x (by omega) hx hvx hS (by omega) _ ?_)
            intro S' hS'
            simp only [List.drop_zero] at hS' ⊢
            by_cases h400 : (addL (succs ts x) out).length > 400
            · rw [if_pos h400]
              exact ev_dt (by omega) (ev_some.2 rfl)
            · rw [if_neg h400, w_succ (by omega)]
              have hal := addL_len (succs ts x) out
              refine ev_df (by omega) (ih (i + 1) _ S' (by omega) (fun y hy => ?_) hS' (by omega) (by omega))
              rcases (addL_mem _ _ _).1 hy with q | q
              · exact hv y q
              · exact succs_valid hts hvx q
      have hc := codeZ_in hh
      refine ev_nf rfl (ev_gd (by rw [limE]; decide) (ev_gd (by rw [limE]; simp; omega) (ev_gd (by rw [limE]; simp) (ev_bind (l8Code_ev hh) (ev_gd (by rw [List.length_replicate]; omega) (ev_gd (by rw [List.length_replicate]; omega) ?_))))))
      refine outer 402 0 [h] _ (by simp) (fun x hx => by simp at hx; subst hx; exact hh) ?_ (by simp) (by omega)
      have hz : SOk (List.replicate (68921 : Int).toNat false) [] := ⟨by rw [List.length_replicate]; rfl, fun x hx => by
        have := codeZ_in hx
        rw [List.getD_eq_getElem?_getD, List.getElem?_replicate]
        split <;> simp⟩
      exact hz.add hh
/-! What can be done. -/
def mayL (h : List Int) : List Trade → Int → List Int
  | [], _ => []
  | t :: ts, i => if (mvV h t).2 = true then i :: mayL h ts (i + 1) else mayL h ts (i + 1)
def mayV (h : List Int) (ts : List Trade) : List Int := if vh 40 h = true ∧ tsV ts = true then mayL h ts 0 else []
theorem mayL_len (h : List Int) : ∀ (ts : List Trade) (i : Int), (mayL h ts i).length ≤ ts.length
  | [], _ => by simp [mayL]
  | t :: ts, i => by
    rw [mayL]
    have := mayL_len h ts (i + 1)
    split <;> simp <;> omega
theorem mayV_len (h : List Int) (ts : List Trade) : (mayV h ts).length ≤ 4 := by
  unfold mayV
  split
  · rename_i hc
    have := mayL_len h ts 0
    have := (tsV_of hc.2).2
    omega
  · simp
theorem iMay_ev (h : List Int) (ts : List Trade) (hl : h.length ≤ 1000000000) (h2 : ts.length ≤ 1048576) (hr : ∀ t ∈ ts, TrOk t) : Ev (fun k => impl_TradesMay.f k h ts) (mayV h ts) := by
  refine ev_succ (fun k => impl_TradesMay.f_eq k _ _) (ev_bind (ev_succ (fun k => impl_HeapsValid.f_eq k _) (ev_bind (thingsOk_ev h 40 (by omega)) (ev_some.2 rfl))) ?_)
  unfold mayV
  cases hh : vh 40 h with
  | false => exact ev_nt rfl (ev_some.2 (by simp))
  | true =>
    refine ev_nf rfl (ev_bind (implTsV_ev ts h2 hr) ?_)
    cases ht : tsV ts with
    | false => exact ev_nt rfl (ev_some.2 (by simp))
    | true =>
      refine ev_nf rfl ?_
      rw [if_pos ⟨rfl, rfl⟩]
      have hts := (tsV_of ht).1
      have h4 := (tsV_of ht).2
      have loop : ∀ (d i : Nat) (acc : List Int), i + d = ts.length → acc.length ≤ i → Ev (fun k => impl_TradesMay.l0 k h acc ts (ts.length : Int) (i : Int)) (acc ++ mayL h (ts.drop i) (i : Int)) := by
        intro d
        induction d with
        | zero =>
          intro i acc hi ha
          refine ev_succ (fun k => impl_TradesMay.l0_eq k _ _ _ _ _) (ev_df (by omega) (ev_some.2 ?_))
          rw [List.drop_eq_nil_of_le (by omega)]; simp [mayL]
        | succ d ih =>
          intro i acc hi ha
          have hlt : i < ts.length := by omega
          refine ev_succ (fun k => impl_TradesMay.l0_eq k _ _ _ _ _) (ev_dt (by omega) (ev_gd (by omega) ?_))
          rw [at_nat hlt, List.drop_eq_getElem_cons hlt, mayL, w_succ (by omega)]
          refine ev_bind (traded_ev hh (hts _ (List.getElem_mem hlt))) ?_
          cases hd : (mvV h ts[i]).2 with
          | false =>
            refine ev_bf rfl ?_
            rw [if_neg (by simp)]
            exact ih (i + 1) acc (by omega) (by omega)
          | true =>
            refine ev_bt rfl (ev_gd (by rw [limE]; simp; omega) ?_)
            rw [if_pos rfl]
            have := ih (i + 1) (acc ++ [(i : Int)]) (by omega) (by simp; omega)
            refine ev_eq this ?_
            rw [List.append_assoc]; rfl
      have := loop ts.length 0 [] (by omega) (by simp)
      simpa using this
theorem sMay_ev (h : List Int) (ts : List Trade) (hl : h.length ≤ 1000000000) (h2 : ts.length ≤ 1048576) (hr : ∀ t ∈ ts, TrOk t) : Ev (fun k => spec_TradesMay.f k h ts) (mayV h ts) := by
  refine ev_succ (fun k => spec_TradesMay.f_eq k _ _) ?_
  unfold mayV
  by_cases ht : tsV ts = true
  · have hts := (tsV_of ht).1
    have h4 := (tsV_of ht).2
    have loop : ∀ (d i : Nat) (acc : List Int), i + d = ts.length → acc.length ≤ i → Ev (fun k => spec_TradesMay.l0 k h ts acc (i : Int)) (acc ++ if vh 40 h = true then mayL h (ts.drop i) (i : Int) else []) := by
      intro d
      induction d with
      | zero =>
        intro i acc hi ha
        refine ev_succ (fun k => spec_TradesMay.l0_eq k _ _ _ _) (ev_df (by omega) (ev_some.2 ?_))
        rw [List.drop_eq_nil_of_le (by omega)]; simp [mayL]
      | succ d ih =>
        intro i acc hi ha
        have hlt : i < ts.length := by omega
        refine ev_succ (fun k => spec_TradesMay.l0_eq k _ _ _ _) (ev_dt (by omega) (ev_bind (specTsV_ev ts h2 hr) (ev_bt ht (ev_gd (by omega) ?_))))
        rw [at_nat hlt, List.drop_eq_getElem_cons hlt, mayL, w_succ (by omega)]
        refine ev_bind (sDoT_ev h ts[i] hl (hr _ (List.getElem_mem hlt))) ?_
        cases hh : vh 40 h with
        | false =>
          rw [if_neg (by simp)]
          refine ev_bf rfl ?_
          have := ih (i + 1) acc (by omega) (by omega)
          rw [hh] at this
          simpa using this
        | true =>
          rw [if_pos ⟨rfl, hts _ (List.getElem_mem hlt)⟩]
          cases hd : (mvV h ts[i]).2 with
          | false =>
            refine ev_bf rfl ?_
            have := ih (i + 1) acc (by omega) (by omega)
            rw [hh] at this
            simpa using this
          | true =>
            refine ev_bt rfl (ev_gd (by rw [limE]; simp; omega) ?_)
            have := ih (i + 1) (acc ++ [(i : Int)]) (by omega) (by simp; omega)
            rw [hh] at this
            simpa using this
    have := loop ts.length 0 [] (by omega) (by simp)
    refine ev_eq this ?_
    cases vh 40 h <;> simp [ht]
  · refine ev_succ (fun k => spec_TradesMay.l0_eq k _ _ _ _) ?_
    rw [if_neg (fun hc => ht hc.2)]
    by_cases h0 : (0 : Int) < (ts.length : Int)
    · exact ev_dt h0 (ev_bind (specTsV_ev ts h2 hr) (ev_bf (by simpa using ht) (ev_some.2 rfl)))
    · exact ev_df h0 (ev_some.2 rfl)
/-! The heaps where nothing more can be done. -/
theorem mayL_nil (h : List Int) : ∀ (ts : List Trade) (i : Int), mayL h ts i = [] ↔ succs ts h = []
  | [], i => by simp [mayL, succs]
  | t :: ts, i => by
    rw [mayL, succs_cons]
    by_cases hd : (mvV h t).2 = true
    · rw [if_pos hd, if_pos hd]; simp
    · rw [if_neg hd, if_neg hd]; exact mayL_nil h ts (i + 1)
theorem mayL_in (h : List Int) : ∀ (ts : List Trade) (i : Nat) (x : Int), x ∈ mayL h ts (i : Int) → ∃ j : Nat, x = (i : Int) + j ∧ ∃ hj : j < ts.length, (mvV h ts[j]).2 = true
  | [], i, x, hx => by simp [mayL] at hx
  | t :: ts, i, x, hx => by
    rw [mayL] at hx
    have rec_ : x ∈ mayL h ts ((i : Int) + 1) → ∃ j : Nat, x = (i : Int) + j ∧ ∃ hj : j < (t :: ts).length, (mvV h (t :: ts)[j]).2 = true := fun hx => by
      obtain ⟨j, e, hj, hd⟩ := mayL_in h ts (i + 1) x hx
      exact ⟨j + 1, by omega, by simp; omega, hd⟩
    split at hx
    · rename_i hd
      rcases List.mem_cons.1 hx with q | q
      · exact ⟨0, by omega, by simp, hd⟩
      · exact rec_ q
    · exact rec_ hx
theorem mayV_in {h : List Int} {ts : List Trade} {x : Int} (hx : x ∈ mayV h ts) : vh 40 h = true ∧ tsV ts = true ∧ (0 ≤ x ∧ x < (ts.length : Int)) := by
  unfold mayV at hx
  split at hx
  · rename_i hc
    obtain ⟨j, e, hj, _⟩ := mayL_in h ts 0 x hx
    exact ⟨hc.1, hc.2, by omega, by omega⟩
  · simp at hx
def lastL (ts : List Trade) (L : List (List Int)) : List (List Int) := L.filter fun x => (mayV x ts).isEmpty
def lastV (ts : List Trade) (h : List Int) : List (List Int) := lastL ts (reachV ts h)
theorem lastL_at (ts : List Trade) {L : List (List Int)} {i : Nat} (hi : i < L.length) : lastL ts (L.drop i) = if mayV L[i] ts = [] then L[i] :: lastL ts (L.drop (i + 1)) else lastL ts (L.drop (i + 1)) := by
  unfold lastL
  rw [List.drop_eq_getElem_cons hi, List.filter_cons]
  by_cases h : mayV L[i] ts = []
  · rw [if_pos h, h]; rfl
  · rw [if_neg h, if_neg (fun q => h (List.isEmpty_iff.1 q))]
theorem reachV_facts (ts : List Trade) (h : List Int) : (reachV ts h).length ≤ 400 ∧ ∀ x ∈ reachV ts h, x.length ≤ 1000000 := by
  by_cases hne : reachV ts h = []
  · rw [hne]; simp
  · obtain ⟨hR, _, _⟩ := reach_of hne
    exact ⟨hR.len, fun x hx => by have := (vh_len (hR.valid x hx)).1; omega⟩
theorem len0 {α : Type} {l : List α} : ((l.length : Int) = 0) ↔ l = [] := by
  rw [← List.length_eq_zero_iff]; omega
theorem reachV_nodup (ts : List Trade) (h : List Int) : (reachV ts h).Nodup := by
  by_cases hne : reachV ts h = []
  · rw [hne]; simp
  · exact (reach_of hne).1.nodup
theorem nodup_take {L : List (List Int)} (h : L.Nodup) {i : Nat} (hi : i < L.length) : L[i] ∉ L.take i := fun hm => by
  have hs : L = L.take i ++ (L[i] :: L.drop (i + 1)) := by rw [← List.drop_eq_getElem_cons hi, List.take_append_drop]
  rw [hs, List.nodup_append] at h
  exact h.2.2 _ hm _ (List.mem_cons_self ..) rfl
theorem implLast_ev (h : List Int) (ts : List Trade) (hl : h.length ≤ 1048576) (h2 : ts.length ≤ 1048576) (hr : ∀ t ∈ ts, TrOk t) : Ev (fun k => impl_HeapsLast.f k h ts) (lastV ts h) := by
  refine ev_succ (fun k => impl_HeapsLast.f_eq k _ _) (ev_bind (implReach_ev h ts hl h2 hr) ?_)
  obtain ⟨f1, f2⟩ := reachV_facts ts h
  have f3 := reachV_nodup ts h
  unfold lastV
  generalize reachV ts h = L at f1 f2 f3 ⊢
  have loop : ∀ (d i : Nat) (acc : List (List Int)), i + d = L.length → acc.length ≤ i → (∀ x ∈ acc, x ∈ L.take i) → Ev (fun k => impl_HeapsLast.l0 k ts acc L (L.length : Int) (i : Int)) (acc ++ lastL ts (L.drop i)) := by
    intro d
    induction d with
    | zero =>
      intro i acc hi ha hs
      refine ev_succ (fun k => impl_HeapsLast.l0_eq k _ _ _ _ _) (ev_df (by omega) (ev_some.2 ?_))
      rw [List.drop_eq_nil_of_le (by omega)]; simp [lastL]
    | succ d ih =>
      intro i acc hi ha hs
      have hil : i < L.length := by omega
      refine ev_succ (fun k => impl_HeapsLast.l0_eq k _ _ _ _ _) (ev_dt (by omega) (ev_gd (by omega) ?_))
      rw [at_out (List.getElem?_eq_getElem hil), w_succ (by omega), lastL_at ts hil]
      refine ev_bind (iMay_ev L[i] ts (by have := f2 _ (List.getElem_mem hil); omega) h2 hr) ?_
      by_cases e : mayV L[i] ts = []
      · rw [if_pos e]
        have hn : L[i] ∉ acc := fun hm => nodup_take f3 hil (hs _ hm)
        have := ih (i + 1) (acc ++ [L[i]]) (by omega) (by simp; omega) (fun x hx => by
          rw [← List.take_append_getElem hil]
          exact (List.mem_append.1 hx).elim (fun q => List.mem_append_left _ (hs x q)) (fun q => List.mem_append_right _ q))
        rw [List.append_assoc] at this
        exact ev_dt (len0.2 e) (ev_gate (by rw [Bool.and_eq_true]; exact ⟨decide_eq_true (by rw [limE]; simp; omega), apart_one hn⟩) this)
      · rw [if_neg e]
        exact ev_df (fun q => e (len0.1 q)) (ih (i + 1) acc (by omega) (by omega) (fun x hx => by rw [← List.take_append_getElem hil]; exact List.mem_append_left _ (hs x hx)))
  have := loop L.length 0 [] (by omega) (by simp) (by simp)
  simpa using this
theorem specLast_ev (h : List Int) (ts : List Trade) (hl : h.length ≤ 1048576) (h2 : ts.length ≤ 1048576) (hr : ∀ t ∈ ts, TrOk t) : Ev (fun k => spec_HeapsLast.f k h ts) (lastV ts h) := by
  refine ev_succ (fun k => spec_HeapsLast.f_eq k _ _) (ev_bind (specReach_ev h ts hl h2 hr) ?_)
  obtain ⟨f1, f2⟩ := reachV_facts ts h
  unfold lastV
  generalize reachV ts h = L at f1 f2 ⊢
  have loop : ∀ (d i : Nat) (acc : List (List Int)), i + d = L.length → acc.length ≤ i → Ev (fun k => spec_HeapsLast.l0 k ts acc L (i : Int)) (acc ++ lastL ts (L.drop i)) := by
    intro d
    induction d with
    | zero =>
      intro i acc hi ha
      refine ev_succ (fun k => spec_HeapsLast.l0_eq k _ _ _ _) (ev_df (by omega) (ev_some.2 ?_))
      rw [List.drop_eq_nil_of_le (by omega)]; simp [lastL]
    | succ d ih =>
      intro i acc hi ha
      have hil : i < L.length := by omega
      refine ev_succ (fun k => spec_HeapsLast.l0_eq k _ _ _ _) (ev_dt (by omega) (ev_gd (by omega) ?_))
      rw [at_out (List.getElem?_eq_getElem hil), w_succ (by omega), lastL_at ts hil]
      refine ev_bind (sMay_ev L[i] ts (by have := f2 _ (List.getElem_mem hil); omega) h2 hr) ?_
      by_cases e : mayV L[i] ts = []
      · rw [if_pos e]
        have := ih (i + 1) (acc ++ [L[i]]) (by omega) (by simp; omega)
        rw [List.append_assoc] at this
        exact ev_dt (len0.2 e) (ev_gd (by omega) (ev_gd (by rw [limE]; simp; omega) this))
      · rw [if_neg e]
        exact ev_df (fun q => e (len0.1 q)) (ih (i + 1) acc (by omega) (by omega))
  have := loop L.length 0 [] (by omega) (by simp)
  simpa using this
/-! Copies of rows of numbers, and rows held against each other. -/
theorem toIntS_l0 (l : List Int) (hl : l.length ≤ 1000000000) : ∀ d i : Nat, i + d = l.length → Ev (fun k => laws_toIntS.l0 k l (l.take i ++ List.replicate d 0) (i : Int)) l := by
  intro d
  induction d with
  | zero =>
    intro i hi
    refine ev_succ (fun k => laws_toIntS.l0_eq k _ _ _) (ev_df (by omega) (ev_some.2 ?_))
    rw [List.take_of_length_le (by omega)]; simp
  | succ d ih =>
    intro i hi
    have hlt : i < l.length := by omega
    have hlen : (l.take i ++ List.replicate (d + 1) (0 : Int)).length = l.length := by simp; omega
    refine ev_succ (fun k => laws_toIntS.l0_eq k _ _ _) (ev_dt (by omega) (ev_gd (by omega) (ev_gd (by rw [hlen]; omega) (ev_gd (by rw [hlen]; omega) ?_))))
    rw [get_nat hlt, w_succ (by omega), Int.toNat_natCast]
    have e : (l.take i ++ List.replicate (d + 1) (0 : Int)).set i l[i] = l.take (i + 1) ++ List.replicate d 0 := by
      rw [List.set_append_right _ _ (by simp; omega), List.length_take, Nat.min_eq_left (by omega), Nat.sub_self, List.replicate_succ, List.set_cons_zero, ← List.take_append_getElem hlt, List.append_assoc]
      rfl
    rw [e]
    exact ih (i + 1) (by omega)
theorem toIntS_ev (l : List Int) (hl : l.length ≤ 1000000000) : Ev (fun k => laws_toIntS.f k l) l := by
  refine ev_succ (fun k => laws_toIntS.f_eq k l) (ev_gd ⟨by omega, by rw [Int.toNat_natCast, limE]; omega, rfl⟩ ?_)
  have := toIntS_l0 l hl l.length 0 (by omega)
  rw [Int.toNat_natCast]
  simpa using this
theorem eqIntS_l0 (l : List Int) (hl : l.length < 9223372036854775807) : ∀ d i : Nat, i + d = l.length → Ev (fun k => laws_eqIntS.l0 k l l (i : Int)) true := by
  intro d
  induction d with
  | zero =>
    intro i hi
    exact ev_succ (fun k => laws_eqIntS.l0_eq k _ _ _) (ev_df (by omega) (ev_some.2 rfl))
  | succ d ih =>
    intro i hi
    refine ev_succ (fun k => laws_eqIntS.l0_eq k _ _ _) (ev_dt (by omega) (ev_gd (by omega) (ev_gd (by omega) (ev_nf (by simp) ?_))))
    rw [w_succ (by omega)]
    exact ih (i + 1) (by omega)
theorem eqIntS_self (l : List Int) (hl : l.length < 9223372036854775807) : Ev (fun k => laws_eqIntS.f k l l) true :=
  ev_succ (fun k => laws_eqIntS.f_eq k _ _) (ev_nf (by simp) (eqIntS_l0 l hl l.length 0 (by omega)))
/-! The size of a row of numbers. -/
theorem szIntS_ev (l : List Int) (n : Int) (h0 : 0 ≤ n) (h1 : n ≤ 1048576) (hl : l.length ≤ maxLen) : Ev (fun k => laws_szIntS.f k l n) (if (l.length : Int) ≤ n then n - l.length else -1) := by
  have hm : maxLen ≤ 9223372036854775807 := by decide
  refine ev_succ (fun k => laws_szIntS.f_eq k _ _) ?_
  rw [w64 (by omega) (by omega)]
  by_cases h : (l.length : Int) ≤ n
  · rw [if_pos h]; exact ev_df (by omega) (ev_some.2 rfl)
  · rw [if_neg h]; exact ev_dt (by omega) (ev_some.2 rfl)
theorem szII_ev (l : List Int) (n : Int) (h0 : 0 ≤ n) (h1 : n ≤ 1048576) (hl : l.length ≤ maxLen) : EvP (fun k => laws_szIntS.f k l n) (fun r => r ≤ 1048576 ∧ (0 ≤ r → RowOk l)) := by
  refine (szIntS_ev l n h0 h1 hl).p ?_
  unfold RowOk
  split <;> exact ⟨by omega, fun _ => by omega⟩
/-! Trades, copied, sized and held against each other. -/
theorem szTr_ev (t : Trade) (n : Int) (h0 : 0 ≤ n) (h1 : n ≤ 1048576) (hl : t.f0.length ≤ maxLen ∧ t.f1.length ≤ maxLen) : EvP (fun k => laws_szTrade.f k t n) (fun r => r ≤ 1048576 ∧ (0 ≤ r → TrOk t)) := by
  refine evp_succ (fun k => laws_szTrade.f_eq k _ _) (evp_bind (szII_ev _ n h0 h1 hl.1) (fun r ⟨r1, r2⟩ => evp_d (fun _ => evp_some ⟨by omega, fun h => by omega⟩) (fun hr => ?_)))
  refine evp_bind (szII_ev _ r (by omega) r1 hl.2) (fun q ⟨q1, q2⟩ => evp_d (fun _ => evp_some ⟨by omega, fun h => by omega⟩) (fun hq => evp_some ⟨q1, fun h => ⟨r2 (by omega), q2 (by omega)⟩⟩))
theorem szTradeS_ev (a : List Trade) (n : Int) (h0 : 0 ≤ n) (h1 : n ≤ 1048576) (hl : a.length ≤ maxLen) (hr : ∀ t ∈ a, t.f0.length ≤ maxLen ∧ t.f1.length ≤ maxLen) : EvP (fun k => laws_szTradeS.f k a n) (fun r => r ≤ 1048576 ∧ (0 ≤ r → a.length ≤ 1048576 ∧ ∀ t ∈ a, TrOk t)) := by
  have hm : maxLen ≤ 9223372036854775807 := by decide
  refine evp_succ (fun k => laws_szTradeS.f_eq k _ _) ?_
  rw [w64 (by omega) (by omega)]
  refine evp_d (fun h => evp_some ⟨by omega, fun h => by omega⟩) (fun hge => ?_)
  have loop : ∀ (d i : Nat) (n : Int), i + d = a.length → 0 ≤ n → n ≤ 1048576 → (∀ r ∈ a.take i, TrOk r) → EvP (fun k => laws_szTradeS.l0 k a n (i : Int)) (fun r => r ≤ 1048576 ∧ (0 ≤ r → a.length ≤ 1048576 ∧ ∀ r ∈ a, TrOk r)) := by
    intro d
    induction d with
    | zero =>
      intro i n hi h0 h1 hall
      rw [List.take_of_length_le (by omega)] at hall
      exact evp_succ (fun k => laws_szTradeS.l0_eq k _ _ _) (evp_d (fun h => by omega) (fun _ => evp_some ⟨h1, fun _ => ⟨by omega, hall⟩⟩))
    | succ d ih =>
      intro i n hi h0 h1 hall
      have hlt : i < a.length := by omega
      refine evp_succ (fun k => laws_szTradeS.l0_eq k _ _ _) (evp_d (fun _ => evp_gd (by omega) ?_) (fun h => by omega))
      rw [at_nat hlt, w_succ (by omega)]
      refine evp_bind (szTr_ev _ n h0 h1 (hr _ (List.getElem_mem hlt))) (fun r ⟨r1, r2⟩ => evp_d (fun h => evp_some ⟨by omega, fun h => by omega⟩) (fun hr => ih (i + 1) r (by omega) (by omega) r1 ?_))
      intro x hx
      rw [← List.take_append_getElem hlt] at hx
      rcases List.mem_append.1 hx with hx | hx
      · exact hall x hx
      · simp at hx; subst hx; exact r2 (by omega)
  exact loop a.length 0 _ (by omega) (by omega) (by omega) (by simp)
theorem toTr_ev (t : Trade) (h : TrOk t) : Ev (fun k => laws_toTrade.f k t) (t.f0, t.f1) :=
  ev_succ (fun k => laws_toTrade.f_eq k _) (ev_bind (toIntS_ev _ (by have := h.1; unfold RowOk at this; omega)) (ev_bind (toIntS_ev _ (by have := h.2; unfold RowOk at this; omega)) (ev_some.2 rfl)))
theorem toTradeS_ev (a : List Trade) (hl : a.length ≤ 1048576) (hr : ∀ r ∈ a, TrOk r) : Ev (fun k => laws_toTradeS.f k a) a := by
  have loop : ∀ d i : Nat, i + d = a.length → Ev (fun k => laws_toTradeS.l0 k a (a.take i ++ List.replicate d (⟨([] : List Int), ([] : List Int)⟩ : Trade)) (i : Int)) a := by
    intro d
    induction d with
    | zero =>
      intro i hi
      refine ev_succ (fun k => laws_toTradeS.l0_eq k _ _ _) (ev_df (by omega) (ev_some.2 ?_))
      rw [List.take_of_length_le (by omega)]; simp
    | succ d ih =>
      intro i hi
      have hlt : i < a.length := by omega
      have hlen := fill_len (z := (⟨([] : List Int), ([] : List Int)⟩ : Trade)) hi
      refine ev_succ (fun k => laws_toTradeS.l0_eq k _ _ _) (ev_dt (by omega) (ev_gd (by omega) ?_))
      rw [at_nat hlt]
      refine ev_bind (toTr_ev _ (hr _ (List.getElem_mem hlt))) (ev_gd (by rw [hlen]; omega) (ev_gd (by rw [hlen]; omega) ?_))
      rw [show (⟨(a[i].f0, a[i].f1).1, (a[i].f0, a[i].f1).2⟩ : Trade) = a[i] from rfl, fill_step hi hlt, w_succ (by omega)]
      exact ih (i + 1) (by omega)
  refine ev_succ (fun k => laws_toTradeS.f_eq k a) (ev_gd ⟨by omega, by rw [Int.toNat_natCast, limE]; omega, rfl⟩ ?_)
  have := loop a.length 0 (by omega)
  rw [Int.toNat_natCast]
  simpa using this
theorem eqTr_self (t : Trade) (h : TrOk t) : Ev (fun k => laws_eqTrade.f k t t) true :=
  ev_succ (fun k => laws_eqTrade.f_eq k _ _) (ev_bind (eqIntS_self _ (by have := h.1; unfold RowOk at this; omega)) (ev_nf rfl (ev_bind (eqIntS_self _ (by have := h.2; unfold RowOk at this; omega)) (ev_nf rfl (ev_some.2 rfl)))))
theorem eqTradeS_self (a : List Trade) (hl : a.length ≤ 1048576) (hr : ∀ r ∈ a, TrOk r) : Ev (fun k => laws_eqTradeS.f k a a) true := by
  have loop : ∀ d i : Nat, i + d = a.length → Ev (fun k => laws_eqTradeS.l0 k a a (i : Int)) true := by
    intro d
    induction d with
    | zero => intro i hi; exact ev_succ (fun k => laws_eqTradeS.l0_eq k _ _ _) (ev_df (by omega) (ev_some.2 rfl))
    | succ d ih =>
      intro i hi
      have hlt : i < a.length := by omega
      refine ev_succ (fun k => laws_eqTradeS.l0_eq k _ _ _) (ev_dt (by omega) (ev_gd (by omega) (ev_gd (by omega) ?_)))
      rw [at_nat hlt, w_succ (by omega)]
      exact ev_bind (eqTr_self _ (hr _ (List.getElem_mem hlt))) (ev_nf rfl (ih (i + 1) (by omega)))
  exact ev_succ (fun k => laws_eqTradeS.f_eq k _ _) (ev_nf (by simp) (loop a.length 0 (by omega)))
/-! What marks in rows of rows hand on. -/
theorem mark1_fst : ∀ (l : List Int) (k : Int), 0 ≤ k → k + l.length ≤ 9000000000000000000 → (mark1 l k).1 = k + l.length
  | [], k, _, _ => by simp [mark1]
  | x :: l, k, h0, h1 => by
    have hl : ((x :: l).length : Int) = (l.length : Int) + 1 := by simp
    rw [hl] at h1 ⊢
    rw [mark1, w64 (by omega) (by omega)]
    show (mark1 l (k + 1)).1 = _
    rw [mark1_fst l (k + 1) (by omega) (by omega)]
    omega
/-! Rows written over with numbers that follow each other, from any number on. -/
def mkF (c : Int) (n : Nat) : List Int := (List.range n).map fun (i : Nat) => c + (i : Int)
theorem mkF_len (c : Int) (n : Nat) : (mkF c n).length = n := by simp [mkF]
theorem mkF_at {c : Int} {n i : Nat} (h : i < n) : (mkF c n)[i]'(by rw [mkF_len]; exact h) = c + (i : Int) := by simp [mkF]
theorem mkF_succ (c : Int) (n : Nat) : mkF c (n + 1) = mkF c n ++ [c + (n : Int)] := by simp [mkF, List.range_succ]
theorem markc_ev (c : Int) (h0 : 0 ≤ c) (h1 : c ≤ 1000000000) (l : List Int) (hl : l.length ≤ 1000000000) : Ev (fun k => laws_markIntS.f k l c) (c + (l.length : Int), mkF c l.length) := by
  have loop : ∀ d i : Nat, i + d = l.length → Ev (fun k => laws_markIntS.l0 k (mkF c i ++ l.drop i) (c + (i : Int)) (i : Int)) (c + (l.length : Int), mkF c l.length) := by
    intro d
    induction d with
    | zero =>
      intro i hi
      have hlen : (mkF c i ++ l.drop i).length = l.length := by rw [List.length_append, mkF_len, List.length_drop]; omega
      refine ev_succ (fun k => laws_markIntS.l0_eq k _ _ _) (ev_df (by rw [hlen]; omega) (ev_some.2 ?_))
      rw [List.drop_eq_nil_of_le (by omega), List.append_nil, show i = l.length by omega]
    | succ d ih =>
      intro i hi
      have hlen : (mkF c i ++ l.drop i).length = l.length := by rw [List.length_append, mkF_len, List.length_drop]; omega
      have hlt : i < l.length := by omega
      refine ev_succ (fun k => laws_markIntS.l0_eq k _ _ _) (ev_dt (by rw [hlen]; omega) (ev_gd (by rw [hlen]; omega) (ev_gd (by rw [hlen]; omega) ?_)))
      have e : (mkF c i ++ l.drop i).set (i : Int).toNat (c + (i : Int)) = mkF c (i + 1) ++ l.drop (i + 1) := by
        rw [Int.toNat_natCast, List.set_append_right _ _ (by rw [mkF_len]; omega), mkF_len, Nat.sub_self, List.drop_eq_getElem_cons hlt, List.set_cons_zero, mkF_succ, List.append_assoc]
        rfl
      rw [e, w_succ (by omega), w64 (by omega) (by omega)]
      have := ih (i + 1) (by omega)
      rw [show c + (i : Int) + 1 = c + ((i + 1 : Nat) : Int) by omega]
      exact this
  have := loop l.length 0 (by omega)
  refine ev_succ (fun k => laws_markIntS.f_eq k _ _) ?_
  simpa [mkF] using this
theorem heldc_ev (c : Int) (h0 : 0 ≤ c) (h1 : c ≤ 1000000000) (n : Nat) (hn : n ≤ 1000000000) : Ev (fun k => laws_heldIntS.f k (mkF c n) c) (c + (n : Int)) := by
  have loop : ∀ d i : Nat, i + d = n → Ev (fun k => laws_heldIntS.l0 k (mkF c n) (c + (i : Int)) (i : Int)) (c + (n : Int)) := by
    intro d
    induction d with
    | zero =>
      intro i hi
      refine ev_succ (fun k => laws_heldIntS.l0_eq k _ _ _) (ev_df (by rw [mkF_len]; omega) (ev_some.2 (by omega)))
    | succ d ih =>
      intro i hi
      have hlt : i < (mkF c n).length := by rw [mkF_len]; omega
      refine ev_succ (fun k => laws_heldIntS.l0_eq k _ _ _) (ev_dt (by omega) (ev_gd (by omega) (ev_nf ?_ ?_)))
      · rw [get_nat hlt, mkF_at (by omega)]; exact decide_eq_true rfl
      · rw [w_succ (by omega), w64 (by omega) (by omega), show c + (i : Int) + 1 = c + ((i + 1 : Nat) : Int) by omega]
        exact ih (i + 1) (by omega)
  have := loop n 0 (by omega)
  refine ev_succ (fun k => laws_heldIntS.f_eq k _ _) ?_
  simpa using this
theorem markT_fst : ∀ (l : List Trade) (k : Int), 0 ≤ k → k + 2097152 * l.length ≤ 9000000000000000000 → (∀ r ∈ l, TrOk r) → 0 ≤ (markT l k).1 ∧ (markT l k).1 ≤ k + 2097152 * l.length
  | [], k, h0, _, _ => by simp [markT]; exact h0
  | x :: l, k, h0, h1, hr => by
    have hl : ((x :: l).length : Int) = (l.length : Int) + 1 := by simp
    rw [hl] at h1 ⊢
    have hx := hr x (List.mem_cons_self ..)
    have x0 := hx.1
    have x1 := hx.2
    unfold RowOk at x0 x1
    have := markT_fst l (k + x.f0.length + x.f1.length) (by omega) (by omega) (fun r h => hr r (List.mem_cons_of_mem _ h))
    rw [markT]
    show 0 ≤ (markT l (mark1 x.f1 (mark1 x.f0 k).1).1).1 ∧ (markT l (mark1 x.f1 (mark1 x.f0 k).1).1).1 ≤ _
    rw [mark1_fst x.f0 k h0 (by omega), mark1_fst x.f1 _ (by omega) (by omega)]
    omega
theorem markTS_ev (a : List Trade) (c : Int) (hl : a.length ≤ 1048576) (hr : ∀ r ∈ a, TrOk r) : Ev (fun k => laws_markTradeS.f k a c) ((markT a c).1, (markT a c).2) := by
  have hok : okT a = true := decide_eq_true ⟨by rw [limE]; omega, fun r h => by have := hr r h; have x0 := this.1; have x1 := this.2; unfold RowOk at x0 x1; rw [limE]; omega⟩
  refine ⟨0, fun k _ => ?_⟩
  show laws_markTradeS.f k a c = _
  rw [laws_markTradeS.f_eq, hok]
  rfl
theorem markL_fst : ∀ (l : List (List Int)) (k : Int), 0 ≤ k → k + 1048576 * l.length ≤ 9000000000000000000 → (∀ r ∈ l, RowOk r) → 0 ≤ (markL l k).1
  | [], k, h0, _, _ => h0
  | x :: l, k, h0, h1, hr => by
    have hl : ((x :: l).length : Int) = (l.length : Int) + 1 := by simp
    rw [hl] at h1
    have hx := hr x (List.mem_cons_self ..)
    unfold RowOk at hx
    rw [markL]
    show 0 ≤ (markL l (mark1 x k).1).1
    rw [mark1_fst x k h0 (by omega)]
    exact markL_fst l _ (by omega) (by omega) (fun r h => hr r (List.mem_cons_of_mem _ h))
theorem markSS_ev (a : List (List Int)) (c : Int) (hl : a.length ≤ 1048576) (hr : ∀ r ∈ a, RowOk r) : Ev (fun k => laws_markIntSS.f k a c) ((markL a c).1, (markL a c).2) := by
  have hok : okL a = true := decide_eq_true ⟨by rw [limE]; omega, fun r h => by have := hr r h; unfold RowOk at this; rw [limE]; omega⟩
  refine ⟨0, fun k _ => ?_⟩
  show laws_markIntSS.f k a c = _
  rw [laws_markIntSS.f_eq, hok]
  rfl
/-! Rows of rows written over, and looked at again. -/
theorem mark1_snd : ∀ (l : List Int) (k : Int), 0 ≤ k → k + l.length ≤ 9000000000000000000 → (mark1 l k).2 = mkF k l.length
  | [], k, _, _ => rfl
  | x :: l, k, h0, h1 => by
    have hl : ((x :: l).length : Int) = (l.length : Int) + 1 := by simp
    rw [hl] at h1
    rw [mark1, w64 (by omega) (by omega)]
    show k :: (mark1 l (k + 1)).2 = _
    rw [mark1_snd l (k + 1) (by omega) (by omega)]
    unfold mkF
    rw [List.length_cons, List.range_succ_eq_map, List.map_cons, List.map_map]
    congr 1
    · omega
    · apply List.map_congr_left
      intro i _
      simp only [Function.comp_apply, Nat.succ_eq_add_one]
      omega
theorem markL_len' : ∀ (l : List (List Int)) (k : Int), (markL l k).2.length = l.length
  | [], _ => rfl
  | _ :: l, k => by simp [markL, markL_len' l]
theorem markL_app : ∀ (a b : List (List Int)) (k : Int), markL (a ++ b) k = ((markL b (markL a k).1).1, (markL a k).2 ++ (markL b (markL a k).1).2)
  | [], b, k => by simp [markL]
  | x :: a, b, k => by simp [markL, markL_app a b]
theorem markL_le : ∀ (l : List (List Int)) (k : Int), 0 ≤ k → k + 1000 * l.length ≤ 1000000000 → (∀ r ∈ l, r.length ≤ 1000) → k ≤ (markL l k).1 ∧ (markL l k).1 ≤ k + 1000 * l.length
  | [], k, _, _, _ => by simp [markL]
  | x :: l, k, h0, h1, hr => by
    have hl : ((x :: l).length : Int) = (l.length : Int) + 1 := by simp
    rw [hl] at h1 ⊢
    have hx := hr x (List.mem_cons_self ..)
    have := markL_le l (k + x.length) (by omega) (by omega) (fun r h => hr r (List.mem_cons_of_mem _ h))
    rw [markL]
    show k ≤ (markL l (mark1 x k).1).1 ∧ (markL l (mark1 x k).1).1 ≤ _
    rw [mark1_fst x k h0 (by omega)]
    omega
theorem heldSS_ev (l : List (List Int)) (c : Int) (h0 : 0 ≤ c) (h1 : c + 1000 * l.length ≤ 1000000000) (hr : ∀ r ∈ l, r.length ≤ 1000) : Ev (fun k => laws_heldIntSS.f k (markL l c).2 c) (markL l c).1 := by
  have loop : ∀ (d i : Nat), i + d = l.length → Ev (fun k => laws_heldIntSS.l0 k (markL l c).2 (markL (l.take i) c).1 (i : Int)) (markL l c).1 := by
    intro d
    induction d with
    | zero =>
      intro i hi
      refine ev_succ (fun k => laws_heldIntSS.l0_eq k _ _ _) (ev_df (by rw [markL_len']; omega) (ev_some.2 ?_))
      rw [List.take_of_length_le (by omega)]
    | succ d ih =>
      intro i hi
      have hlt : i < l.length := by omega
      have hlt2 : i < (markL l c).2.length := by rw [markL_len']; exact hlt
      have hti : ∀ r ∈ l.take i, r.length ≤ 1000 := fun r h => hr r (List.mem_of_mem_take h)
      have hlen : (l.take i).length = i := by rw [List.length_take]; omega
      have hb := markL_le (l.take i) c h0 (by rw [hlen]; omega) hti
      rw [hlen] at hb
      have hri := hr l[i] (List.getElem_mem hlt)
      have e : (markL l c).2[i] = mkF (markL (l.take i) c).1 l[i].length := by
        have hs : l = l.take i ++ (l[i] :: l.drop (i + 1)) := by rw [← List.drop_eq_getElem_cons hlt, List.take_append_drop]
        have := congrArg (fun z => (markL z c).2[i]?) hs
        replace this : (markL l c).2[i]? = (markL (l.take i ++ (l[i] :: l.drop (i + 1))) c).2[i]? := this
        rw [markL_app, List.getElem?_append_right (by rw [markL_len', hlen]; exact Nat.le_refl _), markL_len', hlen, Nat.sub_self, List.getElem?_eq_getElem hlt2] at this
        rw [markL] at this
        simp only [List.getElem?_cons_zero, Option.some.injEq] at this
        rw [this]
        exact mark1_snd _ _ (by omega) (by omega)
      have e2 : (markL (l.take (i + 1)) c).1 = (markL (l.take i) c).1 + l[i].length := by
        rw [← List.take_append_getElem hlt, markL_app, markL, markL]
        show (mark1 l[i] (markL (l.take i) c).1).1 = _
        exact mark1_fst _ _ (by omega) (by omega)
      refine ev_succ (fun k => laws_heldIntSS.l0_eq k _ _ _) (ev_dt (by rw [markL_len']; omega) (ev_gd (by rw [markL_len']; omega) ?_))
      rw [at_nat hlt2, e]
      refine ev_bind (heldc_ev _ (by omega) (by omega) _ (by omega)) (ev_df (by omega) ?_)
      rw [w_succ (by omega), ← e2]
      exact ih (i + 1) (by omega)
  have := loop l.length 0 (by omega)
  exact ev_succ (fun k => laws_heldIntSS.f_eq k _ _) (by simpa [markL] using this)
theorem eqIntSS_self (a : List (List Int)) (hl : a.length ≤ 1048576) (hr : ∀ r ∈ a, RowOk r) : Ev (fun k => laws_eqIntSS.f k a a) true := by
  have loop : ∀ d i : Nat, i + d = a.length → Ev (fun k => laws_eqIntSS.l0 k a a (i : Int)) true := by
    intro d
    induction d with
    | zero => intro i hi; exact ev_succ (fun k => laws_eqIntSS.l0_eq k _ _ _) (ev_df (by omega) (ev_some.2 rfl))
    | succ d ih =>
      intro i hi
      have hlt : i < a.length := by omega
      refine ev_succ (fun k => laws_eqIntSS.l0_eq k _ _ _) (ev_dt (by omega) (ev_gd (by omega) (ev_gd (by omega) ?_)))
      rw [at_nat hlt, w_succ (by omega)]
      exact ev_bind (eqIntS_self _ (by have := hr _ (List.getElem_mem hlt); unfold RowOk at this; omega)) (ev_nf rfl (ih (i + 1) (by omega)))
  exact ev_succ (fun k => laws_eqIntSS.f_eq k _ _) (ev_nf (by simp) (loop a.length 0 (by omega)))
/-! The law. -/
def TrW (t : Trade) : Prop := (t.f0.length ≤ maxLen ∧ ∀ x ∈ t.f0, (Lit.int .i64 x).wf = true) ∧ (t.f1.length ≤ maxLen ∧ ∀ x ∈ t.f1, (Lit.int .i64 x).wf = true)
theorem reachV_rows (ts : List Trade) (h : List Int) : (reachV ts h).length ≤ 400 ∧ ∀ x ∈ reachV ts h, x.length ≤ 3 := by
  by_cases hne : reachV ts h = []
  · rw [hne]; simp
  · obtain ⟨hR, _, _⟩ := reach_of hne
    exact ⟨hR.len, fun x hx => by have := (vh_len (hR.valid x hx)).1; omega⟩
theorem lastV_rows (ts : List Trade) (h : List Int) : (lastV ts h).length ≤ 400 ∧ ∀ x ∈ lastV ts h, x.length ≤ 3 := by
  obtain ⟨f1, f2⟩ := reachV_rows ts h
  unfold lastV lastL
  exact ⟨Nat.le_trans (List.length_filter_le _ _) f1, fun x hx => f2 x (List.mem_filter.1 hx).1⟩
theorem pure_FnExactHeapsLast (h : List Int) (o : List Trade) (h1 : h.length ≤ maxLen) (h3 : ∀ x ∈ h, (Lit.int .i64 x).wf = true) (h4 : o.length ≤ maxLen) (h5 : ∀ r ∈ o, TrW r) : ∃ k, laws_FnExactHeapsLast.f k h o = some true := by
  refine evp_true (evp_succ (fun k => laws_FnExactHeapsLast.f_eq k h o) (evp_d (fun _ => evp_some rfl) (fun hl => evp_bind (szTradeS_ev o 1048576 (by omega) (by omega) h4 (fun r hr => ⟨(h5 r hr).1.1, (h5 r hr).2.1⟩)) (fun r hr => evp_d (fun _ => evp_some rfl) (fun h0 => ?_)))))
  obtain ⟨ho, hr2⟩ := hr.2 (by omega)
  have hl' : h.length ≤ 1048576 := by omega
  have ti := toIntS_ev h (by omega)
  have to := toTradeS_ev o ho hr2
  have sp := specLast_ev h o (by omega) ho hr2
  have im := implLast_ev h o (by omega) ho hr2
  obtain ⟨g1, g2⟩ := lastV_rows o h
  have hR : ∀ r ∈ lastV o h, RowOk r := fun r hr => by have := g2 r hr; unfold RowOk; omega
  have es := eqIntSS_self (lastV o h) (by omega) hR
  have mi := markc_ev 1 (by omega) (by omega) h (by omega)
  have mm := markTS_ev o ((1 : Int) + (h.length : Int)) ho hr2
  have mf := markT_fst o ((1 : Int) + (h.length : Int)) (by omega) (by omega) hr2
  have mg := markSS_ev (lastV o h) 1 (by omega) hR
  have hg := heldSS_ev (lastV o h) 1 (by omega) (by omega) (fun r hr => by have := g2 r hr; omega)
  have hb := markL_le (lastV o h) 1 (by omega) (by omega) (fun r hr => by have := g2 r hr; omega)
  refine Ev.p ?_ rfl
  refine ev_bind ti (ev_bind to (ev_bind sp (ev_bind ti (ev_bind to (ev_bind im (ev_bind es (ev_nf rfl (ev_bind ti (ev_bind (eqIntS_self h (by omega)) (ev_nf rfl (ev_bind to (ev_bind (eqTradeS_self o ho hr2) (ev_nf rfl ?_)))))))))))))
  refine ev_bind mi (ev_bind mm (ev_df (by simp only; omega) (ev_bind es (ev_nf rfl ?_))))
  refine ev_bind mg (ev_bind hg (ev_df (by omega) (ev_nf (by simp) (ev_bind ti (ev_bind to (ev_bind im (ev_bind es (ev_nf rfl (ev_bind hg (ev_df (by omega) (ev_nf (by simp) (ev_some.2 rfl))))))))))))
end Go.Proofs.Ytogfnegopdejfaa.EPure
