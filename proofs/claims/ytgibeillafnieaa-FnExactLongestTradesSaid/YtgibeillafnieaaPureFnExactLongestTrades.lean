/-
  The pure statement of FnExactLongestTrades.
-/
import Derived.Test.YtgibeillafnieaaQY
import Derived.ProofKit
import Derived.IntWalk
namespace Go.Proofs.Ytgibeillafnieaa.EPure
open Go Go.RowKit Go.Proofs.Ytgibeillafnieaa.Eng
set_option linter.unusedVariables false
set_option linter.unusedSimpArgs false

/-! Rounds without counting them. -/
def Ev {α : Type} (g : Nat → Option α) (r : α) : Prop := ∃ K, ∀ k, K ≤ k → g k = some r
theorem ev_some {α : Type} {a r : α} : Ev (fun _ => some a) r ↔ a = r := by
  constructor
  · rintro ⟨K, h⟩
    exact Option.some.inj (h K (Nat.le_refl _))
  · rintro rfl
    exact ⟨0, fun _ _ => rfl⟩
theorem ev_bind {α β : Type} {g : Nat → Option α} {f : Nat → α → Option β} {a : α} (h : Ev g a) {r : β} (h2 : Ev (fun k => f k a) r) : Ev (fun k => (g k).bind (f k)) r := by
  obtain ⟨K, h⟩ := h
  obtain ⟨L, h2⟩ := h2
  exact ⟨max K L, fun k hk => by simp only [h k (by omega), Option.bind_some]; exact h2 k (by omega)⟩
theorem ev_succ {α : Type} {g f : Nat → Option α} {r : α} (h : ∀ k, g (k + 1) = f k) (e : Ev f r) : Ev g r := by
  obtain ⟨K, e⟩ := e
  refine ⟨K + 1, fun k hk => ?_⟩
  obtain ⟨j, rfl⟩ : ∃ j, k = j + 1 := ⟨k - 1, by omega⟩
  rw [h]
  exact e j (by omega)
theorem ev_true {g : Nat → Option Bool} (h : Ev g true) : ∃ k, g k = some true := by
  obtain ⟨K, h⟩ := h
  exact ⟨K, h K (Nat.le_refl _)⟩
theorem ev_gate {α : Type} {c : Bool} {g : Nat → Option α} {r : α} (hc : c = true) (e : Ev g r) : Ev (fun k => gate c (g k)) r := by
  subst hc
  exact e
theorem ev_gd {α : Type} {p : Prop} [Decidable p] {g : Nat → Option α} {r : α} (hp : p) (e : Ev g r) : Ev (fun k => gate (decide p) (g k)) r := ev_gate (decide_eq_true hp) e
theorem ev_bt {α : Type} {c : Bool} {g h : Nat → Option α} {r : α} (hc : c = true) (e : Ev g r) : Ev (fun k => br c (g k) (h k)) r := by
  subst hc
  exact e
theorem ev_bf {α : Type} {c : Bool} {g h : Nat → Option α} {r : α} (hc : c = false) (e : Ev h r) : Ev (fun k => br c (g k) (h k)) r := by
  subst hc
  exact e
theorem ev_dt {α : Type} {p : Prop} [Decidable p] {g h : Nat → Option α} {r : α} (hp : p) (e : Ev g r) : Ev (fun k => br (decide p) (g k) (h k)) r := ev_bt (decide_eq_true hp) e
theorem ev_df {α : Type} {p : Prop} [Decidable p] {g h : Nat → Option α} {r : α} (hp : ¬ p) (e : Ev h r) : Ev (fun k => br (decide p) (g k) (h k)) r := ev_bf (decide_eq_false hp) e
theorem ev_nt {α : Type} {c : Bool} {g h : Nat → Option α} {r : α} (hc : c = false) (e : Ev g r) : Ev (fun k => br (!c) (g k) (h k)) r := by
  subst hc
  exact e
theorem ev_nf {α : Type} {c : Bool} {g h : Nat → Option α} {r : α} (hc : c = true) (e : Ev h r) : Ev (fun k => br (!c) (g k) (h k)) r := by
  subst hc
  exact e
/-! What comes of some rounds, with a property. -/
def EvP {α : Type} (g : Nat → Option α) (Q : α → Prop) : Prop := ∃ r, Ev g r ∧ Q r
theorem Ev.p {α : Type} {g : Nat → Option α} {Q : α → Prop} {r : α} (h : Ev g r) (q : Q r) : EvP g Q := ⟨r, h, q⟩
theorem evp_some {α : Type} {Q : α → Prop} {r : α} (q : Q r) : EvP (fun _ => some r) Q := ⟨r, ev_some.2 rfl, q⟩
theorem evp_bind {α β : Type} {g : Nat → Option α} {f : Nat → α → Option β} {P : α → Prop} {Q : β → Prop} (h : EvP g P) (e : ∀ a, P a → EvP (fun k => f k a) Q) : EvP (fun k => (g k).bind (f k)) Q := by
  obtain ⟨a, h1, p⟩ := h
  obtain ⟨r, h2, q⟩ := e a p
  exact ⟨r, ev_bind h1 h2, q⟩
theorem evp_bindv {α β : Type} {g : Nat → Option α} {f : Nat → α → Option β} {a : α} {Q : β → Prop} (h : Ev g a) (e : EvP (fun k => f k a) Q) : EvP (fun k => (g k).bind (f k)) Q := by
  obtain ⟨r, h2, q⟩ := e
  exact ⟨r, ev_bind h h2, q⟩
theorem evp_succ {α : Type} {g f : Nat → Option α} {Q : α → Prop} (h : ∀ k, g (k + 1) = f k) (e : EvP f Q) : EvP g Q := by
  obtain ⟨r, h2, q⟩ := e
  exact ⟨r, ev_succ h h2, q⟩
theorem evp_mono {α : Type} {g : Nat → Option α} {P Q : α → Prop} (h : EvP g P) (hq : ∀ a, P a → Q a) : EvP g Q := by
  obtain ⟨r, h2, p⟩ := h
  exact ⟨r, h2, hq r p⟩
theorem evp_gd {α : Type} {p : Prop} [Decidable p] {g : Nat → Option α} {Q : α → Prop} (hp : p) (e : EvP g Q) : EvP (fun k => gate (decide p) (g k)) Q := by
  obtain ⟨r, h, q⟩ := e
  exact ⟨r, ev_gd hp h, q⟩
theorem evp_gn {α : Type} {p : Prop} [Decidable p] {g : Nat → Option α} {Q : α → Prop} (hp : ¬ p) (e : EvP g Q) : EvP (fun k => gate (!decide p) (g k)) Q := by
  obtain ⟨r, h, q⟩ := e
  exact ⟨r, ev_gate (by simp [hp]) h, q⟩
theorem evp_b {α : Type} {c : Bool} {g h : Nat → Option α} {Q : α → Prop} (e1 : c = true → EvP g Q) (e2 : c = false → EvP h Q) : EvP (fun k => br c (g k) (h k)) Q := by
  cases c with
  | true => exact e1 rfl
  | false => exact e2 rfl
theorem evp_d {α : Type} {p : Prop} [Decidable p] {g h : Nat → Option α} {Q : α → Prop} (e1 : p → EvP g Q) (e2 : ¬ p → EvP h Q) : EvP (fun k => br (decide p) (g k) (h k)) Q :=
  evp_b (fun h => e1 (of_decide_eq_true h)) (fun h => e2 (of_decide_eq_false h))
theorem evp_true {g : Nat → Option Bool} (h : EvP g (fun b => b = true)) : ∃ k, g k = some true := by
  obtain ⟨r, h, rfl⟩ := h
  exact ev_true h
theorem wr_eq (x : Int) : wr x = wrap64 x := by unfold wrap64; exact IntKind.wrap_i64 x
theorem w64 {x : Int} (h0 : -9223372036854775808 ≤ x) (h1 : x ≤ 9223372036854775807) : wr x = x := by
  rw [wr_eq]
  unfold wrap64
  omega
theorem w_succ {i : Nat} (h : i < 9223372036854775807) : wr ((i : Int) + 1) = ((i + 1 : Nat) : Int) := by rw [w64] <;> omega
theorem get_nat {l : List Int} {i : Nat} (h : i < l.length) : l.getD (i : Int).toNat 0 = l[i] := by
  rw [Int.toNat_natCast, List.getD_eq_getElem?_getD, List.getElem?_eq_getElem h]
  rfl
theorem limE : lim = 1099511627776 := rfl
theorem ev_const {α : Type} {x : Option α} {r : α} (h : x = some r) : Ev (fun _ => x) r := ⟨0, fun _ _ => h⟩
theorem get_at {α : Type} {l : List α} {i : Nat} {d : α} (h : i < l.length) : l.getD (i : Int).toNat d = l[i] := by
  rw [Int.toNat_natCast, List.getD_eq_getElem?_getD, List.getElem?_eq_getElem h]
  rfl
theorem ev_eq {α : Type} {g : Nat → Option α} {a b : α} (h : Ev g a) (e : a = b) : Ev g b := e ▸ h
theorem l1In_ev (a b c : Int) : Ev (fun k => spec_l1In.f k a b c) (decide (a ≥ b) && decide (a ≤ c)) := by
  refine ev_succ (fun k => spec_l1In.f_eq k a b c) ?_
  by_cases h : a ≥ b
  · exact ev_dt h (ev_some.2 (by simp [h]))
  · exact ev_df h (ev_some.2 (by simp [h]))
/-! Heaps that are valid. -/
def vh (m : Int) (l : List Int) : Bool := decide (l.length = 3) && l.all fun n => decide (0 ≤ n) && decide (n ≤ m)
theorem thingsOk_ev (l : List Int) (m : Int) (hl : l.length < 9000000000000000000) : Ev (fun k => impl_thingsOk.f k l m) (vh m l) := by
  have loop : ∀ d i : Nat, i + d = l.length → Ev (fun k => impl_thingsOk.l0 k l m l (l.length : Int) (i : Int)) (decide (l.length = 3) && (l.drop i).all fun n => decide (0 ≤ n) && decide (n ≤ m)) := by
    intro d
    induction d with
    | zero =>
      intro i hi
      refine ev_succ (fun k => impl_thingsOk.l0_eq k _ _ _ _ _) (ev_df (by omega) (ev_some.2 ?_))
      rw [List.drop_eq_nil_of_le (by omega), List.all_nil, Bool.and_true]
      by_cases h : l.length = 3
      · rw [decide_eq_true h]; exact decide_eq_true (by omega)
      · rw [decide_eq_false h]; exact decide_eq_false (by omega)
    | succ d ih =>
      intro i hi
      have hlt : i < l.length := by omega
      refine ev_succ (fun k => impl_thingsOk.l0_eq k _ _ _ _ _) (ev_dt (by omega) (ev_gd (by omega) ?_))
      rw [get_at hlt, w_succ (by omega), List.drop_eq_getElem_cons hlt, List.all_cons]
      by_cases h1 : l[i] < 0
      · rw [decide_eq_false (show ¬ 0 ≤ l[i] by omega)]
        exact ev_dt h1 (ev_some.2 (by simp))
      refine ev_df h1 ?_
      by_cases h2 : l[i] > m
      · rw [decide_eq_false (show ¬ l[i] ≤ m by omega)]
        exact ev_dt h2 (ev_some.2 (by simp))
      refine ev_df h2 ?_
      rw [decide_eq_true (show 0 ≤ l[i] by omega), decide_eq_true (show l[i] ≤ m by omega)]
      exact ih (i + 1) (by omega)
  exact ev_succ (fun k => impl_thingsOk.f_eq k _ _) (loop l.length 0 (by omega))
theorem l8List_ev (l : List Int) (m : Int) (hl : l.length < 9000000000000000000) : Ev (fun k => spec_l8List.f k l m) (vh m l) := by
  have loop : ∀ d i : Nat, i + d = l.length → Ev (fun k => spec_l8List.l0 k l m (i : Int)) (decide (l.length = 3) && (l.drop i).all fun n => decide (0 ≤ n) && decide (n ≤ m)) := by
    intro d
    induction d with
    | zero =>
      intro i hi
      refine ev_succ (fun k => spec_l8List.l0_eq k _ _ _) (ev_df (by omega) (ev_some.2 ?_))
      rw [List.drop_eq_nil_of_le (by omega), List.all_nil, Bool.and_true]
      by_cases h : l.length = 3
      · rw [decide_eq_true h]; exact decide_eq_true (by omega)
      · rw [decide_eq_false h]; exact decide_eq_false (by omega)
    | succ d ih =>
      intro i hi
      have hlt : i < l.length := by omega
      refine ev_succ (fun k => spec_l8List.l0_eq k _ _ _) (ev_dt (by omega) (ev_gd (by omega) ?_))
      rw [get_at hlt, w_succ (by omega), List.drop_eq_getElem_cons hlt, List.all_cons]
      refine ev_bind (l1In_ev _ _ _) ?_
      cases h : (decide (l[i] ≥ 0) && decide (l[i] ≤ m)) with
      | true =>
        have h' : (decide (0 ≤ l[i]) && decide (l[i] ≤ m)) = true := h
        rw [Bool.true_and]
        exact ev_nf rfl (ih (i + 1) (by omega))
      | false =>
        have h' : (decide (0 ≤ l[i]) && decide (l[i] ≤ m)) = false := h
        rw [Bool.false_and, Bool.and_false]
        exact ev_nt rfl (ev_some.2 rfl)
  exact ev_succ (fun k => spec_l8List.f_eq k _ _) (loop l.length 0 (by omega))
theorem vh_len {m : Int} {l : List Int} (h : vh m l = true) : l.length = 3 ∧ ∀ n ∈ l, 0 ≤ n ∧ n ≤ m := by
  unfold vh at h
  simp only [Bool.and_eq_true, decide_eq_true_eq, List.all_eq_true] at h
  exact h
/-! Rows of anything, filled. -/
theorem at_nat {α : Type} {l : List α} {i : Nat} {d : α} (h : i < l.length) : l.getD (i : Int).toNat d = l[i] := by
  rw [Int.toNat_natCast, List.getD_eq_getElem?_getD, List.getElem?_eq_getElem h]
  rfl
theorem fill_len {α : Type} {l : List α} {z : α} {i d : Nat} (h : i + d = l.length) : (l.take i ++ List.replicate d z).length = l.length := by simp; omega
theorem fill_step {α : Type} {l : List α} {z : α} {i d : Nat} (h : i + (d + 1) = l.length) (hlt : i < l.length) : (l.take i ++ List.replicate (d + 1) z).set (i : Int).toNat l[i] = l.take (i + 1) ++ List.replicate d z := by
  rw [Int.toNat_natCast, List.set_append_right _ _ (by simp; omega), List.length_take, Nat.min_eq_left (by omega), Nat.sub_self, List.replicate_succ, List.set_cons_zero, ← List.take_append_getElem hlt, List.append_assoc]
  rfl
def RowOk (l : List Int) : Prop := l.length ≤ 1048576
def TrOk (t : Trade) : Prop := RowOk t.f0 ∧ RowOk t.f1
/-! Rules that are valid. -/
def tv (t : Trade) : Bool := vh 5 t.f0 && vh 5 t.f1
def tsV (ts : List Trade) : Bool := ts.all tv && decide (ts.length ≤ 4)
theorem tsV_of {ts : List Trade} (h : tsV ts = true) : (∀ t ∈ ts, tv t = true) ∧ ts.length ≤ 4 := by
  unfold tsV at h
  rw [Bool.and_eq_true, List.all_eq_true, decide_eq_true_eq] at h
  exact h
theorem vh_mono {l : List Int} (h : vh 5 l = true) : vh 40 l = true := by
  unfold vh at h ⊢
  rw [Bool.and_eq_true, List.all_eq_true] at h ⊢
  refine ⟨h.1, fun n hn => ?_⟩
  have := h.2 n hn
  simp only [Bool.and_eq_true, decide_eq_true_eq] at this ⊢
  omega
theorem implTV_ev (t : Trade) (h : TrOk t) : Ev (fun k => impl_TradeValid.f k t) (tv t) := by
  have h0 := h.1
  have h1 := h.2
  unfold RowOk at h0 h1
  refine ev_succ (fun k => impl_TradeValid.f_eq k _) (ev_bind (thingsOk_ev _ 5 (by omega)) ?_)
  unfold tv
  cases vh 5 t.f0 with
  | false => exact ev_bf rfl (ev_some.2 rfl)
  | true => exact ev_bt rfl (ev_bind (thingsOk_ev _ 5 (by omega)) (ev_some.2 rfl))
theorem specTV_ev (t : Trade) (h : TrOk t) : Ev (fun k => spec_TradeValid.f k t) (tv t) := by
  have h0 := h.1
  have h1 := h.2
  unfold RowOk at h0 h1
  refine ev_succ (fun k => spec_TradeValid.f_eq k _) (ev_bind (l8List_ev _ 5 (by omega)) ?_)
  unfold tv
  cases vh 5 t.f0 with
  | false => exact ev_bf rfl (ev_some.2 rfl)
  | true => exact ev_bt rfl (ev_bind (l8List_ev _ 5 (by omega)) (ev_some.2 rfl))
theorem all_at {α : Type} {p : α → Bool} {l : List α} {i : Nat} (h : i < l.length) : (l.drop i).all p = (p l[i] && (l.drop (i + 1)).all p) := by
  rw [List.drop_eq_getElem_cons h, List.all_cons]
theorem implTsV_ev (a : List Trade) (hl : a.length ≤ 1048576) (hr : ∀ r ∈ a, TrOk r) : Ev (fun k => impl_TradesValid.f k a) (tsV a) := by
  have loop : ∀ d i : Nat, i + d = a.length → Ev (fun k => impl_TradesValid.l0 k a a (a.length : Int) (i : Int)) ((a.drop i).all tv && decide (a.length ≤ 4)) := by
    intro d
    induction d with
    | zero =>
      intro i hi
      refine ev_succ (fun k => impl_TradesValid.l0_eq k _ _ _ _) (ev_df (by omega) (ev_some.2 ?_))
      rw [List.drop_eq_nil_of_le (by omega)]
      show _ = (true && _)
      rw [Bool.true_and]
      exact decide_eq_decide.2 (by omega)
    | succ d ih =>
      intro i hi
      have hlt : i < a.length := by omega
      refine ev_succ (fun k => impl_TradesValid.l0_eq k _ _ _ _) (ev_dt (by omega) (ev_gd (by omega) ?_))
      rw [at_nat hlt, w_succ (by omega), all_at hlt]
      refine ev_bind (implTV_ev _ (hr _ (List.getElem_mem hlt))) ?_
      cases tv a[i] with
      | false => exact ev_nt rfl (ev_some.2 rfl)
      | true => rw [Bool.true_and]; exact ev_nf rfl (ih (i + 1) (by omega))
  exact ev_succ (fun k => impl_TradesValid.f_eq k _) (loop a.length 0 (by omega))
theorem specTsV_ev (a : List Trade) (hl : a.length ≤ 1048576) (hr : ∀ r ∈ a, TrOk r) : Ev (fun k => spec_TradesValid.f k a) (tsV a) := by
  have loop : ∀ d i : Nat, i + d = a.length → Ev (fun k => spec_TradesValid.l0 k a (i : Int)) ((a.drop i).all tv && decide (a.length ≤ 4)) := by
    intro d
    induction d with
    | zero =>
      intro i hi
      refine ev_succ (fun k => spec_TradesValid.l0_eq k _ _) (ev_df (by omega) (ev_some.2 ?_))
      rw [List.drop_eq_nil_of_le (by omega)]
      show _ = (true && _)
      rw [Bool.true_and]
      exact decide_eq_decide.2 (by omega)
    | succ d ih =>
      intro i hi
      have hlt : i < a.length := by omega
      refine ev_succ (fun k => spec_TradesValid.l0_eq k _ _) (ev_dt (by omega) (ev_gd (by omega) ?_))
      rw [at_nat hlt, w_succ (by omega), all_at hlt]
      refine ev_bind (specTV_ev _ (hr _ (List.getElem_mem hlt))) ?_
      cases tv a[i] with
      | false => exact ev_nt rfl (ev_some.2 rfl)
      | true => rw [Bool.true_and]; exact ev_nf rfl (ih (i + 1) (by omega))
  exact ev_succ (fun k => spec_TradesValid.f_eq k _) (loop a.length 0 (by omega))
/-! Exchanges: one, all that can be done, and rows of them. -/
def mvL : List Int → List Int → List Int → Option (List Int)
  | [], _, _ => some []
  | h :: hs, t :: ts, g :: gs => if h < t then none else if h - t + g > 40 then none else (mvL hs ts gs).map ((h - t + g) :: ·)
  | _, _, _ => none
def mvS : List Int → List Int → List Int → Option (List Int)
  | [], _, _ => some []
  | h :: hs, t :: ts, g :: gs => if h < t then none else (mvS hs ts gs).map ((h - t + g) :: ·)
  | _, _, _ => none
def mvR (o : Option (List Int)) : List Int × Bool := match o with
  | some l => (l, true)
  | none => ([], false)
def mvV (h : List Int) (t : Trade) : List Int × Bool := mvR (mvL h t.f0 t.f1)
theorem mvL_S : ∀ (h t g : List Int), mvL h t g = (mvS h t g).bind fun l => if (l.all fun n => decide (n ≤ 40)) = true then some l else none
  | [], _, _ => by simp [mvL, mvS]
  | h :: hs, t :: ts, g :: gs => by
    rw [mvL, mvS]
    split
    · rfl
    · rw [mvL_S hs ts gs]
      cases hq : mvS hs ts gs with
      | none => simp
      | some l =>
        by_cases h4 : h - t + g > 40
        · rw [if_pos h4]
          have : ¬ h - t + g ≤ 40 := by omega
          simp [this]
        · rw [if_neg h4]
          have : h - t + g ≤ 40 := by omega
          by_cases ha : (l.all fun n => decide (n ≤ 40)) = true
          · simp only [Option.map_some, Option.bind_some, if_pos ha, List.all_cons, decide_eq_true this, Bool.true_and]
          · simp only [Option.map_some, Option.bind_some, if_neg ha, List.all_cons, decide_eq_true this, Bool.true_and, Option.map_none]
  | _ :: _, [], _ => by simp [mvL, mvS]
  | _ :: _, _ :: _, [] => by simp [mvL, mvS]
theorem mvS_ok : ∀ {h t g l : List Int}, mvS h t g = some l → (∀ n ∈ g, 0 ≤ n) → l.length = h.length ∧ ∀ n ∈ l, 0 ≤ n
  | [], _, _, l, e, _ => by simp [mvS] at e; subst e; simp
  | h :: hs, t :: ts, g :: gs, l, e, hg => by
    rw [mvS] at e
    split at e
    · cases e
    · rw [Option.map_eq_some_iff] at e
      obtain ⟨r, h1, rfl⟩ := e
      obtain ⟨i1, i2⟩ := mvS_ok h1 (fun n hn => hg n (List.mem_cons_of_mem _ hn))
      have := hg g (List.mem_cons_self ..)
      refine ⟨by simp [i1], fun n hn => ?_⟩
      rcases List.mem_cons.1 hn with rfl | hn
      · omega
      · exact i2 n hn
  | _ :: _, [], _, _, e, _ => by simp [mvS] at e
  | _ :: _, _ :: _, [], _, e, _ => by simp [mvS] at e
theorem tv_of {t : Trade} (h : tv t = true) : (t.f0.length = 3 ∧ ∀ n ∈ t.f0, 0 ≤ n ∧ n ≤ 40) ∧ (t.f1.length = 3 ∧ ∀ n ∈ t.f1, 0 ≤ n ∧ n ≤ 40) := by
  unfold tv at h
  rw [Bool.and_eq_true] at h
  exact ⟨vh_len (vh_mono h.1), vh_len (vh_mono h.2)⟩
theorem vh_mk {l : List Int} (h : l.length = 3) (h2 : ∀ n ∈ l, 0 ≤ n) : vh 40 l = (l.all fun n => decide (n ≤ 40)) := by
  unfold vh
  rw [decide_eq_true h, Bool.true_and]
  rw [Bool.eq_iff_iff, List.all_eq_true, List.all_eq_true]
  constructor
  · intro h1 n hn; have := h1 n hn; simp at this ⊢; exact this.2
  · intro h1 n hn; have := h1 n hn; have := h2 n hn; simp at *; omega
theorem mvV_ok {h : List Int} {t : Trade} (hh : vh 40 h = true) (ht : tv t = true) (hd : (mvV h t).2 = true) : vh 40 (mvV h t).1 = true := by
  obtain ⟨h3, h0⟩ := vh_len hh
  obtain ⟨⟨t3, t0⟩, g3, g0⟩ := tv_of ht
  unfold mvV at hd ⊢
  rw [mvL_S] at hd ⊢
  cases hs : mvS h t.f0 t.f1 with
  | none => rw [hs] at hd; simp [mvR] at hd
  | some l =>
    rw [hs] at hd
    obtain ⟨e1, e2⟩ := mvS_ok hs (fun n hn => (g0 n hn).1)
    simp only [Option.bind_some] at hd ⊢
    by_cases ha : (l.all fun n => decide (n ≤ 40)) = true
    · rw [if_pos ha] at hd ⊢
      show vh 40 l = true
      rw [vh_mk (by omega) e2]; exact ha
    · rw [if_neg ha] at hd; simp [mvR] at hd
theorem traded_ev {h : List Int} {t : Trade} (hh : vh 40 h = true) (ht : tv t = true) : Ev (fun k => impl_traded.f k h t) (mvV h t) := by
  obtain ⟨h3, h0⟩ := vh_len hh
  obtain ⟨⟨t3, t0⟩, g3, g0⟩ := tv_of ht
  have loop : ∀ (d i : Nat) (acc : List Int), i + d = 3 → acc.length = i → Ev (fun k => impl_traded.l0 k t acc h (h.length : Int) (i : Int)) (mvR ((mvL (h.drop i) (t.f0.drop i) (t.f1.drop i)).map (acc ++ ·))) := by
    intro d
    induction d with
    | zero =>
      intro i acc hi ha
      refine ev_succ (fun k => impl_traded.l0_eq k _ _ _ _ _) (ev_df (by omega) (ev_some.2 ?_))
      rw [List.drop_eq_nil_of_le (show h.length ≤ i by omega)]
      simp [mvL, mvR]
    | succ d ih =>
      intro i acc hi ha
      have l1 : i < h.length := by omega
      have l2 : i < t.f0.length := by omega
      have l3 : i < t.f1.length := by omega
      have b1 := h0 h[i] (List.getElem_mem l1)
      have b2 := t0 t.f0[i] (List.getElem_mem l2)
      have b3 := g0 t.f1[i] (List.getElem_mem l3)
      refine ev_succ (fun k => impl_traded.l0_eq k _ _ _ _ _) (ev_dt (by omega) (ev_gd (by omega) (ev_gd (by omega) ?_)))
      rw [get_nat l1, get_nat l2, get_nat l3, List.drop_eq_getElem_cons l1, List.drop_eq_getElem_cons l2, List.drop_eq_getElem_cons l3, mvL]
      rw [w64 (x := h[i] - t.f0[i]) (by omega) (by omega), w64 (x := h[i] - t.f0[i] + t.f1[i]) (by omega) (by omega)]
      by_cases c1 : h[i] < t.f0[i]
      · rw [if_pos c1]; exact ev_dt c1 (ev_some.2 rfl)
      · rw [if_neg c1]
        refine ev_df c1 (ev_gd (by omega) (ev_gd (by omega) ?_))
        by_cases c2 : h[i] - t.f0[i] + t.f1[i] > 40
        · rw [if_pos c2]; exact ev_dt c2 (ev_some.2 rfl)
        · rw [if_neg c2]
          refine ev_df c2 (ev_gd (by omega) (ev_gd (by omega) (ev_gd (by rw [ha, limE]; simp; omega) ?_)))
          rw [w_succ (by omega)]
          have := ih (i + 1) (acc ++ [h[i] - t.f0[i] + t.f1[i]]) (by omega) (by simp [ha])
          refine ev_eq this ?_
          rw [Option.map_map]
          congr 2
          funext l
          simp
  have := loop 3 0 [] (by omega) rfl
  refine ev_succ (fun k => impl_traded.f_eq k _ _) (ev_eq this ?_)
  unfold mvV
  congr 1
  simp
theorem sDoT_ev (h : List Int) (t : Trade) (hl : h.length ≤ 1000000000) (hr : TrOk t) : Ev (fun k => spec_TradeDo.f k h t) (if vh 40 h = true ∧ tv t = true then mvV h t else ([], false)) := by
  have r0 := hr.1
  have r1 := hr.2
  unfold RowOk at r0 r1
  refine ev_succ (fun k => spec_TradeDo.f_eq k _ _) (ev_bind (ev_succ (fun k => spec_HeapsValid.f_eq k _) (ev_bind (l8List_ev h 40 (by omega)) (ev_some.2 rfl))) ?_)
  cases hh : vh 40 h with
  | false => exact ev_nt rfl (ev_some.2 (by simp))
  | true =>
    refine ev_nf rfl (ev_bind (specTV_ev t hr) ?_)
    cases ht : tv t with
    | false => exact ev_nt rfl (ev_some.2 (by simp))
    | true =>
      refine ev_nf rfl ?_
      rw [if_pos ⟨rfl, rfl⟩]
      obtain ⟨h3, h0⟩ := vh_len hh
      obtain ⟨⟨t3, t0⟩, g3, g0⟩ := tv_of ht
      have loop : ∀ (d i : Nat) (acc : List Int), i + d = 3 → acc.length = i → (∀ n ∈ acc, 0 ≤ n) → Ev (fun k => spec_TradeDo.l0 k h t acc (i : Int)) (match mvS (h.drop i) (t.f0.drop i) (t.f1.drop i) with
          | some l => if vh 40 (acc ++ l) = true then (acc ++ l, true) else ([], false)
          | none => ([], false)) := by
        intro d
        induction d with
        | zero =>
          intro i acc hi ha hn
          refine ev_succ (fun k => spec_TradeDo.l0_eq k _ _ _ _) (ev_df (by omega) (ev_bind (ev_succ (fun k => spec_HeapsValid.f_eq k _) (ev_bind (l8List_ev acc 40 (by omega)) (ev_some.2 rfl))) ?_))
          rw [List.drop_eq_nil_of_le (show h.length ≤ i by omega)]
          simp only [mvS, List.append_nil]
          cases vh 40 acc with
          | false => exact ev_nt rfl (ev_some.2 (by simp))
          | true => exact ev_nf rfl (ev_some.2 (by simp))
        | succ d ih =>
          intro i acc hi ha hn
          have l1 : i < h.length := by omega
          have l2 : i < t.f0.length := by omega
          have l3 : i < t.f1.length := by omega
          have b1 := h0 h[i] (List.getElem_mem l1)
          have b2 := t0 t.f0[i] (List.getElem_mem l2)
          have b3 := g0 t.f1[i] (List.getElem_mem l3)
          refine ev_succ (fun k => spec_TradeDo.l0_eq k _ _ _ _) (ev_dt (by omega) (ev_gd (by omega) (ev_gd (by omega) ?_)))
          rw [get_nat l1, get_nat l2, get_nat l3, List.drop_eq_getElem_cons l1, List.drop_eq_getElem_cons l2, List.drop_eq_getElem_cons l3, mvS]
          rw [w64 (x := h[i] - t.f0[i]) (by omega) (by omega), w64 (x := h[i] - t.f0[i] + t.f1[i]) (by omega) (by omega)]
          by_cases c1 : h[i] < t.f0[i]
          · rw [if_pos c1]; exact ev_dt c1 (ev_some.2 rfl)
          · rw [if_neg c1]
            refine ev_df c1 (ev_gd (by omega) (ev_gd (by omega) (ev_gd (by omega) (ev_gd (by rw [ha, limE]; simp; omega) ?_))))
            rw [w_succ (by omega)]
            have := ih (i + 1) (acc ++ [h[i] - t.f0[i] + t.f1[i]]) (by omega) (by simp [ha]) (fun n hnn => by
              rcases List.mem_append.1 hnn with q | q
              · exact hn n q
              · simp at q; subst q; omega)
            refine ev_eq this ?_
            cases mvS (h.drop (i + 1)) (t.f0.drop (i + 1)) (t.f1.drop (i + 1)) with
            | none => rfl
            | some l => simp
      have := loop 3 0 [] (by omega) rfl (by simp)
      refine ev_eq this ?_
      unfold mvV
      rw [mvL_S]
      simp only [List.drop_zero, List.nil_append]
      cases hs : mvS h t.f0 t.f1 with
      | none => rfl
      | some l =>
        obtain ⟨e1, e2⟩ := mvS_ok hs (fun n hn => (g0 n hn).1)
        simp only [Option.bind_some]
        rw [vh_mk (by omega) e2]
        split <;> rfl
/-! Heaps that are reached: plain. -/
def succs (ts : List Trade) (h : List Int) : List (List Int) := ts.filterMap fun t => if (mvV h t).2 = true then some (mvV h t).1 else none
def addL : List (List Int) → List (List Int) → List (List Int)
  | [], out => out
  | x :: r, out => addL r (if x ∈ out then out else out ++ [x])
def reachL (ts : List Trade) : Nat → Nat → List (List Int) → Option (List (List Int))
  | 0, _, _ => none
  | f + 1, i, out => match out[i]? with
    | some h => if (addL (succs ts h) out).length > 400 then none else reachL ts f (i + 1) (addL (succs ts h) out)
    | none => some out
def reachV (ts : List Trade) (h : List Int) : List (List Int) := if vh 40 h = true ∧ tsV ts = true then (reachL ts 402 0 [h]).getD [] else []
theorem addL_pre : ∀ (xs out : List (List Int)), ∃ r, addL xs out = out ++ r
  | [], out => ⟨[], by simp [addL]⟩
  | x :: r, out => by
    obtain ⟨s, hs⟩ := addL_pre r (if x ∈ out then out else out ++ [x])
    unfold addL
    rw [hs]
    split
    · exact ⟨s, rfl⟩
    · exact ⟨x :: s, by simp⟩
theorem addL_len (xs out : List (List Int)) : out.length ≤ (addL xs out).length := by
  obtain ⟨r, hr⟩ := addL_pre xs out
  rw [hr, List.length_append]; omega
theorem addL_mem : ∀ (xs out : List (List Int)) (y : List Int), y ∈ addL xs out ↔ y ∈ out ∨ y ∈ xs
  | [], out, y => by simp [addL]
  | x :: r, out, y => by
    unfold addL
    rw [addL_mem r _ y]
    by_cases h : x ∈ out
    · rw [if_pos h]
      simp only [List.mem_cons]
      constructor
      · rintro (q | q)
        · exact .inl q
        · exact .inr (.inr q)
      · rintro (q | rfl | q)
        · exact .inl q
        · exact .inl h
        · exact .inr q
    · rw [if_neg h]
      simp only [List.mem_append, List.mem_cons, List.not_mem_nil, or_false]
      constructor
      · rintro ((q | q) | q)
        · exact .inl q
        · exact .inr (.inl q)
        · exact .inr (.inr q)
      · rintro (q | q | q)
        · exact .inl (.inl q)
        · exact .inl (.inr q)
        · exact .inr q
theorem addL_nodup : ∀ (xs out : List (List Int)), out.Nodup → (addL xs out).Nodup
  | [], out, h => by simpa [addL] using h
  | x :: r, out, h => by
    unfold addL
    apply addL_nodup
    split
    · exact h
    · rename_i hx
      rw [List.nodup_append]
      exact ⟨h, by simp, fun a ha b hb e => by simp at hb; subst hb; subst e; exact hx ha⟩
theorem nodup_sub : ∀ (l m : List (List Int)), l.Nodup → (∀ x ∈ l, x ∈ m) → l.length ≤ m.length
  | [], m, _, _ => by simp
  | x :: l, m, hn, hs => by
    rw [List.nodup_cons] at hn
    have hx := hs x (by simp)
    have := nodup_sub l (m.erase x) hn.2 (fun y hy => (List.mem_erase_of_ne (fun e => hn.1 (by rw [← e]; exact hy))).2 (hs y (by simp [hy])))
    have h2 := List.length_erase_of_mem hx
    have h3 : 0 < m.length := List.length_pos_of_mem hx
    simp only [List.length_cons]
    omega
/-- What has been found: 'i' heaps have been gone on from. -/
structure RInv (ts : List Trade) (h : List Int) (i : Nat) (out : List (List Int)) : Prop where
  first : out[0]? = some h
  nodup : out.Nodup
  valid : ∀ x ∈ out, vh 40 x = true
  closed : ∀ j x, j < i → out[j]? = some x → ∀ y ∈ succs ts x, y ∈ out
  from' : ∀ j x, 0 < j → out[j]? = some x → ∃ j' x', j' < j ∧ out[j']? = some x' ∧ x ∈ succs ts x'
  le : i ≤ out.length
theorem succs_valid {ts : List Trade} (ht : ∀ t ∈ ts, tv t = true) {x : List Int} (hx : vh 40 x = true) {y : List Int} (hy : y ∈ succs ts x) : vh 40 y = true := by
  unfold succs at hy
  obtain ⟨t, h1, h2⟩ := List.mem_filterMap.1 hy
  split at h2
  · rename_i hd
    cases h2
    exact mvV_ok hx (ht t h1) hd
  · cases h2
theorem addL_from {ts : List Trade} (xs : List (List Int)) : ∀ (out : List (List Int)) (j : Nat) (y : List Int), (addL xs out)[j]? = some y → out.length ≤ j → y ∈ xs := by
  induction xs with
  | nil =>
    intro out j y h hj
    simp only [addL] at h
    rw [List.getElem?_eq_none hj] at h; cases h
  | cons x r ih =>
    intro out j y h hj
    unfold addL at h
    by_cases hx : x ∈ out
    · rw [if_pos hx] at h; exact List.mem_cons_of_mem _ (ih _ j y h hj)
    · rw [if_neg hx] at h
      by_cases hj2 : out.length = j
      · obtain ⟨s, hs⟩ := addL_pre r (out ++ [x])
        rw [hs, List.append_assoc, ← hj2, List.getElem?_append_right (Nat.le_refl _)] at h
        simp at h
        simp [h]
      · exact List.mem_cons_of_mem _ (ih _ j y h (by simp; omega))
theorem RInv.step {ts : List Trade} (ht : ∀ t ∈ ts, tv t = true) {h : List Int} {i : Nat} {out : List (List Int)} (hI : RInv ts h i out) {x : List Int} (hx : out[i]? = some x) : RInv ts h (i + 1) (addL (succs ts x) out) := by
  obtain ⟨r, hr⟩ := addL_pre (succs ts x) out
  have old : ∀ j y, out[j]? = some y → (addL (succs ts x) out)[j]? = some y := fun j y hy => by
    rw [hr, List.getElem?_append_left (List.getElem?_eq_some_iff.1 hy).1]; exact hy
  have hil : i < out.length := (List.getElem?_eq_some_iff.1 hx).1
  refine ⟨old 0 h hI.first, addL_nodup _ _ hI.nodup, fun y hy => ?_, fun j y hj hy z hz => ?_, fun j y hj hy => ?_, ?_⟩
  · rcases (addL_mem _ _ _).1 hy with q | q
    · exact hI.valid y q
    · exact succs_valid ht (hI.valid x (List.mem_of_getElem? hx)) q
  · rw [addL_mem]
    by_cases e : j = i
    · subst e
      have : y = x := by rw [old j x hx] at hy; exact (Option.some.inj hy).symm
      subst this
      exact .inr hz
    · have hjl : j < out.length := by omega
      have : out[j]? = some y := by rw [hr, List.getElem?_append_left hjl] at hy; exact hy
      exact .inl (hI.closed j y (by omega) this z hz)
  · by_cases hjl : j < out.length
    · have : out[j]? = some y := by rw [hr, List.getElem?_append_left hjl] at hy; exact hy
      obtain ⟨j', x', h1, h2, h3⟩ := hI.from' j y hj this
      exact ⟨j', x', h1, old _ _ h2, h3⟩
    · exact ⟨i, x, by omega, old _ _ hx, addL_from (ts := ts) _ _ _ _ hy (by omega)⟩
  · have := addL_len (succs ts x) out; omega
theorem reachL_spec {ts : List Trade} (ht : ∀ t ∈ ts, tv t = true) {h : List Int} : ∀ (f i : Nat) (out L : List (List Int)), RInv ts h i out → out.length ≤ 400 → reachL ts f i out = some L → RInv ts h L.length L ∧ L.length ≤ 400
  | 0, _, _, _, _, _, e => by simp [reachL] at e
  | f + 1, i, out, L, hI, hl, e => by
    unfold reachL at e
    split at e
    · rename_i x hx
      split at e
      · cases e
      · rename_i h4
        exact reachL_spec ht f (i + 1) _ L (hI.step ht hx) (by omega) e
    · rename_i hx
      cases e
      have : out.length ≤ i := List.getElem?_eq_none_iff.1 hx
      have hi : i = out.length := by have := hI.le; omega
      subst hi
      exact ⟨hI, hl⟩
/-- What is said of what is reached. -/
structure Reach (ts : List Trade) (h : List Int) (L : List (List Int)) : Prop where
  first : L[0]? = some h
  nodup : L.Nodup
  valid : ∀ x ∈ L, vh 40 x = true
  closed : ∀ x ∈ L, ∀ y ∈ succs ts x, y ∈ L
  from' : ∀ j x, 0 < j → L[j]? = some x → ∃ j' x', j' < j ∧ L[j']? = some x' ∧ x ∈ succs ts x'
  len : L.length ≤ 400
  trades : ∀ t ∈ ts, tv t = true
theorem rinv_one {ts : List Trade} {h : List Int} (hh : vh 40 h = true) : RInv ts h 0 [h] :=
  ⟨rfl, by simp, fun x hx => by simp at hx; subst hx; exact hh, fun j x hj => by omega, fun j x hj hx => by
    have := (List.getElem?_eq_some_iff.1 hx).1; simp at this; omega, by simp⟩
theorem reach_of {ts : List Trade} {h : List Int} (hne : reachV ts h ≠ []) : Reach ts h (reachV ts h) ∧ vh 40 h = true ∧ tsV ts = true := by
  unfold reachV at hne ⊢
  split at hne
  · rename_i hv
    rw [if_pos hv]
    have ht := (tsV_of hv.2).1
    cases hr : reachL ts 402 0 [h] with
    | none => rw [hr] at hne; simp at hne
    | some L =>
      obtain ⟨h1, h2⟩ := reachL_spec ht 402 0 [h] L (rinv_one hv.1) (by simp) hr
      refine ⟨⟨h1.first, h1.nodup, h1.valid, fun x hx => ?_, h1.from', h2, ht⟩, hv.1, hv.2⟩
      obtain ⟨j, hj⟩ := List.getElem?_of_mem hx
      exact h1.closed j x (List.getElem?_eq_some_iff.1 hj).1 hj
  · exact absurd rfl hne
/-- Where all that is reached lies in few heaps, it is told. -/
theorem reachL_some {ts : List Trade} {M : List (List Int)} (hc : ∀ x ∈ M, ∀ y ∈ succs ts x, y ∈ M) (hM : M.length ≤ 400) : ∀ (f i : Nat) (out : List (List Int)), out.Nodup → (∀ x ∈ out, x ∈ M) → i ≤ out.length → 401 < f + i → ∃ L, reachL ts f i out = some L ∧ (∀ x ∈ L, x ∈ M) ∧ ∃ r, L = out ++ r
  | 0, i, out, hn, hs, hi, hf => by have := nodup_sub out M hn hs; omega
  | f + 1, i, out, hn, hs, hi, hf => by
    have hl := nodup_sub out M hn hs
    unfold reachL
    split
    · rename_i x hx
      have hs2 : ∀ y ∈ addL (succs ts x) out, y ∈ M := fun y hy => by
        rcases (addL_mem _ _ _).1 hy with q | q
        · exact hs y q
        · exact hc x (hs x (List.mem_of_getElem? hx)) y q
      have hn2 := addL_nodup (succs ts x) out hn
      have hl2 := nodup_sub _ M hn2 hs2
      rw [if_neg (by omega)]
      have hal := addL_len (succs ts x) out
      have hil : i < out.length := (List.getElem?_eq_some_iff.1 hx).1
      obtain ⟨L, e1, e2, r, e3⟩ := reachL_some hc hM f (i + 1) _ hn2 hs2 (by omega) (by omega)
      obtain ⟨r2, e4⟩ := addL_pre (succs ts x) out
      exact ⟨L, e1, e2, r2 ++ r, by rw [e3, e4, List.append_assoc]⟩
    · exact ⟨out, rfl, hs, [], by simp⟩
/-! The longest rows of exchanges: plain. -/
def best (R : List Int → Int) : List (List Int) → Int → Int
  | [], n => n
  | y :: r, n => best R r (max n (R y + 1))
def Sol (ts : List Trade) (L : List (List Int)) (R : List Int → Int) : Prop := ∀ x ∈ L, R x = best R (succs ts x) 0
def upd1 (R : List Int → Int) (x : List Int) (v : Int) : List Int → Int := fun y => if y = x then v else R y
def rnd (ts : List Trade) : List (List Int) → (List Int → Int) → Bool → (List Int → Int) × Bool
  | [], R, b => (R, b)
  | x :: r, R, b => if best R (succs ts x) 0 = R x then rnd ts r R b else rnd ts r (upd1 R x (best R (succs ts x) 0)) true
def iterI (ts : List Trade) (L : List (List Int)) (h : List Int) : Nat → (List Int → Int) → Int
  | 0, _ => -1
  | n + 1, R => if (rnd ts L R false).2 = true then iterI ts L h n (rnd ts L R false).1 else (rnd ts L R false).1 h
def bs (S : List Int → Int) : List (List Int) → Int → Int
  | [], b => b
  | y :: r, b => if S y < 0 then -1 else bs S r (max b (S y + 1))
def rs (ts : List Trade) : List (List Int) → (List Int → Int) → Bool → (List Int → Int) × Bool
  | [], S, m => (S, m)
  | x :: r, S, m => if 0 ≤ S x then rs ts r S m else rs ts r (upd1 S x (bs S (succs ts x) 0)) (m || decide (bs S (succs ts x) 0 ≥ 0))
def iterS (ts : List Trade) (L : List (List Int)) (h : List Int) : Nat → (List Int → Int) → Int
  | 0, S => S h
  | n + 1, S => if (rs ts L.reverse S false).2 = true then iterS ts L h n (rs ts L.reverse S false).1 else (rs ts L.reverse S false).1 h
theorem best_ge (R : List Int → Int) : ∀ (ys : List (List Int)) (n : Int), n ≤ best R ys n ∧ ∀ y ∈ ys, R y + 1 ≤ best R ys n
  | [], n => ⟨Int.le_refl _, fun y hy => by simp at hy⟩
  | z :: r, n => by
    have ih := best_ge R r (max n (R z + 1))
    unfold best
    refine ⟨by omega, fun y hy => ?_⟩
    rcases List.mem_cons.1 hy with rfl | hy
    · omega
    · exact ih.2 y hy
theorem best_at (R : List Int → Int) : ∀ (ys : List (List Int)) (n : Int), best R ys n = n ∨ ∃ y ∈ ys, best R ys n = R y + 1
  | [], n => .inl rfl
  | z :: r, n => by
    unfold best
    rcases best_at R r (max n (R z + 1)) with h | ⟨y, hy, h⟩
    · rw [h]
      by_cases hm : n ≤ R z + 1
      · exact .inr ⟨z, by simp, by omega⟩
      · exact .inl (by omega)
    · exact .inr ⟨y, by simp [hy], h⟩
theorem best_congr {R R' : List Int → Int} : ∀ (ys : List (List Int)) (n : Int), (∀ y ∈ ys, R y = R' y) → best R ys n = best R' ys n
  | [], _, _ => rfl
  | z :: r, n, h => by
    unfold best
    rw [h z (by simp)]
    exact best_congr r _ (fun y hy => h y (by simp [hy]))
theorem Sol.nonneg {ts : List Trade} {L : List (List Int)} {R : List Int → Int} (h : Sol ts L R) {x : List Int} (hx : x ∈ L) : 0 ≤ R x := by rw [h x hx]; exact (best_ge R _ 0).1
theorem Sol.lt {ts : List Trade} {L : List (List Int)} {R : List Int → Int} (h : Sol ts L R) {x : List Int} (hx : x ∈ L) {y : List Int} (hy : y ∈ succs ts x) : R y + 1 ≤ R x := by rw [h x hx]; exact (best_ge R _ 0).2 y hy
theorem sol_unique {ts : List Trade} {L : List (List Int)} (hc : ∀ x ∈ L, ∀ y ∈ succs ts x, y ∈ L) {R R' : List Int → Int} (h : Sol ts L R) (h' : Sol ts L R') : ∀ (v : Nat) (x : List Int), x ∈ L → R x ≤ v → R' x = R x := by
  intro v
  induction v with
  | zero =>
    intro x hx hv
    rw [h' x hx]
    refine Eq.trans ?_ (h x hx).symm
    refine best_congr _ _ (fun y hy => ?_)
    have h1 := h.lt hx hy
    have h2 := h.nonneg (hc x hx y hy)
    omega
  | succ v ih =>
    intro x hx hv
    rw [h' x hx]
    refine Eq.trans ?_ (h x hx).symm
    refine best_congr _ _ (fun y hy => ?_)
    have h1 := h.lt hx hy
    exact ih y (hc x hx y hy) (by omega)
theorem sol_same {ts : List Trade} {L : List (List Int)} (hc : ∀ x ∈ L, ∀ y ∈ succs ts x, y ∈ L) {R R' : List Int → Int} (h : Sol ts L R) (h' : Sol ts L R') {x : List Int} (hx : x ∈ L) : R' x = R x :=
  sol_unique hc h h' (R x).toNat x hx (by have := h.nonneg hx; omega)
theorem pigeon : ∀ (m : Nat) (l : List Int), (∀ u : Nat, u ≤ m → (u : Int) ∈ l) → m + 1 ≤ l.length
  | 0, l, h => List.length_pos_of_mem (h 0 (Nat.le_refl _))
  | m + 1, l, h => by
    have hm := h (m + 1) (Nat.le_refl _)
    have h1 := pigeon m (l.erase ((m + 1 : Nat) : Int)) (fun u hu => (List.mem_erase_of_ne (by omega)).2 (h u (by omega)))
    have h2 := List.length_erase_of_mem hm
    have h3 := List.length_pos_of_mem hm
    omega
theorem sol_all {ts : List Trade} {L : List (List Int)} (hc : ∀ x ∈ L, ∀ y ∈ succs ts x, y ∈ L) {R : List Int → Int} (h : Sol ts L R) : ∀ (v : Nat) (x : List Int), x ∈ L → R x = v → ∀ u : Nat, u ≤ v → ∃ y ∈ L, R y = u := by
  intro v
  induction v with
  | zero => intro x hx hv u hu; exact ⟨x, hx, by omega⟩
  | succ v ih =>
    intro x hx hv u hu
    by_cases e : u = v + 1
    · exact ⟨x, hx, by omega⟩
    · rcases best_at R (succs ts x) 0 with h1 | ⟨y, hy, h1⟩
      · have := h x hx; omega
      · have := h x hx
        exact ih y (hc x hx y hy) (by omega) u (by omega)
theorem sol_lt {ts : List Trade} {L : List (List Int)} (hc : ∀ x ∈ L, ∀ y ∈ succs ts x, y ∈ L) {R : List Int → Int} (h : Sol ts L R) {x : List Int} (hx : x ∈ L) : R x < (L.length : Int) := by
  have h0 := h.nonneg hx
  have hp := pigeon (R x).toNat (L.map R) (fun u hu => by
    obtain ⟨y, hy, e⟩ := sol_all hc h (R x).toNat x hx (by omega) u hu
    exact List.mem_map.2 ⟨y, hy, e⟩)
  rw [List.length_map] at hp
  omega
/-! The program's rounds. -/
theorem rnd_true (ts : List Trade) : ∀ (l : List (List Int)) (R : List Int → Int), (rnd ts l R true).2 = true
  | [], _ => rfl
  | x :: r, R => by
    unfold rnd
    split
    · exact rnd_true ts r R
    · exact rnd_true ts r _
theorem rnd_same {ts : List Trade} : ∀ (l : List (List Int)) (R : List Int → Int), (rnd ts l R false).2 = false → (rnd ts l R false).1 = R ∧ ∀ x ∈ l, R x = best R (succs ts x) 0
  | [], R, _ => ⟨rfl, fun x hx => by simp at hx⟩
  | x :: r, R, h => by
    unfold rnd at h ⊢
    split at h
    · rename_i e
      rw [if_pos e]
      obtain ⟨h1, h2⟩ := rnd_same r R h
      refine ⟨h1, fun y hy => ?_⟩
      rcases List.mem_cons.1 hy with rfl | hy
      · exact e.symm
      · exact h2 y hy
    · rw [rnd_true] at h; cases h
theorem rnd_fix {ts : List Trade} {R : List Int → Int} {b : Bool} : ∀ l : List (List Int), (∀ x ∈ l, R x = best R (succs ts x) 0) → rnd ts l R b = (R, b)
  | [], _ => rfl
  | x :: r, h => by
    unfold rnd
    rw [if_pos (h x (by simp)).symm]
    exact rnd_fix r (fun y hy => h y (by simp [hy]))
theorem rnd_exact {ts : List Trade} {L : List (List Int)} (hc : ∀ x ∈ L, ∀ y ∈ succs ts x, y ∈ L) {Q : List Int → Int} (hQ : Sol ts L Q) (v : Int) : ∀ (l : List (List Int)) (R : List Int → Int) (b : Bool), (∀ x ∈ l, x ∈ L) → (∀ x ∈ L, Q x ≤ v → R x = Q x) →
    (∀ z ∈ L, Q z ≤ v + 1 → R z = Q z → (rnd ts l R b).1 z = Q z) ∧ (∀ z ∈ l, Q z ≤ v + 1 → (rnd ts l R b).1 z = Q z)
  | [], R, b, _, _ => ⟨fun z _ _ h => h, fun z hz => by simp at hz⟩
  | x :: r, R, b, hl, hE => by
    have hx := hl x (by simp)
    have hbest : Q x ≤ v + 1 → best R (succs ts x) 0 = Q x := fun hv => by
      rw [hQ x hx]
      refine best_congr _ _ (fun y hy => hE y (hc x hx y hy) ?_)
      have := hQ.lt hx hy
      omega
    have hE' : ∀ z ∈ L, Q z ≤ v + 1 → R z = Q z → upd1 R x (best R (succs ts x) 0) z = Q z := fun z hz hv e => by
      unfold upd1
      by_cases h : z = x
      · subst h; rw [if_pos rfl]; exact hbest hv
      · rw [if_neg h]; exact e
    unfold rnd
    split
    · rename_i e
      obtain ⟨i1, i2⟩ := rnd_exact hc hQ v r R b (fun y hy => hl y (by simp [hy])) hE
      refine ⟨i1, fun z hz hv => ?_⟩
      rcases List.mem_cons.1 hz with rfl | hz
      · exact i1 z hx hv (by rw [← e]; exact hbest hv)
      · exact i2 z hz hv
    · obtain ⟨i1, i2⟩ := rnd_exact hc hQ v r (upd1 R x (best R (succs ts x) 0)) true (fun y hy => hl y (by simp [hy])) (fun z hz hv => hE' z hz (by omega) (hE z hz hv))
      refine ⟨fun z hz hv e => i1 z hz hv (hE' z hz hv e), fun z hz hv => ?_⟩
      rcases List.mem_cons.1 hz with rfl | hz
      · refine i1 z hx hv ?_
        unfold upd1
        rw [if_pos rfl]; exact hbest hv
      · exact i2 z hz hv
theorem iterI_sol {ts : List Trade} {L : List (List Int)} {h : List Int} (hh : h ∈ L) (hc : ∀ x ∈ L, ∀ y ∈ succs ts x, y ∈ L) {Q : List Int → Int} (hQ : Sol ts L Q) : ∀ (n : Nat) (v : Nat) (R : List Int → Int), (∀ x ∈ L, Q x ≤ (v : Int) → R x = Q x) → L.length ≤ n + 1 + v → iterI ts L h (n + 1) R = Q h := by
  intro n
  induction n with
  | zero =>
    intro v R hE hn
    have hall : ∀ x ∈ L, R x = Q x := fun x hx => hE x hx (by have := sol_lt hc hQ hx; omega)
    unfold iterI
    rw [rnd_fix L (fun x hx => by rw [hall x hx, hQ x hx]; exact (best_congr _ _ (fun y hy => hall y (hc x hx y hy))).symm)]
    exact hall h hh
  | succ n ih =>
    intro v R hE hn
    unfold iterI
    cases hb : (rnd ts L R false).2 with
    | false =>
      obtain ⟨h1, h2⟩ := rnd_same L R hb
      rw [if_neg (by simp), h1]
      exact sol_same hc hQ (R' := R) h2 hh
    | true =>
      rw [if_pos rfl]
      exact ih (v + 1) _ (fun x hx hv => (rnd_exact hc hQ (v : Int) L R false (fun _ h => h) hE).2 x hx (by omega)) (by omega)
theorem iterI_none {ts : List Trade} {L : List (List Int)} {h : List Int} (hn : ¬ ∃ Q, Sol ts L Q) : ∀ (n : Nat) (R : List Int → Int), iterI ts L h n R = -1
  | 0, _ => rfl
  | n + 1, R => by
    unfold iterI
    cases hb : (rnd ts L R false).2 with
    | false => exact absurd ⟨R, (rnd_same L R hb).2⟩ hn
    | true => rw [if_pos rfl]; exact iterI_none hn n _
/-! The reference's rounds. -/
theorem bs_all {S : List Int → Int} : ∀ (ys : List (List Int)) (b : Int), (∀ y ∈ ys, 0 ≤ S y) → bs S ys b = best S ys b
  | [], _, _ => rfl
  | z :: r, b, h => by
    have := h z (by simp)
    unfold bs best
    rw [if_neg (by omega)]
    exact bs_all r _ (fun y hy => h y (by simp [hy]))
theorem bs_neg {S : List Int → Int} : ∀ (ys : List (List Int)) (b : Int), (∃ y ∈ ys, S y < 0) → bs S ys b = -1
  | [], _, h => by obtain ⟨y, hy, _⟩ := h; simp at hy
  | z :: r, b, h => by
    unfold bs
    by_cases hz : S z < 0
    · rw [if_pos hz]
    · rw [if_neg hz]
      obtain ⟨y, hy, h1⟩ := h
      rcases List.mem_cons.1 hy with rfl | hy
      · exact absurd h1 hz
      · exact bs_neg r _ ⟨y, hy, h1⟩
def SI (ts : List Trade) (L : List (List Int)) (S : List Int → Int) : Prop := ∀ x ∈ L, S x = -1 ∨ (0 ≤ S x ∧ (∀ y ∈ succs ts x, 0 ≤ S y) ∧ S x = best S (succs ts x) 0)
theorem all_or (S : List Int → Int) (ys : List (List Int)) : (∀ y ∈ ys, 0 ≤ S y) ∨ ∃ y ∈ ys, S y < 0 := by
  by_cases h : ∃ y ∈ ys, S y < 0
  · exact .inr h
  · exact .inl fun y hy => by
      by_cases h2 : S y < 0
      · exact absurd ⟨y, hy, h2⟩ h
      · omega
theorem upd_self {S : List Int → Int} {x : List Int} {v : Int} (h : S x = v) : upd1 S x v = S := by
  funext y
  unfold upd1
  split
  · rename_i e; rw [e, h]
  · rfl
/-- One step of a round. -/
theorem step_si {ts : List Trade} {L : List (List Int)} {S : List Int → Int} (hS : SI ts L S) {x : List Int} (hx : x ∈ L) (hu : ¬ 0 ≤ S x) :
    SI ts L (upd1 S x (bs S (succs ts x) 0)) ∧ (∀ z, 0 ≤ S z → upd1 S x (bs S (succs ts x) 0) z = S z) ∧ ((∀ y ∈ succs ts x, 0 ≤ S y) → 0 ≤ upd1 S x (bs S (succs ts x) 0) x ∧ 0 ≤ bs S (succs ts x) 0) ∧ ((∃ y ∈ succs ts x, S y < 0) → upd1 S x (bs S (succs ts x) 0) = S ∧ bs S (succs ts x) 0 = -1) := by
  have hkeep : ∀ z, 0 ≤ S z → upd1 S x (bs S (succs ts x) 0) z = S z := fun z hz => by
    unfold upd1
    rw [if_neg (fun e => hu (by rw [← e]; exact hz))]
  have hneg : (∃ y ∈ succs ts x, S y < 0) → upd1 S x (bs S (succs ts x) 0) = S ∧ bs S (succs ts x) 0 = -1 := fun h => by
    have h1 := bs_neg (succs ts x) 0 h
    rw [h1]
    exact ⟨upd_self ((hS x hx).resolve_right (fun q => hu q.1)), rfl⟩
  have hpos : (∀ y ∈ succs ts x, 0 ≤ S y) → 0 ≤ upd1 S x (bs S (succs ts x) 0) x ∧ 0 ≤ bs S (succs ts x) 0 := fun h => by
    have h1 := bs_all (succs ts x) 0 h
    have h2 := (best_ge S (succs ts x) 0).1
    rw [h1]
    unfold upd1
    rw [if_pos rfl]
    exact ⟨h2, h2⟩
  refine ⟨?_, hkeep, hpos, hneg⟩
  rcases all_or S (succs ts x) with h | h
  · intro z hz
    by_cases e : z = x
    · subst e
      refine .inr ⟨(hpos h).1, fun y hy => by rw [hkeep y (h y hy)]; exact h y hy, ?_⟩
      have h1 : upd1 S z (bs S (succs ts z) 0) z = bs S (succs ts z) 0 := by unfold upd1; rw [if_pos rfl]
      rw [h1, bs_all _ _ h]
      exact best_congr _ _ (fun y hy => by rw [← bs_all (succs ts z) 0 h, hkeep y (h y hy)])
    · have h1 : upd1 S x (bs S (succs ts x) 0) z = S z := by unfold upd1; rw [if_neg e]
      rcases hS z hz with q | ⟨q1, q2, q3⟩
      · exact .inl (h1.trans q)
      · refine .inr ⟨by rw [h1]; exact q1, fun y hy => by rw [hkeep y (q2 y hy)]; exact q2 y hy, ?_⟩
        rw [h1, q3]
        exact best_congr _ _ (fun y hy => (hkeep y (q2 y hy)).symm)
  · rw [(hneg h).1]; exact hS
theorem rs_spec {ts : List Trade} {L : List (List Int)} : ∀ (l : List (List Int)) (S : List Int → Int) (m : Bool), (∀ x ∈ l, x ∈ L) → SI ts L S →
    SI ts L (rs ts l S m).1 ∧ (∀ z, 0 ≤ S z → (rs ts l S m).1 z = S z) ∧ (∀ x ∈ l, (∀ y ∈ succs ts x, 0 ≤ S y) → 0 ≤ (rs ts l S m).1 x) ∧
    ((rs ts l S m).2 = false → m = false ∧ (rs ts l S m).1 = S ∧ ∀ x ∈ l, 0 ≤ S x ∨ ∃ y ∈ succs ts x, S y < 0)
  | [], S, m, _, hS => ⟨hS, fun _ _ => rfl, fun x hx => by simp at hx, fun h => ⟨h, rfl, fun x hx => by simp at hx⟩⟩
  | x :: r, S, m, hl, hS => by
    have hx := hl x (by simp)
    unfold rs
    by_cases hd : 0 ≤ S x
    · rw [if_pos hd]
      obtain ⟨i1, i2, i3, i4⟩ := rs_spec r S m (fun y hy => hl y (by simp [hy])) hS
      refine ⟨i1, i2, fun z hz hy => ?_, fun h => ?_⟩
      · rcases List.mem_cons.1 hz with rfl | hz
        · rw [i2 z hd]; exact hd
        · exact i3 z hz hy
      · obtain ⟨j1, j2, j3⟩ := i4 h
        refine ⟨j1, j2, fun z hz => ?_⟩
        rcases List.mem_cons.1 hz with rfl | hz
        · exact .inl hd
        · exact j3 z hz
    · rw [if_neg hd]
      obtain ⟨s1, s2, s3, s4⟩ := step_si hS hx hd
      obtain ⟨i1, i2, i3, i4⟩ := rs_spec r _ (m || decide (bs S (succs ts x) 0 ≥ 0)) (fun y hy => hl y (by simp [hy])) s1
      refine ⟨i1, fun z hz => ?_, fun z hz hy => ?_, fun h => ?_⟩
      · rw [i2 z (by rw [s2 z hz]; exact hz), s2 z hz]
      · rcases List.mem_cons.1 hz with rfl | hz
        · have := (s3 hy).1
          rw [i2 z this]; exact this
        · exact i3 z hz (fun y hyy => by rw [s2 y (hy y hyy)]; exact hy y hyy)
      · obtain ⟨j1, j2, j3⟩ := i4 h
        rw [Bool.or_eq_false_iff, decide_eq_false_iff_not] at j1
        rcases all_or S (succs ts x) with q | q
        · have := (s3 q).2; omega
        · obtain ⟨q1, q2⟩ := s4 q
          rw [q1] at j2 j3 ⊢
          refine ⟨j1.1, j2, fun z hz => ?_⟩
          rcases List.mem_cons.1 hz with rfl | hz
          · exact .inr q
          · exact j3 z hz
theorem done_val {ts : List Trade} {L : List (List Int)} (hc : ∀ x ∈ L, ∀ y ∈ succs ts x, y ∈ L) {Q S : List Int → Int} (hQ : Sol ts L Q) (hS : SI ts L S) : ∀ (v : Nat) (x : List Int), x ∈ L → 0 ≤ S x → S x ≤ v → S x = Q x := by
  intro v
  induction v with
  | zero =>
    intro x hx h0 hv
    rcases hS x hx with q | ⟨q1, q2, q3⟩
    · omega
    · rw [q3, hQ x hx]
      refine best_congr _ _ (fun y hy => ?_)
      have := (best_ge S (succs ts x) 0).2 y hy
      have := q2 y hy
      omega
  | succ v ih =>
    intro x hx h0 hv
    rcases hS x hx with q | ⟨q1, q2, q3⟩
    · omega
    · rw [q3, hQ x hx]
      refine best_congr _ _ (fun y hy => ih y (hc x hx y hy) (q2 y hy) ?_)
      have := (best_ge S (succs ts x) 0).2 y hy
      omega
theorem iterS_sol {ts : List Trade} {L : List (List Int)} {h : List Int} (hh : h ∈ L) (hc : ∀ x ∈ L, ∀ y ∈ succs ts x, y ∈ L) {Q : List Int → Int} (hQ : Sol ts L Q) : ∀ (n v : Nat) (S : List Int → Int), SI ts L S → (∀ x ∈ L, Q x < (v : Int) → 0 ≤ S x) → L.length ≤ n + v → iterS ts L h n S = Q h := by
  intro n
  induction n with
  | zero =>
    intro v S hS hE hn
    have h0 := hE h hh (by have := sol_lt hc hQ hh; omega)
    exact done_val hc hQ hS (S h).toNat h hh h0 (by omega)
  | succ n ih =>
    intro v S hS hE hn
    obtain ⟨i1, i2, i3, i4⟩ := rs_spec L.reverse S false (fun x hx => List.mem_reverse.1 hx) hS
    unfold iterS
    cases hb : (rs ts L.reverse S false).2 with
    | true =>
      rw [if_pos rfl]
      refine ih (v + 1) _ i1 (fun x hx hv => i3 x (List.mem_reverse.2 hx) (fun y hy => hE y (hc x hx y hy) ?_)) (by omega)
      have := hQ.lt hx hy
      omega
    | false =>
      rw [if_neg (by simp)]
      obtain ⟨_, j2, j3⟩ := i4 hb
      rw [j2]
      have all : ∀ (u : Nat) (x : List Int), x ∈ L → Q x < (u : Int) → 0 ≤ S x := by
        intro u
        induction u with
        | zero => intro x hx hu; have := hQ.nonneg hx; omega
        | succ u ihu =>
          intro x hx hu
          rcases j3 x (List.mem_reverse.2 hx) with q | ⟨y, hy, q⟩
          · exact q
          · have := hQ.lt hx hy
            have := ihu y (hc x hx y hy) (by omega)
            omega
      have h0 := all ((Q h).toNat + 1) h hh (by have := hQ.nonneg hh; omega)
      exact done_val hc hQ hS (S h).toNat h hh h0 (by omega)
theorem iterS_none {ts : List Trade} {L : List (List Int)} {h : List Int} (hR : Reach ts h L) (hn : ¬ ∃ Q, Sol ts L Q) : ∀ (n : Nat) (S : List Int → Int), SI ts L S → iterS ts L h n S = -1 := by
  have hh : h ∈ L := List.mem_of_getElem? hR.first
  have fin : ∀ S : List Int → Int, SI ts L S → S h = -1 := fun S hS => by
    rcases hS h hh with q | ⟨q1, q2, q3⟩
    · exact q
    · exfalso
      have all : ∀ (j : Nat) (x : List Int), L[j]? = some x → 0 ≤ S x := by
        intro j
        induction j using Nat.strongRecOn with
        | _ j ih =>
          intro x hx
          by_cases h0 : j = 0
          · subst h0
            have : x = h := by rw [hR.first] at hx; exact (Option.some.inj hx).symm
            rw [this]; exact q1
          · obtain ⟨j', x', h1, h2, h3⟩ := hR.from' j x (by omega) hx
            have h4 := ih j' h1 x' h2
            rcases hS x' (List.mem_of_getElem? h2) with p | ⟨p1, p2, p3⟩
            · omega
            · exact p2 x h3
      refine hn ⟨S, fun x hx => ?_⟩
      obtain ⟨j, hj⟩ := List.getElem?_of_mem hx
      have := all j x hj
      rcases hS x hx with p | ⟨p1, p2, p3⟩
      · omega
      · exact p3
  intro n
  induction n with
  | zero => intro S hS; exact fin S hS
  | succ n ih =>
    intro S hS
    obtain ⟨i1, _⟩ := rs_spec L.reverse S false (fun x hx => List.mem_reverse.1 hx) hS
    unfold iterS
    split
    · exact ih _ i1
    · exact fin _ i1
def longV (ts : List Trade) (h : List Int) : Int := if reachV ts h = [] then -1 else iterI ts (reachV ts h) h (reachV ts h).length (fun _ => 0)
theorem long_cases {ts : List Trade} {h : List Int} (hne : reachV ts h ≠ []) : (∃ Q, Sol ts (reachV ts h) Q ∧ longV ts h = Q h ∧ 0 ≤ Q h ∧ iterS ts (reachV ts h) h ((reachV ts h).length + 1) (fun _ => -1) = Q h) ∨ ((¬ ∃ Q, Sol ts (reachV ts h) Q) ∧ longV ts h = -1 ∧ iterS ts (reachV ts h) h ((reachV ts h).length + 1) (fun _ => -1) = -1) := by
  obtain ⟨hR, _, _⟩ := reach_of hne
  have hh : h ∈ reachV ts h := List.mem_of_getElem? hR.first
  unfold longV
  rw [if_neg hne]
  have hsi : SI ts (reachV ts h) (fun _ => -1) := fun x _ => .inl rfl
  by_cases hx : ∃ Q, Sol ts (reachV ts h) Q
  · obtain ⟨Q, hQ⟩ := hx
    refine .inl ⟨Q, hQ, ?_, hQ.nonneg hh, iterS_sol hh hR.closed hQ _ 0 _ hsi (fun x hx hv => by have := hQ.nonneg hx; omega) (by omega)⟩
    have hl : 0 < (reachV ts h).length := List.length_pos_of_mem hh
    obtain ⟨n, hn⟩ : ∃ n, (reachV ts h).length = n + 1 := ⟨(reachV ts h).length - 1, by omega⟩
    rw [hn]
    exact iterI_sol hh hR.closed hQ n 0 _ (fun x hx hv => by have := hQ.nonneg hx; show (0 : Int) = Q x; omega) (by omega)
  · exact .inr ⟨hx, iterI_none hx _ _, iterS_none hR hx _ _ hsi⟩
/-- What comes of a heap that is reached. -/
theorem long_next {ts : List Trade} {h : List Int} (hne : reachV ts h ≠ []) {Q : List Int → Int} (hQ : Sol ts (reachV ts h) Q) {y : List Int} (hy : y ∈ reachV ts h) : longV ts y = Q y := by
  obtain ⟨hR, hh, htV⟩ := reach_of hne
  have hv := hR.valid y hy
  obtain ⟨L', e1, e2, r, e3⟩ := reachL_some hR.closed hR.len 402 0 [y] (by simp) (fun x hx => by simp at hx; subst hx; exact hy) (by simp) (by omega)
  have hV : reachV ts y = L' := by unfold reachV; rw [if_pos ⟨hv, htV⟩, e1]; rfl
  have hne' : reachV ts y ≠ [] := by rw [hV, e3]; simp
  have hy' : y ∈ reachV ts y := by rw [hV, e3]; simp
  have hQ' : Sol ts (reachV ts y) Q := fun x hx => hQ x (e2 x (by rw [← hV]; exact hx))
  rcases long_cases hne' with ⟨Q', h1, h2, _⟩ | ⟨h1, _⟩
  · rw [h2]
    exact sol_same (reach_of hne').1.closed hQ' h1 hy'
  · exact absurd ⟨Q, hQ'⟩ h1
/-- Where it is told, it comes of a way to count. -/
theorem long_sol {ts : List Trade} {h : List Int} (hn : 0 ≤ longV ts h) : reachV ts h ≠ [] ∧ ∃ Q, Sol ts (reachV ts h) Q ∧ longV ts h = Q h := by
  have hne : reachV ts h ≠ [] := fun e => by
    have : longV ts h = -1 := by unfold longV; rw [if_pos e]
    omega
  refine ⟨hne, ?_⟩
  rcases long_cases hne with ⟨Q, h1, h2, _⟩ | ⟨_, h2, _⟩
  · exact ⟨Q, h1, h2⟩
  · omega
theorem long_neg {ts : List Trade} {h : List Int} (hn : ¬ 0 ≤ longV ts h) : longV ts h = -1 := by
  by_cases hne : reachV ts h = []
  · unfold longV; rw [if_pos hne]
  · rcases long_cases hne with ⟨Q, h1, h2, h3, _⟩ | ⟨_, h2, _⟩
    · omega
    · exact h2
/-! Heaps that are reached: both sides. -/
def keyT (x : List Int) : Int × Int × Int := (x.getD 0 0, x.getD 1 0, x.getD 2 0)
theorem mp_get_set (t : Ty) (k j : Int × Int × Int) (y : Den t) : ∀ M : List ((Int × Int × Int) × Den t), mpGet t k (mpSet t j y M) = if k = j then y else mpGet t k M
  | [] => by
    simp only [mpSet, mpGet]
  | e :: M => by
    simp only [mpSet]
    by_cases h : j = e.1
    · rw [if_pos h]
      simp only [mpGet]
      by_cases hk : k = j
      · rw [if_pos hk, if_pos hk]
      · rw [if_neg hk, if_neg hk, if_neg (fun e' => hk (e'.trans h.symm))]
    · rw [if_neg h]
      simp only [mpGet]
      by_cases hk : k = e.1
      · rw [if_pos hk, if_pos hk, if_neg (fun e' => h (e'.symm.trans hk))]
      · rw [if_neg hk, if_neg hk]; exact mp_get_set t k j y M
theorem three {x : List Int} (h : vh 40 x = true) : ∃ a b c, x = [a, b, c] ∧ 0 ≤ a ∧ a ≤ 40 ∧ 0 ≤ b ∧ b ≤ 40 ∧ 0 ≤ c ∧ c ≤ 40 := by
  obtain ⟨h3, h0⟩ := vh_len h
  match x, h3, h0 with
  | [a, b, c], _, h0 =>
    have ha := h0 a (by simp)
    have hb := h0 b (by simp)
    have hc := h0 c (by simp)
    exact ⟨a, b, c, rfl, ha.1, ha.2, hb.1, hb.2, hc.1, hc.2⟩
theorem keyT_inj {x y : List Int} (hx : vh 40 x = true) (hy : vh 40 y = true) (h : keyT x = keyT y) : x = y := by
  obtain ⟨a, b, c, rfl, _⟩ := three hx
  obtain ⟨d, e, f, rfl, _⟩ := three hy
  simp [keyT] at h
  obtain ⟨rfl, rfl, rfl⟩ := h
  rfl
def codeZ (x : List Int) : Int := (x.getD 0 0 * 41 + x.getD 1 0) * 41 + x.getD 2 0
theorem codeZ_in {x : List Int} (hx : vh 40 x = true) : 0 ≤ codeZ x ∧ codeZ x < 68921 := by
  obtain ⟨a, b, c, rfl, h⟩ := three hx
  simp [codeZ]
  omega
theorem codeZ_inj {x y : List Int} (hx : vh 40 x = true) (hy : vh 40 y = true) (h : codeZ x = codeZ y) : x = y := by
  obtain ⟨a, b, c, rfl, _⟩ := three hx
  obtain ⟨d, e, f, rfl, _⟩ := three hy
  simp [codeZ] at h
  have h1 : c = f := by omega
  have h2 : b = e := by omega
  have h3 : a = d := by omega
  rw [h1, h2, h3]
theorem l8Code_ev {x : List Int} (hx : vh 40 x = true) : Ev (fun k => spec_l8Code.f k x) (codeZ x) := by
  obtain ⟨a, b, c, rfl, h⟩ := three hx
  refine ev_succ (fun k => spec_l8Code.f_eq k _) (ev_gd (by simp) (ev_gd (by simp) (ev_gd (by simp) (ev_some.2 ?_))))
  show wr (wr (wr (wr (a * 41) + b) * 41) + c) = (a * 41 + b) * 41 + c
  rw [w64 (x := a * 41) (by omega) (by omega), w64 (x := a * 41 + b) (by omega) (by omega), w64 (x := (a * 41 + b) * 41) (by omega) (by omega), w64 (by omega) (by omega)]
theorem cloneI_ev (x : List Int) (h : x.length < lim) : Ev (fun k => slices_Clone_int_int.f k x) x := by
  have : (fun k => slices_Clone_int_int.f k x) = fun k => gate (decide (0 + x.length < lim)) (some x) := funext fun k => slices_Clone_int_int.f_eq k x
  rw [this]
  exact ev_gd (by omega) (ev_some.2 rfl)
theorem at_out {out : List (List Int)} {i : Nat} {x : List Int} (h : out[i]? = some x) : out.getD (i : Int).toNat ([] : List Int) = x := by
  rw [Int.toNat_natCast, List.getD_eq_getElem?_getD, h]; rfl
theorem at_tr {ts : List Trade} {i : Nat} (h : i < ts.length) : ts.getD (i : Int).toNat (⟨([] : List Int), ([] : List Int)⟩ : Trade) = ts[i] := by
  rw [Int.toNat_natCast, List.getD_eq_getElem?_getD, List.getElem?_eq_getElem h]; rfl
theorem succs_cons (t : Trade) (ts : List Trade) (x : List Int) : succs (t :: ts) x = if (mvV x t).2 = true then (mvV x t).1 :: succs ts x else succs ts x := by
  unfold succs
  rw [List.filterMap_cons]
  by_cases h : (mvV x t).2 = true
  · rw [if_pos h, if_pos h]
  · rw [if_neg h, if_neg h]
theorem app_at {out : List (List Int)} {i : Nat} {x : List Int} (y : List Int) (h : out[i]? = some x) : (out ++ [y])[i]? = some x := by
  rw [List.getElem?_append_left (List.getElem?_eq_some_iff.1 h).1]; exact h
def MOk (M : List ((Int × Int × Int) × Bool)) (out : List (List Int)) : Prop := ∀ x, vh 40 x = true → (mpGet .bool (keyT x) M = true ↔ x ∈ out)
theorem MOk.add {M : List ((Int × Int × Int) × Bool)} {out : List (List Int)} (h : MOk M out) {y : List Int} (hy : vh 40 y = true) : MOk (mpSet .bool (keyT y) true M) (out ++ [y]) := by
  intro x hx
  rw [mp_get_set]
  by_cases e : keyT x = keyT y
  · rw [if_pos e, keyT_inj hx hy e]; simp
  · rw [if_neg e, h x hx]
    have : x ≠ y := fun e' => e (by rw [e'])
    simp [this]
theorem mv_len {x : List Int} {t : Trade} (hx : vh 40 x = true) (ht : tv t = true) (hd : (mvV x t).2 = true) : (mvV x t).1.length = 3 := (vh_len (mvV_ok hx ht hd)).1
theorem implReach_ev (h : List Int) (ts : List Trade) (hl : h.length ≤ 1048576) (h2 : ts.length ≤ 1048576) (hr : ∀ t ∈ ts, TrOk t) : Ev (fun k => impl_HeapsReached.f k h ts) (reachV ts h) := by
  refine ev_succ (fun k => impl_HeapsReached.f_eq k _ _) (ev_bind (ev_succ (fun k => impl_HeapsValid.f_eq k _) (ev_bind (thingsOk_ev h 40 (by omega)) (ev_some.2 rfl))) ?_)
  unfold reachV
  cases hh : vh 40 h with
  | false => exact ev_nt rfl (ev_some.2 (by simp))
  | true =>
    refine ev_nf rfl (ev_bind (implTsV_ev ts h2 hr) ?_)
    cases ht : tsV ts with
    | false => exact ev_nt rfl (ev_some.2 (by simp))
    | true =>
      rw [if_pos ⟨rfl, rfl⟩]
      have hts := (tsV_of ht).1
      have h4 := (tsV_of ht).2
      have inner : ∀ (d j i : Nat) (out : List (List Int)) (M : List ((Int × Int × Int) × Bool)) (x : List Int), j + d = ts.length → out[i]? = some x → vh 40 x = true → MOk M out → out.length ≤ 400 → ∀ r,
          ((addL (succs (ts.drop j) x) out).length ≤ 400 → ∀ M', MOk M' (addL (succs (ts.drop j) x) out) → Ev (fun k => impl_HeapsReached.l0 k ts (addL (succs (ts.drop j) x) out) M' (wr ((i : Int) + 1))) r) →
          ((addL (succs (ts.drop j) x) out).length > 400 → r = []) → Ev (fun k => impl_HeapsReached.l1 k ts out M (i : Int) ts (ts.length : Int) (j : Int)) r := by
        intro d
        induction d with
        | zero =>
          intro j i out M x hj hx hv hM ho r k1 k2
          refine ev_succ (fun k => impl_HeapsReached.l1_eq k _ _ _ _ _ _ _) (ev_df (by omega) ?_)
          rw [List.drop_eq_nil_of_le (show ts.length ≤ j by omega)] at k1
          exact k1 ho M hM
        | succ d ih =>
          intro j i out M x hj hx hv hM ho r k1 k2
          have hlt : j < ts.length := by omega
          have hil := (List.getElem?_eq_some_iff.1 hx).1
          have htj := hts ts[j] (List.getElem_mem hlt)
          rw [List.drop_eq_getElem_cons hlt, succs_cons] at k1 k2
          refine ev_succ (fun k => impl_HeapsReached.l1_eq k _ _ _ _ _ _ _) (ev_dt (by omega) (ev_gd (by omega) (ev_gd (by omega) ?_)))
          rw [at_out hx, at_tr hlt, w_succ (i := j) (by omega)]
          refine ev_bind (traded_ev hv htj) ?_
          cases hd : (mvV x ts[j]).2 with
          | false =>
            rw [hd] at k1 k2
            exact ev_nt rfl (ih (j + 1) i out M x (by omega) hx hv hM ho r k1 k2)
          | true =>
            rw [hd] at k1 k2
            simp only [if_true] at k1 k2
            have hy := mvV_ok hv htj hd
            have hy3 := mv_len hv htj hd
            unfold addL at k1 k2
            refine ev_nf rfl (ev_gd (by omega) ?_)
            by_cases hm : (mvV x ts[j]).1 ∈ out
            · rw [if_pos hm] at k1 k2
              exact ev_bt ((hM _ hy).2 hm) (ih (j + 1) i out M x (by omega) hx hv hM ho r k1 k2)
            · rw [if_neg hm] at k1 k2
              refine ev_bf (by cases hb : mpGet .bool (keyT (mvV x ts[j]).1) M with | false => exact hb | true => exact absurd ((hM _ hy).1 hb) hm) (ev_gd (by omega) (ev_gd (by rw [limE]; simp; omega) ?_))
              by_cases h400 : ((out ++ [(mvV x ts[j]).1]).length : Int) > 400
              · have := addL_len (succs (ts.drop (j + 1)) x) (out ++ [(mvV x ts[j]).1])
                exact ev_dt h400 (ev_some.2 (k2 (by omega)).symm)
              · refine ev_df h400 ?_
                exact ih (j + 1) i _ _ x (by omega) (app_at _ hx) hv (hM.add hy) (by omega) r k1 k2
      have outer : ∀ (f i : Nat) (out : List (List Int)) (M : List ((Int × Int × Int) × Bool)), out.length ≤ 400 → out ≠ [] → (∀ x ∈ out, vh 40 x = true) → MOk M out → i ≤ out.length → 401 < f + i → Ev (fun k => impl_HeapsReached.l0 k ts out M (i : Int)) ((reachL ts f i out).getD []) := by
        intro f
        induction f with
        | zero => intro i out M ho _ _ _ hi hf; omega
        | succ f ih =>
          intro i out M ho hne hv hM hi hf
          unfold reachL
          refine ev_succ (fun k => impl_HeapsReached.l0_eq k _ _ _ _) ?_
          cases hx : out[i]? with
          | none =>
            have := List.getElem?_eq_none_iff.1 hx
            refine ev_df (by omega) (ev_gate ?_ (ev_some.2 rfl))
            cases out with
            | nil => exact absurd rfl hne
            | cons a l => rfl
          | some x =>
            have hil := (List.getElem?_eq_some_iff.1 hx).1
            have hvx := hv x (List.mem_of_getElem? hx)
            refine ev_dt (by omega) (inner ts.length 0 i out M x (by omega) hx hvx hM ho _ ?_ ?_)
            · intro h400 M' hM'
              simp only [List.drop_zero] at h400 hM' ⊢
              rw [if_neg (by omega), w_succ (by omega)]
              have hal := addL_len (succs ts x) out
              refine ih (i + 1) _ M' h400 (fun e => by rw [e] at hal; simp at hal; exact hne hal) (fun y hy => ?_) hM' (by omega) (by omega)
              rcases (addL_mem _ _ _).1 hy with q | q
              · exact hv y q
              · exact succs_valid hts hvx q
            · intro h400
              simp only [List.drop_zero] at h400
              show (if (addL (succs ts x) out).length > 400 then none else reachL ts f (i + 1) (addL (succs ts x) out)).getD [] = []
              rw [if_pos h400]
              rfl
      refine ev_nf rfl (ev_bind (cloneI_ev h (by rw [limE]; omega)) (ev_gd (by rw [(vh_len hh).1]; omega) ?_))
      refine outer 402 0 [h] _ (by simp) (by simp) (fun x hx => by simp at hx; subst hx; exact hh) ?_ (by simp) (by omega)
      intro x hx
      show mpGet .bool (keyT x) (mpSet .bool (keyT h) true []) = true ↔ x ∈ [h]
      rw [mp_get_set]
      by_cases e : keyT x = keyT h
      · rw [if_pos e, keyT_inj hx hh e]; simp
      · rw [if_neg e]
        have : x ≠ h := fun e' => e (by rw [e'])
        simp [this, mpGet, zeroD]
def SOk (S : List Bool) (out : List (List Int)) : Prop := S.length = 68921 ∧ ∀ x, vh 40 x = true → (S.getD (codeZ x).toNat false = true ↔ x ∈ out)
theorem SOk.add {S : List Bool} {out : List (List Int)} (h : SOk S out) {y : List Int} (hy : vh 40 y = true) : SOk (S.set (codeZ y).toNat true) (out ++ [y]) := by
  refine ⟨by simp [h.1], fun x hx => ?_⟩
  have cx := codeZ_in hx
  have cy := codeZ_in hy
  have hlen := h.1
  rw [List.getD_eq_getElem?_getD, List.getElem?_set]
  by_cases e : (codeZ y).toNat = (codeZ x).toNat
  · rw [if_pos e, if_pos (by omega), codeZ_inj hx hy (by omega)]; simp
  · have := h.2 x hx
    rw [List.getD_eq_getElem?_getD] at this
    rw [if_neg e, this]
    have : x ≠ y := fun e' => e (by rw [e'])
    simp [this]
theorem tr_ok {t : Trade} (h : tv t = true) : TrOk t := by
  obtain ⟨⟨h1, _⟩, h2, _⟩ := tv_of h
  exact ⟨by unfold RowOk; omega, by unfold RowOk; omega⟩
theorem specReach_ev (h : List Int) (ts : List Trade) (hl : h.length ≤ 1048576) (h2 : ts.length ≤ 1048576) (hr : ∀ t ∈ ts, TrOk t) : Ev (fun k => spec_HeapsReached.f k h ts) (reachV ts h) := by
  refine ev_succ (fun k => spec_HeapsReached.f_eq k _ _) (ev_bind (ev_succ (fun k => spec_HeapsValid.f_eq k _) (ev_bind (l8List_ev h 40 (by omega)) (ev_some.2 rfl))) ?_)
  unfold reachV
  cases hh : vh 40 h with
  | false => exact ev_nt rfl (ev_some.2 (by simp))
  | true =>
    refine ev_nf rfl (ev_bind (specTsV_ev ts h2 hr) ?_)
    cases ht : tsV ts with
    | false => exact ev_nt rfl (ev_some.2 (by simp))
    | true =>
      rw [if_pos ⟨rfl, rfl⟩]
      have hts := (tsV_of ht).1
      have h4 := (tsV_of ht).2
      have inner : ∀ (d j i : Nat) (out : List (List Int)) (S : List Bool) (x : List Int), j + d = ts.length → out[i]? = some x → vh 40 x = true → SOk S out → out.length ≤ 400 + j → ∀ r,
          (∀ S', SOk S' (addL (succs (ts.drop j) x) out) → Ev (fun k => br (decide (((addL (succs (ts.drop j) x) out).length : Int) > 400)) (some ([] : List (List Int))) (spec_HeapsReached.l0 k ts (addL (succs (ts.drop j) x) out) S' (wr ((i : Int) + 1)))) r) →
          Ev (fun k => spec_HeapsReached.l1 k ts out S (i : Int) (j : Int)) r := by
        intro d
        induction d with
        | zero =>
          intro j i out S x hj hx hv hS ho r k1
          refine ev_succ (fun k => spec_HeapsReached.l1_eq k _ _ _ _ _) (ev_df (by omega) ?_)
          rw [List.drop_eq_nil_of_le (show ts.length ≤ j by omega)] at k1
          exact k1 S hS
        | succ d ih =>
          intro j i out S x hj hx hv hS ho r k1
          have hlt : j < ts.length := by omega
          have hil := (List.getElem?_eq_some_iff.1 hx).1
          have htj := hts ts[j] (List.getElem_mem hlt)
          rw [List.drop_eq_getElem_cons hlt, succs_cons] at k1
          refine ev_succ (fun k => spec_HeapsReached.l1_eq k _ _ _ _ _) (ev_dt (by omega) (ev_gd (by omega) (ev_gd (by omega) ?_)))
          rw [at_out hx, at_tr hlt, w_succ (i := j) (by omega)]
          have hdo := sDoT_ev x ts[j] (by rw [(vh_len hv).1]; omega) (tr_ok htj)
          rw [if_pos ⟨hv, htj⟩] at hdo
          refine ev_bind hdo ?_
          cases hd : (mvV x ts[j]).2 with
          | false =>
            rw [hd] at k1
            exact ev_bf rfl (ih (j + 1) i out S x (by omega) hx hv hS (by omega) r k1)
          | true =>
            rw [hd] at k1
            simp only [if_true] at k1
            have hy := mvV_ok hv htj hd
            have hc := codeZ_in hy
            have hS1 := hS.1
            unfold addL at k1
            refine ev_bt rfl (ev_bind (l8Code_ev hy) (ev_gd (by omega) ?_))
            by_cases hm : (mvV x ts[j]).1 ∈ out
            · rw [if_pos hm] at k1
              exact ev_nf ((hS.2 _ hy).2 hm) (ih (j + 1) i out S x (by omega) hx hv hS (by omega) r k1)
            · rw [if_neg hm] at k1
              refine ev_nt (by cases hb : S.getD (codeZ (mvV x ts[j]).1).toNat false with | false => rfl | true => exact absurd ((hS.2 _ hy).1 hb) hm) ?_
              refine ev_succ (fun k => spec_HeapsReached.j0_eq k _ _ _ _ _ _) (ev_bind (l8Code_ev hy) (ev_gd (by omega) (ev_gd (by omega) (ev_gd (by rw [limE]; simp; omega) ?_))))
              rw [w_succ (i := j) (by omega)]
              exact ih (j + 1) i _ _ x (by omega) (app_at _ hx) hv (hS.add hy) (by simp; omega) r k1
      have outer : ∀ (f i : Nat) (out : List (List Int)) (S : List Bool), out.length ≤ 400 → (∀ x ∈ out, vh 40 x = true) → SOk S out → i ≤ out.length → 401 < f + i → Ev (fun k => spec_HeapsReached.l0 k ts out S (i : Int)) ((reachL ts f i out).getD []) := by
        intro f
        induction f with
        | zero => intro i out S ho _ _ hi hf; omega
        | succ f ih =>
          intro i out S ho hv hS hi hf
          unfold reachL
          refine ev_succ (fun k => spec_HeapsReached.l0_eq k _ _ _ _) ?_
          cases hx : out[i]? with
          | none =>
            have := List.getElem?_eq_none_iff.1 hx
            exact ev_df (by omega) (ev_some.2 rfl)
          | some x =>
            have hil := (List.getElem?_eq_some_iff.1 hx).1
            have hvx := hv x (List.mem_of_getElem? hx)
            refine ev_dt (by omega) (inner ts.length 0 i out S x (by omega) hx hvx hS (by omega) _ ?_)
            intro S' hS'
            simp only [List.drop_zero] at hS' ⊢
            by_cases h400 : (addL (succs ts x) out).length > 400
            · rw [if_pos h400]
              exact ev_dt (by omega) (ev_some.2 rfl)
            · rw [if_neg h400, w_succ (by omega)]
              have hal := addL_len (succs ts x) out
              refine ev_df (by omega) (ih (i + 1) _ S' (by omega) (fun y hy => ?_) hS' (by omega) (by omega))
              rcases (addL_mem _ _ _).1 hy with q | q
              · exact hv y q
              · exact succs_valid hts hvx q
      have hc := codeZ_in hh
      refine ev_nf rfl (ev_gd (by rw [limE]; decide) (ev_gd (by rw [limE]; simp; omega) (ev_gd (by rw [limE]; simp) (ev_bind (l8Code_ev hh) (ev_gd (by rw [List.length_replicate]; omega) (ev_gd (by rw [List.length_replicate]; omega) ?_))))))
      refine outer 402 0 [h] _ (by simp) (fun x hx => by simp at hx; subst hx; exact hh) ?_ (by simp) (by omega)
      have hz : SOk (List.replicate (68921 : Int).toNat false) [] := ⟨by rw [List.length_replicate]; rfl, fun x hx => by
        have := codeZ_in hx
        rw [List.getD_eq_getElem?_getD, List.getElem?_replicate]
        split <;> simp⟩
      exact hz.add hh
/-! Two rows of numbers held against each other by the reference. -/
theorem eq_step1 {a b : List Int} {i : Nat} (h1 : i < a.length) (h2 : i < b.length) : decide (a.drop i = b.drop i) = (decide (a[i] = b[i]) && decide (a.drop (i + 1) = b.drop (i + 1))) := by
  have e : (a.drop i = b.drop i) ↔ (a[i] = b[i] ∧ a.drop (i + 1) = b.drop (i + 1)) := by
    have e1 := List.drop_eq_getElem_cons h1
    have e2 := List.drop_eq_getElem_cons h2
    constructor
    · intro h
      rw [e1, e2] at h
      exact ⟨(List.cons.inj h).1, (List.cons.inj h).2⟩
    · rintro ⟨h, h'⟩
      rw [e1, e2, h, h']
  rw [← Bool.decide_and]
  exact decide_eq_decide.2 e
theorem same_ev (a b : List Int) (ha : a.length ≤ 1000000000) : Ev (fun k => spec_l1Same.f k a b) (decide (a = b)) := by
  refine ev_succ (fun k => spec_l1Same.f_eq k _ _) ?_
  have loop : ∀ d i : Nat, i + d = a.length → i ≤ b.length → Ev (fun k => spec_l1Same.l0 k a b (i : Int)) (decide (a.drop i = b.drop i)) := by
    intro d
    induction d with
    | zero =>
      intro i hi hb
      refine ev_succ (fun k => spec_l1Same.l0_eq k _ _ _) (ev_df (by omega) (ev_some.2 ?_))
      rw [List.drop_eq_nil_of_le (by omega : a.length ≤ i)]
      by_cases h : a.length = b.length
      · rw [List.drop_eq_nil_of_le (by omega)]; simp [h]
      · rw [decide_eq_false (by omega)]
        refine (decide_eq_false (fun h2 => h ?_)).symm
        have := congrArg List.length h2
        rw [List.length_drop] at this
        simp at this
        omega
    | succ d ih =>
      intro i hi hb
      refine ev_succ (fun k => spec_l1Same.l0_eq k _ _ _) (ev_dt (by omega) ?_)
      by_cases h : i < b.length
      · refine ev_dt (by omega) (ev_gd (by omega) (ev_gd (by omega) ?_))
        rw [get_nat (by omega : i < a.length), get_nat h, eq_step1 (by omega) h, w_succ (by omega)]
        cases h : decide (a[i] = b[i]) with
        | false => exact ev_nt rfl (ev_some.2 rfl)
        | true => exact ev_nf rfl (by rw [Bool.true_and]; exact ih (i + 1) (by omega) (by omega))
      · refine ev_df (by omega) (ev_some.2 ?_)
        rw [decide_eq_false (by omega), List.drop_eq_nil_of_le (by omega : b.length ≤ i)]
        refine (decide_eq_false (fun h2 => ?_)).symm
        have := congrArg List.length h2
        rw [List.length_drop] at this
        simp at this
        omega
  exact loop a.length 0 (by omega) (by omega)
/-! The longest rows of exchanges: both sides. -/
def NOk (M : List ((Int × Int × Int) × Int)) (R : List Int → Int) : Prop := ∀ x, vh 40 x = true → mpGet (.int .i64) (keyT x) M = R x
theorem NOk.upd {M : List ((Int × Int × Int) × Int)} {R : List Int → Int} (h : NOk M R) {x : List Int} (hx : vh 40 x = true) (v : Int) : NOk (mpSet (.int .i64) (keyT x) v M) (upd1 R x v) := by
  intro y hy
  rw [mp_get_set]
  unfold upd1
  by_cases e : keyT y = keyT x
  · rw [if_pos e, if_pos (keyT_inj hy hx e)]
  · rw [if_neg e, if_neg (fun e' => e (by rw [e'])), h y hy]
def Bd (lo B : Int) (R : List Int → Int) : Prop := ∀ y, lo ≤ R y ∧ R y ≤ B
theorem best_bd {R : List Int → Int} {B : Int} (h : Bd 0 B R) : ∀ (ys : List (List Int)) (n : Int), 0 ≤ n → n ≤ B + 1 → 0 ≤ best R ys n ∧ best R ys n ≤ B + 1
  | [], n, h0, h1 => ⟨h0, h1⟩
  | y :: r, n, h0, h1 => by
    have := h y
    unfold best
    exact best_bd h r _ (by omega) (by omega)
theorem Bd.upd {R : List Int → Int} {lo B : Int} (h : Bd lo B R) {x : List Int} {v : Int} (h0 : lo ≤ v) (h1 : v ≤ B + 1) : Bd lo (B + 1) (upd1 R x v) := by
  intro y
  have := h y
  unfold upd1
  split <;> constructor <;> omega
theorem Bd.le {R : List Int → Int} {lo B C : Int} (h : Bd lo B R) (hc : B ≤ C) : Bd lo C R := fun y => ⟨(h y).1, by have := (h y).2; omega⟩
theorem implLong_ev (h : List Int) (ts : List Trade) (hl : h.length ≤ 1048576) (h2 : ts.length ≤ 1048576) (hr : ∀ t ∈ ts, TrOk t) : Ev (fun k => impl_LongestTrades.f k h ts) (longV ts h) := by
  refine ev_succ (fun k => impl_LongestTrades.f_eq k _ _) (ev_bind (implReach_ev h ts hl h2 hr) ?_)
  unfold longV
  by_cases hne : reachV ts h = []
  · rw [if_pos hne]
    exact ev_bt (by rw [hne]; rfl) (ev_some.2 rfl)
  · rw [if_neg hne]
    obtain ⟨hR, hh, htV⟩ := reach_of hne
    refine ev_bf (by cases hL : reachV ts h with | nil => exact absurd hL hne | cons a l => rfl) ?_
    generalize hL : reachV ts h = L at hR hne ⊢
    have hts := hR.trades
    have h4 := (tsV_of htV).2
    have hlen := hR.len
    have inner : ∀ (d j m i : Nat) (R : List Int → Int) (M : List ((Int × Int × Int) × Int)) (B n : Int) (b : Bool) (x : List Int), j + d = ts.length → vh 40 x = true → NOk M R → Bd 0 B R → B ≤ 1000000 → 0 ≤ n → n ≤ B + 1 → ∀ r,
        Ev (fun k => gate (decide (3 ≤ x.length)) <| br (!decide (best R (succs (ts.drop j) x) n = (mpGet (.int .i64) ((x.getD 0 0, x.getD 1 0, x.getD 2 0) : Int × Int × Int) M))) (gate (decide (3 ≤ x.length)) <| impl_LongestTrades.l1 k h ts L (mpSet (.int .i64) ((x.getD 0 0, x.getD 1 0, x.getD 2 0) : Int × Int × Int) (best R (succs (ts.drop j) x) n) M) true (L.length : Int) (i : Int) L (L.length : Int) (wr ((m : Int) + 1))) (impl_LongestTrades.l1 k h ts L M b (L.length : Int) (i : Int) L (L.length : Int) (wr ((m : Int) + 1)))) r →
        Ev (fun k => impl_LongestTrades.l2 k h ts L M b x n (L.length : Int) (i : Int) L (L.length : Int) (m : Int) ts (ts.length : Int) (j : Int)) r := by
      intro d
      induction d with
      | zero =>
        intro j m i R M B n b x hj hv hM hB hB1 h0 h1 r k1
        refine ev_succ (fun k => impl_LongestTrades.l2_eq k _ _ _ _ _ _ _ _ _ _ _ _ _ _ _) (ev_df (by omega) ?_)
        rw [List.drop_eq_nil_of_le (show ts.length ≤ j by omega)] at k1
        exact k1
      | succ d ih =>
        intro j m i R M B n b x hj hv hM hB hB1 h0 h1 r k1
        have hlt : j < ts.length := by omega
        have htj := hts ts[j] (List.getElem_mem hlt)
        rw [List.drop_eq_getElem_cons hlt, succs_cons] at k1
        refine ev_succ (fun k => impl_LongestTrades.l2_eq k _ _ _ _ _ _ _ _ _ _ _ _ _ _ _) (ev_dt (by omega) (ev_gd (by omega) ?_))
        rw [at_tr hlt, w_succ (i := j) (by omega)]
        refine ev_bind (traded_ev hv htj) ?_
        cases hd : (mvV x ts[j]).2 with
        | false =>
          rw [hd] at k1
          exact ev_bf rfl (ih (j + 1) m i R M B n b x (by omega) hv hM hB hB1 h0 h1 r k1)
        | true =>
          rw [hd] at k1
          simp only [if_true] at k1
          have hy := mvV_ok hv htj hd
          have hy3 := mv_len hv htj hd
          have hg : mpGet (.int .i64) ((mvV x ts[j]).1.getD 0 0, (mvV x ts[j]).1.getD 1 0, (mvV x ts[j]).1.getD 2 0) M = R (mvV x ts[j]).1 := hM _ hy
          have hb := hB (mvV x ts[j]).1
          refine ev_bt rfl (ev_gd (by omega) ?_)
          rw [hg, w64 (by omega) (by omega)]
          exact ih (j + 1) m i R M B _ b x (by omega) hv hM hB hB1 (by omega) (by omega) r k1
    have mid : ∀ (d m i : Nat) (R : List Int → Int) (M : List ((Int × Int × Int) × Int)) (B : Int) (b : Bool), m + d = L.length → NOk M R → Bd 0 B R → 0 ≤ B → B + d ≤ 1000000 → ∀ r,
        (∀ M', NOk M' (rnd ts (L.drop m) R b).1 → Bd 0 (B + d) (rnd ts (L.drop m) R b).1 → Ev (fun k => br (!(rnd ts (L.drop m) R b).2) (gate (decide (3 ≤ h.length)) <| some (mpGet (.int .i64) ((h.getD 0 0, h.getD 1 0, h.getD 2 0) : Int × Int × Int) M')) (impl_LongestTrades.l0 k h ts L M' (L.length : Int) (wr ((i : Int) + 1)))) r) →
        Ev (fun k => impl_LongestTrades.l1 k h ts L M b (L.length : Int) (i : Int) L (L.length : Int) (m : Int)) r := by
      intro d
      induction d with
      | zero =>
        intro m i R M B b hm hM hB hB0 hB1 r k1
        refine ev_succ (fun k => impl_LongestTrades.l1_eq k _ _ _ _ _ _ _ _ _ _) (ev_df (by omega) ?_)
        rw [List.drop_eq_nil_of_le (show L.length ≤ m by omega)] at k1
        exact k1 M hM (hB.le (by omega))
      | succ d ih =>
        intro m i R M B b hm hM hB hB0 hB1 r k1
        have hlt : m < L.length := by omega
        have hv := hR.valid L[m] (List.getElem_mem hlt)
        have hv3 := (vh_len hv).1
        rw [List.drop_eq_getElem_cons hlt] at k1
        refine ev_succ (fun k => impl_LongestTrades.l1_eq k _ _ _ _ _ _ _ _ _ _) (ev_dt (by omega) (ev_gd (by omega) ?_))
        rw [at_out (List.getElem?_eq_getElem hlt)]
        refine inner ts.length 0 m i R M B 0 b L[m] (by omega) hv hM hB (by omega) (by omega) (by omega) r (ev_gd (by omega) ?_)
        rw [List.drop_zero, w_succ (i := m) (by omega)]
        have hb := best_bd hB (succs ts L[m]) 0 (by omega) (by omega)
        have hg : mpGet (.int .i64) (L[m].getD 0 0, L[m].getD 1 0, L[m].getD 2 0) M = R L[m] := hM _ hv
        unfold rnd at k1
        rw [hg]
        by_cases e : best R (succs ts L[m]) 0 = R L[m]
        · rw [if_pos e] at k1
          refine ev_nf (decide_eq_true e) ?_
          exact ih (m + 1) i R M B b (by omega) hM hB hB0 (by omega) r (fun M' q1 q2 => k1 M' q1 (q2.le (by omega)))
        · rw [if_neg e] at k1
          refine ev_nt (decide_eq_false e) (ev_gd (by omega) ?_)
          refine ih (m + 1) i (upd1 R L[m] (best R (succs ts L[m]) 0)) _ (B + 1) true (by omega) (hM.upd hv _) (hB.upd hb.1 hb.2) (by omega) (by omega) r (fun M' q1 q2 => k1 M' q1 (q2.le (by omega)))
    have outer : ∀ (n i : Nat) (R : List Int → Int) (M : List ((Int × Int × Int) × Int)), i + n = L.length → NOk M R → Bd 0 (400 * i) R → Ev (fun k => impl_LongestTrades.l0 k h ts L M (L.length : Int) (i : Int)) (iterI ts L h n R) := by
      intro n
      induction n with
      | zero =>
        intro i R M hi hM hB
        exact ev_succ (fun k => impl_LongestTrades.l0_eq k _ _ _ _ _ _) (ev_df (by omega) (ev_some.2 rfl))
      | succ n ih =>
        intro i R M hi hM hB
        refine ev_succ (fun k => impl_LongestTrades.l0_eq k _ _ _ _ _ _) (ev_dt (by omega) ?_)
        refine mid L.length 0 i R M (400 * i) false (by omega) hM hB (by omega) (by omega) _ (fun M' q1 q2 => ?_)
        rw [List.drop_zero] at q1 q2 ⊢
        unfold iterI
        cases hb : (rnd ts L R false).2 with
        | true =>
          rw [if_pos rfl, w_succ (by omega)]
          exact ev_nf rfl (ih (i + 1) _ M' (by omega) q1 (q2.le (by omega)))
        | false =>
          rw [if_neg (by simp)]
          refine ev_nt rfl (ev_gd (by rw [(vh_len hh).1]; omega) (ev_some.2 ?_))
          exact q1 h hh
    exact outer L.length 0 _ [] (by omega) (fun x _ => rfl) (fun x => ⟨by simp, by simp⟩)
/-! The reference's side. -/
def LOk (lg : List Int) (L : List (List Int)) (S : List Int → Int) : Prop := lg.length = L.length ∧ ∀ (i : Nat) (h : i < L.length), lg.getD i 0 = S L[i]
theorem nodup_at {L : List (List Int)} (hn : L.Nodup) {i j : Nat} (hi : i < L.length) (hj : j < L.length) (h : L[i] = L[j]) : i = j := by
  have hp := List.pairwise_iff_getElem.1 hn
  rcases Nat.lt_trichotomy i j with q | q | q
  · exact absurd h (hp i j hi hj q)
  · exact q
  · exact absurd h.symm (hp j i hj hi q)
theorem LOk.upd {lg : List Int} {L : List (List Int)} {S : List Int → Int} (h : LOk lg L S) (hn : L.Nodup) {k : Nat} (hk : k < L.length) (v : Int) : LOk (lg.set k v) L (upd1 S L[k] v) := by
  refine ⟨by simp [h.1], fun i hi => ?_⟩
  have h1 := h.1
  rw [List.getD_eq_getElem?_getD, List.getElem?_set]
  unfold upd1
  by_cases e : k = i
  · subst e
    rw [if_pos rfl, if_pos (by omega), if_pos rfl]; rfl
  · rw [if_neg e, if_neg (fun e' => e (nodup_at hn hi hk e').symm), ← h.2 i hi, List.getD_eq_getElem?_getD]
theorem index_ev {L : List (List Int)} (hn : L.Nodup) (hlen : L.length ≤ 400) (hv : ∀ x ∈ L, x.length ≤ 100) {y : List Int} {q : Nat} (hq : q < L.length) (hy : L[q] = y) : Ev (fun k => spec_l8Index.f k L y) (q : Int) := by
  refine ev_succ (fun k => spec_l8Index.f_eq k _ _) ?_
  have loop : ∀ d i : Nat, i + d = q → Ev (fun k => spec_l8Index.l0 k L y (i : Int)) (q : Int) := by
    intro d
    induction d with
    | zero =>
      intro i hi
      have : i = q := by omega
      subst this
      refine ev_succ (fun k => spec_l8Index.l0_eq k _ _ _) (ev_gd (by omega) ?_)
      rw [at_out (List.getElem?_eq_getElem hq)]
      refine ev_bind (same_ev _ _ (by have := hv _ (List.getElem_mem hq); omega)) (ev_nf (decide_eq_true hy) (ev_some.2 rfl))
    | succ d ih =>
      intro i hi
      have hil : i < L.length := by omega
      refine ev_succ (fun k => spec_l8Index.l0_eq k _ _ _) (ev_gd (by omega) ?_)
      rw [at_out (List.getElem?_eq_getElem hil), w_succ (by omega)]
      refine ev_bind (same_ev _ _ (by have := hv _ (List.getElem_mem hil); omega)) (ev_nt (decide_eq_false (fun e => ?_)) (ih (i + 1) (by omega)))
      have := nodup_at hn hil hq (e.trans hy.symm)
      omega
  exact loop q 0 (by omega)
theorem bs_bd {S : List Int → Int} {B : Int} (h : Bd (-1) B S) : ∀ (ys : List (List Int)) (n : Int), 0 ≤ n → n ≤ B + 1 → -1 ≤ bs S ys n ∧ bs S ys n ≤ B + 1
  | [], n, h0, h1 => ⟨by unfold bs; omega, h1⟩
  | y :: r, n, h0, h1 => by
    have := h y
    unfold bs
    split
    · omega
    · exact bs_bd h r _ (by omega) (by omega)
theorem specLong_ev (h : List Int) (ts : List Trade) (hl : h.length ≤ 1048576) (h2 : ts.length ≤ 1048576) (hr : ∀ t ∈ ts, TrOk t) : Ev (fun k => spec_LongestTrades.f k h ts) (longV ts h) := by
  refine ev_succ (fun k => spec_LongestTrades.f_eq k _ _) (ev_bind (specReach_ev h ts hl h2 hr) ?_)
  by_cases hne : reachV ts h = []
  · have : longV ts h = -1 := by unfold longV; rw [if_pos hne]
    rw [this]
    exact ev_dt (by rw [hne]; rfl) (ev_some.2 rfl)
  · have hsame : iterS ts (reachV ts h) h ((reachV ts h).length + 1) (fun _ => -1) = longV ts h := by
      rcases long_cases hne with ⟨Q, _, e1, _, e2⟩ | ⟨_, e1, e2⟩
      · rw [e1, e2]
      · rw [e1, e2]
    rw [← hsame]
    obtain ⟨hR, hh, htV⟩ := reach_of hne
    have hpos : 0 < (reachV ts h).length := by cases hL : reachV ts h with | nil => exact absurd hL hne | cons a l => simp
    refine ev_df (by omega) ?_
    clear hsame
    generalize hL : reachV ts h = L at hR hne hpos ⊢
    have hts := hR.trades
    have h4 := (tsV_of htV).2
    have hlen := hR.len
    have hv3 : ∀ x ∈ L, x.length = 3 := fun x hx => (vh_len (hR.valid x hx)).1
    have hfst : L[0] = h := by have := hR.first; rw [List.getElem?_eq_getElem hpos] at this; exact Option.some.inj this
    have inner : ∀ (d j : Nat) (p c : Nat) (S : List Int → Int) (lg : List Int) (B n : Int) (b : Bool) (hc : c < L.length), j + d = ts.length → LOk lg L S → Bd (-1) B S → B ≤ 1000000 → 0 ≤ n → n ≤ B + 1 → ∀ r,
        Ev (fun k => spec_LongestTrades.l2 k ts L (lg.set c (bs S (succs (ts.drop j) L[c]) n)) (p : Int) (b || decide (bs S (succs (ts.drop j) L[c]) n ≥ 0)) (wr ((c : Int) - 1))) r →
        Ev (fun k => spec_LongestTrades.l3 k ts L lg (p : Int) b (c : Int) n (j : Int)) r := by
      intro d
      have tail : ∀ (p c : Nat) (lg : List Int) (n : Int) (b : Bool), c < L.length → lg.length = L.length → ∀ r, Ev (fun k => spec_LongestTrades.l2 k ts L (lg.set c n) (p : Int) (b || decide (n ≥ 0)) (wr ((c : Int) - 1))) r →
          Ev (fun k => gate (decide (0 ≤ (c : Int) ∧ (c : Int) < (lg.length : Int))) <| gate (decide ((c : Int).toNat < lg.length)) <| br (b) (spec_LongestTrades.l2 k ts L (lg.set (c : Int).toNat n) (p : Int) true (wr ((c : Int) - 1))) (spec_LongestTrades.l2 k ts L (lg.set (c : Int).toNat n) (p : Int) (decide (n ≥ 0)) (wr ((c : Int) - 1)))) r := by
        intro p c lg n b hc hlg r k1
        refine ev_gd (by omega) (ev_gd (by omega) ?_)
        rw [Int.toNat_natCast]
        cases b with
        | true => exact ev_bt rfl k1
        | false => exact ev_bf rfl (by rw [Bool.false_or] at k1; exact k1)
      induction d with
      | zero =>
        intro j p c S lg B n b hc hj hS hB hB1 h0 h1 r k1
        refine ev_succ (fun k => spec_LongestTrades.l3_eq k _ _ _ _ _ _ _ _) (ev_df (by omega) ?_)
        rw [List.drop_eq_nil_of_le (show ts.length ≤ j by omega)] at k1
        exact tail p c lg n b hc hS.1 r k1
      | succ d ih =>
        intro j p c S lg B n b hc hj hS hB hB1 h0 h1 r k1
        have hlt : j < ts.length := by omega
        have htj := hts ts[j] (List.getElem_mem hlt)
        have hmem := List.getElem_mem hc
        have hv := hR.valid L[c] hmem
        have hS1 := hS.1
        rw [List.drop_eq_getElem_cons hlt, succs_cons] at k1
        refine ev_succ (fun k => spec_LongestTrades.l3_eq k _ _ _ _ _ _ _ _) (ev_dt (by omega) (ev_dt (by omega) (ev_gd (by omega) (ev_gd (by omega) ?_))))
        rw [at_out (List.getElem?_eq_getElem hc), at_tr hlt, w_succ (i := j) (by omega)]
        have hdo := sDoT_ev L[c] ts[j] (by rw [(vh_len hv).1]; omega) (tr_ok htj)
        rw [if_pos ⟨hv, htj⟩] at hdo
        refine ev_bind hdo ?_
        cases hd : (mvV L[c] ts[j]).2 with
        | false =>
          rw [hd] at k1
          exact ev_nt rfl (ih (j + 1) p c S lg B n b hc (by omega) hS hB hB1 h0 h1 r k1)
        | true =>
          rw [hd] at k1
          simp only [if_true] at k1
          have hys : (mvV L[c] ts[j]).1 ∈ succs ts L[c] := List.mem_filterMap.2 ⟨ts[j], List.getElem_mem hlt, by rw [hd]; rfl⟩
          obtain ⟨q, hq, hqe⟩ := List.getElem_of_mem (hR.closed L[c] hmem _ hys)
          have hb := hB (mvV L[c] ts[j]).1
          have hlg : lg.getD (q : Int).toNat 0 = S (mvV L[c] ts[j]).1 := by rw [Int.toNat_natCast, hS.2 q hq, hqe]
          refine ev_nf rfl (ev_bind (index_ev hR.nodup hlen (fun x hx => by have := hv3 x hx; omega) hq hqe) (ev_gd (by omega) ?_))
          rw [hlg]
          unfold bs at k1
          by_cases hneg : S (mvV L[c] ts[j]).1 < 0
          · rw [if_pos hneg] at k1
            refine ev_dt hneg (ev_succ (fun k => spec_LongestTrades.l3_eq k _ _ _ _ _ _ _ _) ?_)
            by_cases hlast : ((j + 1 : Nat) : Int) < (ts.length : Int)
            · exact ev_dt hlast (ev_df (by omega) (tail p c lg (-1) b hc hS.1 r k1))
            · exact ev_df hlast (tail p c lg (-1) b hc hS.1 r k1)
          · rw [if_neg hneg] at k1
            refine ev_df hneg (ev_gd (by omega) ?_)
            rw [w64 (by omega) (by omega)]
            exact ih (j + 1) p c S lg B _ b hc (by omega) hS hB hB1 (by omega) (by omega) r k1
    have mid : ∀ (c p : Nat) (S : List Int → Int) (lg : List Int) (B : Int) (b : Bool), c ≤ L.length → LOk lg L S → Bd (-1) B S → 0 ≤ B → B + c ≤ 1000000 → ∀ r,
        (∀ lg', LOk lg' L (rs ts (L.take c).reverse S b).1 → Bd (-1) (B + c) (rs ts (L.take c).reverse S b).1 → Ev (fun k => br (!(rs ts (L.take c).reverse S b).2) (gate (decide (0 ≤ (0 : Int) ∧ (0 : Int) < (lg'.length : Int))) <| some (lg'.getD ((0 : Int).toNat) 0)) (spec_LongestTrades.l1 k ts L lg' (wr ((p : Int) + 1)))) r) →
        Ev (fun k => spec_LongestTrades.l2 k ts L lg (p : Int) b ((c : Int) - 1)) r := by
      intro c
      induction c with
      | zero =>
        intro p S lg B b hc hS hB hB0 hB1 r k1
        refine ev_succ (fun k => spec_LongestTrades.l2_eq k _ _ _ _ _ _) (ev_df (by omega) ?_)
        exact k1 lg hS (hB.le (by omega))
      | succ c ih =>
        intro p S lg B b hc hS hB hB0 hB1 r k1
        have hlt : c < L.length := by omega
        have hS1 := hS.1
        rw [List.take_succ_eq_append_getElem hlt, List.reverse_append] at k1
        simp only [List.reverse_cons, List.reverse_nil, List.nil_append, List.singleton_append, List.cons_append] at k1
        refine ev_succ (fun k => spec_LongestTrades.l2_eq k _ _ _ _ _ _) ?_
        have e1 : ((c + 1 : Nat) : Int) - 1 = (c : Int) := by omega
        rw [e1]
        have e2 : wr ((c : Int) - 1) = (c : Int) - 1 := w64 (by omega) (by omega)
        have e3 : lg.getD (c : Int).toNat 0 = S L[c] := by rw [Int.toNat_natCast, hS.2 c hlt]
        refine ev_dt (by omega) (ev_gd (by omega) ?_)
        rw [e3, e2]
        unfold rs at k1
        by_cases hd : 0 ≤ S L[c]
        · rw [if_pos hd] at k1
          exact ev_dt hd (ih p S lg B b (by omega) hS hB hB0 (by omega) r (fun lg' q1 q2 => k1 lg' q1 (q2.le (by omega))))
        · rw [if_neg hd] at k1
          have hb := bs_bd hB (succs ts L[c]) 0 (by omega) (by omega)
          refine ev_df (by omega) (inner ts.length 0 p c S lg B 0 b hlt (by omega) hS hB (by omega) (by omega) (by omega) r ?_)
          rw [List.drop_zero, e2]
          exact ih p _ _ (B + 1) _ (by omega) (hS.upd hR.nodup hlt _) (hB.upd hb.1 hb.2) (by omega) (by omega) r (fun lg' q1 q2 => k1 lg' q1 (q2.le (by omega)))
    have outer : ∀ (n p : Nat) (S : List Int → Int) (lg : List Int), p + n = L.length + 1 → LOk lg L S → Bd (-1) (400 * p) S → Ev (fun k => spec_LongestTrades.l1 k ts L lg (p : Int)) (iterS ts L h n S) := by
      intro n
      induction n with
      | zero =>
        intro p S lg hp hS hB
        have hS1 := hS.1
        refine ev_succ (fun k => spec_LongestTrades.l1_eq k _ _ _ _) (ev_df (by omega) (ev_gd (by omega) (ev_some.2 ?_)))
        have := hS.2 0 hpos
        rw [hfst] at this
        exact this
      | succ n ih =>
        intro p S lg hp hS hB
        refine ev_succ (fun k => spec_LongestTrades.l1_eq k _ _ _ _) (ev_dt (by omega) ?_)
        rw [w64 (x := (L.length : Int) - 1) (by omega) (by omega)]
        refine mid L.length p S lg (400 * p) false (Nat.le_refl _) hS hB (by omega) (by omega) _ (fun lg' q1 q2 => ?_)
        rw [List.take_length] at q1 q2 ⊢
        have hS1 := q1.1
        unfold iterS
        cases hb : (rs ts L.reverse S false).2 with
        | true =>
          rw [if_pos rfl, w_succ (by omega)]
          exact ev_nf rfl (ih (p + 1) _ lg' (by omega) q1 (q2.le (by omega)))
        | false =>
          rw [if_neg (by simp)]
          refine ev_nt rfl (ev_gd (by omega) (ev_some.2 ?_))
          have := q1.2 0 hpos
          rw [hfst] at this
          exact this
    have fill : ∀ d i : Nat, i + d = L.length → Ev (fun k => spec_LongestTrades.l0 k ts L (List.replicate i (-1)) (i : Int)) (iterS ts L h (L.length + 1) (fun _ => -1)) := by
      intro d
      induction d with
      | zero =>
        intro i hi
        refine ev_succ (fun k => spec_LongestTrades.l0_eq k _ _ _ _) (ev_df (by omega) ?_)
        refine outer (L.length + 1) 0 _ _ (by omega) ⟨by simp; omega, fun j hj => ?_⟩ (fun x => ⟨by simp, by simp⟩)
        rw [List.getD_eq_getElem?_getD, List.getElem?_replicate, if_pos (by omega)]; rfl
      | succ d ih =>
        intro i hi
        refine ev_succ (fun k => spec_LongestTrades.l0_eq k _ _ _ _) (ev_dt (by omega) (ev_gd (by rw [limE]; simp; omega) ?_))
        rw [w_succ (by omega)]
        have : List.replicate i (-1 : Int) ++ [-1] = List.replicate (i + 1) (-1) := by rw [List.replicate_succ']
        rw [this]
        exact ih (i + 1) (by omega)
    exact fill L.length 0 (by omega)
/-! Copies of rows of numbers, and rows held against each other. -/
theorem toIntS_l0 (l : List Int) (hl : l.length ≤ 1000000000) : ∀ d i : Nat, i + d = l.length → Ev (fun k => laws_toIntS.l0 k l (l.take i ++ List.replicate d 0) (i : Int)) l := by
  intro d
  induction d with
  | zero =>
    intro i hi
    refine ev_succ (fun k => laws_toIntS.l0_eq k _ _ _) (ev_df (by omega) (ev_some.2 ?_))
    rw [List.take_of_length_le (by omega)]; simp
  | succ d ih =>
    intro i hi
    have hlt : i < l.length := by omega
    have hlen : (l.take i ++ List.replicate (d + 1) (0 : Int)).length = l.length := by simp; omega
    refine ev_succ (fun k => laws_toIntS.l0_eq k _ _ _) (ev_dt (by omega) (ev_gd (by omega) (ev_gd (by rw [hlen]; omega) (ev_gd (by rw [hlen]; omega) ?_))))
    rw [get_nat hlt, w_succ (by omega), Int.toNat_natCast]
    have e : (l.take i ++ List.replicate (d + 1) (0 : Int)).set i l[i] = l.take (i + 1) ++ List.replicate d 0 := by
      rw [List.set_append_right _ _ (by simp; omega), List.length_take, Nat.min_eq_left (by omega), Nat.sub_self, List.replicate_succ, List.set_cons_zero, ← List.take_append_getElem hlt, List.append_assoc]
      rfl
    rw [e]
    exact ih (i + 1) (by omega)
theorem toIntS_ev (l : List Int) (hl : l.length ≤ 1000000000) : Ev (fun k => laws_toIntS.f k l) l := by
  refine ev_succ (fun k => laws_toIntS.f_eq k l) (ev_gd ⟨by omega, by rw [Int.toNat_natCast, limE]; omega, rfl⟩ ?_)
  have := toIntS_l0 l hl l.length 0 (by omega)
  rw [Int.toNat_natCast]
  simpa using this
theorem eqIntS_l0 (l : List Int) (hl : l.length < 9223372036854775807) : ∀ d i : Nat, i + d = l.length → Ev (fun k => laws_eqIntS.l0 k l l (i : Int)) true := by
  intro d
  induction d with
  | zero =>
    intro i hi
    exact ev_succ (fun k => laws_eqIntS.l0_eq k _ _ _) (ev_df (by omega) (ev_some.2 rfl))
  | succ d ih =>
    intro i hi
    refine ev_succ (fun k => laws_eqIntS.l0_eq k _ _ _) (ev_dt (by omega) (ev_gd (by omega) (ev_gd (by omega) (ev_nf (by simp) ?_))))
    rw [w_succ (by omega)]
    exact ih (i + 1) (by omega)
theorem eqIntS_self (l : List Int) (hl : l.length < 9223372036854775807) : Ev (fun k => laws_eqIntS.f k l l) true :=
  ev_succ (fun k => laws_eqIntS.f_eq k _ _) (ev_nf (by simp) (eqIntS_l0 l hl l.length 0 (by omega)))
/-! The size of a row of numbers. -/
theorem szIntS_ev (l : List Int) (n : Int) (h0 : 0 ≤ n) (h1 : n ≤ 1048576) (hl : l.length ≤ maxLen) : Ev (fun k => laws_szIntS.f k l n) (if (l.length : Int) ≤ n then n - l.length else -1) := by
  have hm : maxLen ≤ 9223372036854775807 := by decide
  refine ev_succ (fun k => laws_szIntS.f_eq k _ _) ?_
  rw [w64 (by omega) (by omega)]
  by_cases h : (l.length : Int) ≤ n
  · rw [if_pos h]; exact ev_df (by omega) (ev_some.2 rfl)
  · rw [if_neg h]; exact ev_dt (by omega) (ev_some.2 rfl)
theorem szII_ev (l : List Int) (n : Int) (h0 : 0 ≤ n) (h1 : n ≤ 1048576) (hl : l.length ≤ maxLen) : EvP (fun k => laws_szIntS.f k l n) (fun r => r ≤ 1048576 ∧ (0 ≤ r → RowOk l)) := by
  refine (szIntS_ev l n h0 h1 hl).p ?_
  unfold RowOk
  split <;> exact ⟨by omega, fun _ => by omega⟩
/-! Trades, copied, sized and held against each other. -/
theorem szTr_ev (t : Trade) (n : Int) (h0 : 0 ≤ n) (h1 : n ≤ 1048576) (hl : t.f0.length ≤ maxLen ∧ t.f1.length ≤ maxLen) : EvP (fun k => laws_szTrade.f k t n) (fun r => r ≤ 1048576 ∧ (0 ≤ r → TrOk t)) := by
  refine evp_succ (fun k => laws_szTrade.f_eq k _ _) (evp_bind (szII_ev _ n h0 h1 hl.1) (fun r ⟨r1, r2⟩ => evp_d (fun _ => evp_some ⟨by omega, fun h => by omega⟩) (fun hr => ?_)))
  refine evp_bind (szII_ev _ r (by omega) r1 hl.2) (fun q ⟨q1, q2⟩ => evp_d (fun _ => evp_some ⟨by omega, fun h => by omega⟩) (fun hq => evp_some ⟨q1, fun h => ⟨r2 (by omega), q2 (by omega)⟩⟩))
theorem szTradeS_ev (a : List Trade) (n : Int) (h0 : 0 ≤ n) (h1 : n ≤ 1048576) (hl : a.length ≤ maxLen) (hr : ∀ t ∈ a, t.f0.length ≤ maxLen ∧ t.f1.length ≤ maxLen) : EvP (fun k => laws_szTradeS.f k a n) (fun r => r ≤ 1048576 ∧ (0 ≤ r → a.length ≤ 1048576 ∧ ∀ t ∈ a, TrOk t)) := by
  have hm : maxLen ≤ 9223372036854775807 := by decide
  refine evp_succ (fun k => laws_szTradeS.f_eq k _ _) ?_
  rw [w64 (by omega) (by omega)]
  refine evp_d (fun h => evp_some ⟨by omega, fun h => by omega⟩) (fun hge => ?_)
  have loop : ∀ (d i : Nat) (n : Int), i + d = a.length → 0 ≤ n → n ≤ 1048576 → (∀ r ∈ a.take i, TrOk r) → EvP (fun k => laws_szTradeS.l0 k a n (i : Int)) (fun r => r ≤ 1048576 ∧ (0 ≤ r → a.length ≤ 1048576 ∧ ∀ r ∈ a, TrOk r)) := by
    intro d
    induction d with
    | zero =>
      intro i n hi h0 h1 hall
      rw [List.take_of_length_le (by omega)] at hall
      exact evp_succ (fun k => laws_szTradeS.l0_eq k _ _ _) (evp_d (fun h => by omega) (fun _ => evp_some ⟨h1, fun _ => ⟨by omega, hall⟩⟩))
    | succ d ih =>
      intro i n hi h0 h1 hall
      have hlt : i < a.length := by omega
      refine evp_succ (fun k => laws_szTradeS.l0_eq k _ _ _) (evp_d (fun _ => evp_gd (by omega) ?_) (fun h => by omega))
      rw [at_nat hlt, w_succ (by omega)]
      refine evp_bind (szTr_ev _ n h0 h1 (hr _ (List.getElem_mem hlt))) (fun r ⟨r1, r2⟩ => evp_d (fun h => evp_some ⟨by omega, fun h => by omega⟩) (fun hr => ih (i + 1) r (by omega) (by omega) r1 ?_))
      intro x hx
      rw [← List.take_append_getElem hlt] at hx
      rcases List.mem_append.1 hx with hx | hx
      · exact hall x hx
      · simp at hx; subst hx; exact r2 (by omega)
  exact loop a.length 0 _ (by omega) (by omega) (by omega) (by simp)
theorem toTr_ev (t : Trade) (h : TrOk t) : Ev (fun k => laws_toTrade.f k t) (t.f0, t.f1) :=
  ev_succ (fun k => laws_toTrade.f_eq k _) (ev_bind (toIntS_ev _ (by have := h.1; unfold RowOk at this; omega)) (ev_bind (toIntS_ev _ (by have := h.2; unfold RowOk at this; omega)) (ev_some.2 rfl)))
theorem toTradeS_ev (a : List Trade) (hl : a.length ≤ 1048576) (hr : ∀ r ∈ a, TrOk r) : Ev (fun k => laws_toTradeS.f k a) a := by
  have loop : ∀ d i : Nat, i + d = a.length → Ev (fun k => laws_toTradeS.l0 k a (a.take i ++ List.replicate d (⟨([] : List Int), ([] : List Int)⟩ : Trade)) (i : Int)) a := by
    intro d
    induction d with
    | zero =>
      intro i hi
      refine ev_succ (fun k => laws_toTradeS.l0_eq k _ _ _) (ev_df (by omega) (ev_some.2 ?_))
      rw [List.take_of_length_le (by omega)]; simp
    | succ d ih =>
      intro i hi
      have hlt : i < a.length := by omega
      have hlen := fill_len (z := (⟨([] : List Int), ([] : List Int)⟩ : Trade)) hi
      refine ev_succ (fun k => laws_toTradeS.l0_eq k _ _ _) (ev_dt (by omega) (ev_gd (by omega) ?_))
      rw [at_nat hlt]
      refine ev_bind (toTr_ev _ (hr _ (List.getElem_mem hlt))) (ev_gd (by rw [hlen]; omega) (ev_gd (by rw [hlen]; omega) ?_))
      rw [show (⟨(a[i].f0, a[i].f1).1, (a[i].f0, a[i].f1).2⟩ : Trade) = a[i] from rfl, fill_step hi hlt, w_succ (by omega)]
      exact ih (i + 1) (by omega)
  refine ev_succ (fun k => laws_toTradeS.f_eq k a) (ev_gd ⟨by omega, by rw [Int.toNat_natCast, limE]; omega, rfl⟩ ?_)
  have := loop a.length 0 (by omega)
  rw [Int.toNat_natCast]
  simpa using this
theorem eqTr_self (t : Trade) (h : TrOk t) : Ev (fun k => laws_eqTrade.f k t t) true :=
  ev_succ (fun k => laws_eqTrade.f_eq k _ _) (ev_bind (eqIntS_self _ (by have := h.1; unfold RowOk at this; omega)) (ev_nf rfl (ev_bind (eqIntS_self _ (by have := h.2; unfold RowOk at this; omega)) (ev_nf rfl (ev_some.2 rfl)))))
theorem eqTradeS_self (a : List Trade) (hl : a.length ≤ 1048576) (hr : ∀ r ∈ a, TrOk r) : Ev (fun k => laws_eqTradeS.f k a a) true := by
  have loop : ∀ d i : Nat, i + d = a.length → Ev (fun k => laws_eqTradeS.l0 k a a (i : Int)) true := by
    intro d
    induction d with
    | zero => intro i hi; exact ev_succ (fun k => laws_eqTradeS.l0_eq k _ _ _) (ev_df (by omega) (ev_some.2 rfl))
    | succ d ih =>
      intro i hi
      have hlt : i < a.length := by omega
      refine ev_succ (fun k => laws_eqTradeS.l0_eq k _ _ _) (ev_dt (by omega) (ev_gd (by omega) (ev_gd (by omega) ?_)))
      rw [at_nat hlt, w_succ (by omega)]
      exact ev_bind (eqTr_self _ (hr _ (List.getElem_mem hlt))) (ev_nf rfl (ih (i + 1) (by omega)))
  exact ev_succ (fun k => laws_eqTradeS.f_eq k _ _) (ev_nf (by simp) (loop a.length 0 (by omega)))
/-! The law. -/
def TrW (t : Trade) : Prop := (t.f0.length ≤ maxLen ∧ ∀ x ∈ t.f0, (Lit.int .i64 x).wf = true) ∧ (t.f1.length ≤ maxLen ∧ ∀ x ∈ t.f1, (Lit.int .i64 x).wf = true)
theorem pure_FnExactLongestTrades (h : List Int) (o : List Trade) (h1 : h.length ≤ maxLen) (h3 : ∀ x ∈ h, (Lit.int .i64 x).wf = true) (h4 : o.length ≤ maxLen) (h5 : ∀ r ∈ o, TrW r) : ∃ k, laws_FnExactLongestTrades.f k h o = some true := by
  refine evp_true (evp_succ (fun k => laws_FnExactLongestTrades.f_eq k h o) (evp_d (fun _ => evp_some rfl) (fun hl => evp_bind (szTradeS_ev o 1048576 (by omega) (by omega) h4 (fun r hr => ⟨(h5 r hr).1.1, (h5 r hr).2.1⟩)) (fun r hr => evp_d (fun _ => evp_some rfl) (fun h0 => ?_)))))
  obtain ⟨ho, hr2⟩ := hr.2 (by omega)
  have ti := toIntS_ev h (by omega)
  have to := toTradeS_ev o ho hr2
  have sp := specLong_ev h o (by omega) ho hr2
  have im := implLong_ev h o (by omega) ho hr2
  refine Ev.p ?_ rfl
  exact ev_bind ti (ev_bind to (ev_bind sp (ev_bind ti (ev_bind to (ev_bind im (ev_nf (decide_eq_true rfl) (ev_bind ti (ev_bind (eqIntS_self h (by omega)) (ev_nf rfl (ev_bind to (ev_bind (eqTradeS_self o ho hr2) (ev_nf rfl (ev_some.2 rfl)))))))))))))
end Go.Proofs.Ytgibeillafnieaa.EPure
