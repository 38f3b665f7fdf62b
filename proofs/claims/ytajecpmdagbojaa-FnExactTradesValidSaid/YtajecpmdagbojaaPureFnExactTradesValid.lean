/-
  the pure statement of FnExactTradesValid
-/
import Derived.Test.YtajecpmdagbojaaPFnExactTradesValidx3
namespace Go.Proofs.Ytajecpmdagbojaa.Pure
open Go.RowKit Go.Proofs.Ytajecpmdagbojaa.PFnExactTradesValid Go.Proofs.YtajecpmdagbojaaW.PrintWords Go.Proofs.YtajecpmdagbojaaW.PrintLast Go.Proofs.YtajecpmdagbojaaW.PrintMore
set_option linter.unusedVariables false
set_option linter.unusedSimpArgs false

/-! Rounds without counting them: what a printed function tells from some number of rounds on. -/
theorem ev_some {α : Type} {a r : α} : Ev (fun _ => some a) r ↔ a = r := by
  constructor
  · rintro ⟨K, h⟩
    exact Option.some.inj (h K (Nat.le_refl _))
  · rintro rfl
    exact ⟨0, fun _ _ => rfl⟩
theorem ev_pos {α : Type} {c : Prop} [Decidable c] {g h : Nat → Option α} {r : α} (hc : c) : Ev (fun k => if c then g k else h k) r ↔ Ev g r := by simp only [if_pos hc]
theorem ev_neg {α : Type} {c : Prop} [Decidable c] {g h : Nat → Option α} {r : α} (hc : ¬ c) : Ev (fun k => if c then g k else h k) r ↔ Ev h r := by simp only [if_neg hc]
theorem ev_bind {α β : Type} {g : Nat → Option α} {f : Nat → α → Option β} {a : α} (h : Ev g a) {r : β} : Ev (fun k => (g k).bind (f k)) r ↔ Ev (fun k => f k a) r := by
  constructor
  · rintro ⟨K, e⟩
    obtain ⟨L, h⟩ := h
    refine ⟨max K L, fun k hk => ?_⟩
    have h1 := e k (by omega)
    simp only [h k (by omega), Option.bind_some] at h1
    exact h1
  · exact fun e => Ev.bind h e
theorem ev_now {α β : Type} {f : Nat → α → Option β} {a : α} {r : β} : Ev (fun k => (some a).bind (f k)) r ↔ Ev (fun k => f k a) r := by simp only [Option.bind_some]
theorem ev_succ {α : Type} {g f : Nat → Option α} {r : α} (h : ∀ k, g (k + 1) = f k) : Ev g r ↔ Ev f r := by
  constructor
  · rintro ⟨K, e⟩
    exact ⟨K, fun k hk => by rw [← h]; exact e (k + 1) (by omega)⟩
  · exact fun e => Ev.step h e
theorem ev_of_eq {α : Type} {g f : Nat → Option α} {r : α} (h : ∀ k, g k = f k) : Ev g r ↔ Ev f r := by
  have : g = f := funext h
  rw [this]
theorem ev_true {g : Nat → Option Bool} (h : Ev g true) : ∃ k, g k = some true := Ev.rounds h
theorem w64 {x : Int} (h0 : -9223372036854775808 ≤ x) (h1 : x ≤ 9223372036854775807) : wrap64 x = x := by
  unfold wrap64
  omega
theorem w_succ {i : Nat} (h : i < 9223372036854775807) : wrap64 ((i : Int) + 1) = ((i + 1 : Nat) : Int) := by rw [w64] <;> omega
theorem rd_nat {l : List Int} {i : Nat} (h : i < l.length) : rd l (i : Int) = l[i] := by
  unfold rd
  rw [Int.toNat_natCast, List.getD_eq_getElem?_getD, List.getElem?_eq_getElem h]
  rfl
theorem drop_cons {α : Type} {l : List α} {i : Nat} (h : i < l.length) : l.drop i = l[i] :: l.drop (i + 1) := List.drop_eq_getElem_cons h
/-! What comes of some rounds, with a property. -/
def EvP {α : Type} (g : Nat → Option α) (Q : α → Prop) : Prop := ∃ r, Ev g r ∧ Q r
theorem evp_ev {α : Type} {g : Nat → Option α} {Q : α → Prop} {r : α} (h : Ev g r) (q : Q r) : EvP g Q := ⟨r, h, q⟩
theorem evp_some {α : Type} {Q : α → Prop} {r : α} (q : Q r) : EvP (fun _ => some r) Q := ⟨r, ev_some.2 rfl, q⟩
theorem evp_pos {α : Type} {Q : α → Prop} {c : Prop} [Decidable c] {g h : Nat → Option α} (hc : c) (e : EvP g Q) : EvP (fun k => if c then g k else h k) Q := by
  obtain ⟨r, e, q⟩ := e
  exact ⟨r, (ev_pos hc).2 e, q⟩
theorem evp_neg {α : Type} {Q : α → Prop} {c : Prop} [Decidable c] {g h : Nat → Option α} (hc : ¬ c) (e : EvP h Q) : EvP (fun k => if c then g k else h k) Q := by
  obtain ⟨r, e, q⟩ := e
  exact ⟨r, (ev_neg hc).2 e, q⟩
theorem evp_if {α : Type} {Q : α → Prop} {c : Prop} [Decidable c] {g h : Nat → Option α} (e1 : c → EvP g Q) (e2 : ¬ c → EvP h Q) : EvP (fun k => if c then g k else h k) Q := by
  by_cases hc : c
  · exact evp_pos hc (e1 hc)
  · exact evp_neg hc (e2 hc)
theorem evp_bind {α β : Type} {g : Nat → Option α} {f : Nat → α → Option β} {P : α → Prop} {Q : β → Prop} (h : EvP g P) (e : ∀ a, P a → EvP (fun k => f k a) Q) : EvP (fun k => (g k).bind (f k)) Q := by
  obtain ⟨a, h1, p⟩ := h
  obtain ⟨r, h2, q⟩ := e a p
  exact ⟨r, (ev_bind h1).2 h2, q⟩
theorem evp_bindv {α β : Type} {g : Nat → Option α} {f : Nat → α → Option β} {a : α} {Q : β → Prop} (h : Ev g a) (e : EvP (fun k => f k a) Q) : EvP (fun k => (g k).bind (f k)) Q := by
  obtain ⟨r, h2, q⟩ := e
  exact ⟨r, (ev_bind h).2 h2, q⟩
theorem evp_now {α β : Type} {f : Nat → α → Option β} {a : α} {Q : β → Prop} (e : EvP (fun k => f k a) Q) : EvP (fun k => (some a).bind (f k)) Q := by
  obtain ⟨r, h2, q⟩ := e
  exact ⟨r, ev_now.2 h2, q⟩
theorem evp_succ {α : Type} {g f : Nat → Option α} {Q : α → Prop} (h : ∀ k, g (k + 1) = f k) (e : EvP f Q) : EvP g Q := by
  obtain ⟨r, h2, q⟩ := e
  exact ⟨r, (ev_succ h).2 h2, q⟩
theorem evp_mono {α : Type} {g : Nat → Option α} {P Q : α → Prop} (h : EvP g P) (hq : ∀ a, P a → Q a) : EvP g Q := by
  obtain ⟨r, h2, p⟩ := h
  exact ⟨r, h2, hq r p⟩
theorem evp_true {g : Nat → Option Bool} (h : EvP g (fun b => b = true)) : ∃ k, g k = some true := by
  obtain ⟨r, h, rfl⟩ := h
  exact Ev.rounds h
def Short (l : List S32) : Prop := ∀ x ∈ l, x.f0.length < 9223372036854775807 ∧ x.f1.length < 9223372036854775807
theorem rd_T_nat {l : List S32} {i : Nat} (h : i < l.length) : rd_T32 l (i : Int) = l[i] := by
  unfold rd_T32
  rw [Int.toNat_natCast, List.getD_eq_getElem?_getD, List.getElem?_eq_getElem h]
  rfl
theorem Short.at_ {l : List S32} (h : Short l) {i : Nat} (hi : i < l.length) : (l[i]).f0.length < 9223372036854775807 ∧ (l[i]).f1.length < 9223372036854775807 := h _ (List.getElem_mem hi)
theorem toIntS_l0 (l : List Int) (hl : l.length < 9223372036854775807) : ∀ d i : Nat, ∀ r : List Int, i + d = l.length → r.length = d →
    Ev (fun k => laws_toIntS.l0 k l (l.take i ++ r) (i : Int)) l := by
  intro d
  induction d with
  | zero =>
    intro i r hi hr
    have : r = [] := List.length_eq_zero_iff.1 hr
    subst this
    refine (ev_succ (fun k => by rw [laws_toIntS.l0])).2 ?_
    refine (ev_neg (by omega)).2 (ev_some.2 ?_)
    rw [List.append_nil, List.take_of_length_le (by omega)]
  | succ d ih =>
    intro i r hi hr
    have hlt : i < l.length := by omega
    match r, hr with
    | x :: r, hr =>
      have hr : r.length = d := by simpa using hr
      refine (ev_succ (fun k => by rw [laws_toIntS.l0])).2 ?_
      have e : (l.take i ++ x :: r).set ((i : Int)).toNat l[i] = l.take (i + 1) ++ r := by
        have hti : (l.take i).length = i := by rw [List.length_take]; omega
        rw [Int.toNat_natCast, List.set_append, if_neg (by omega), hti, Nat.sub_self, List.set_cons_zero, List.take_succ_eq_append_getElem hlt, List.append_assoc]
        rfl
      have h1 : (i : Int) < ((l.take i ++ x :: r).length : Int) := by
        rw [List.length_append, List.length_take, List.length_cons]
        omega
      repeat (first | refine (ev_pos (by omega)).2 ?_)
      rw [rd_nat hlt, e, w_succ (by omega)]
      exact ih (i + 1) r (by omega) hr
theorem toIntS_ev (l : List Int) (hl : l.length ≤ 35184372088832) : Ev (fun k => laws_toIntS.f k l) l := by
  unfold laws_toIntS.f
  refine (ev_pos (by omega)).2 ((ev_pos (by omega)).2 ?_)
  have := toIntS_l0 l (by omega) l.length 0 (List.replicate l.length 0) (by omega) (by simp)
  simpa using this
theorem eqIntS_l0 (l : List Int) (hl : l.length < 9223372036854775807) : ∀ d i : Nat, i + d = l.length → Ev (fun k => laws_eqIntS.l0 k l l (i : Int)) true := by
  intro d
  induction d with
  | zero =>
    intro i hi
    refine (ev_succ (fun k => by rw [laws_eqIntS.l0])).2 ?_
    exact (ev_neg (by omega)).2 (ev_some.2 rfl)
  | succ d ih =>
    intro i hi
    refine (ev_succ (fun k => by rw [laws_eqIntS.l0])).2 ?_
    refine (ev_pos (by omega)).2 ((ev_pos (by omega)).2 ((ev_pos (by omega)).2 ((ev_pos rfl).2 ?_)))
    rw [w_succ (by omega)]
    exact ih (i + 1) (by omega)
theorem eqIntS_ev (l : List Int) (hl : l.length < 9223372036854775807) : Ev (fun k => laws_eqIntS.f k l l) true := by
  unfold laws_eqIntS.f
  exact (ev_pos rfl).2 (eqIntS_l0 l hl l.length 0 (by omega))
theorem szIntS_ev (l : List Int) (n : Int) (h0 : 0 ≤ n) (h1 : n ≤ 1048576) (hl : l.length ≤ 9223372036854775807) : Ev (fun _ => laws_szIntS.f l n) (if n - l.length < 0 then -1 else n - l.length) := by
  unfold laws_szIntS.f
  rw [w64 (by omega) (by omega)]
  by_cases h : n - (l.length : Int) < 0
  · refine (ev_pos h).2 (ev_some.2 ?_)
    rw [if_pos h]
  · refine (ev_neg h).2 (ev_some.2 ?_)
    rw [if_neg h]
/-- what is left behind a rule; less than 0 if it is too much. -/
def szT (a b : List Int) (n : Int) : Int := if n - a.length - b.length < 0 then -1 else n - a.length - b.length
theorem szTrade_ev (a b : List Int) (n : Int) (h0 : 0 ≤ n) (h1 : n ≤ 1048576) (ha : a.length ≤ 9223372036854775807) (hb : b.length ≤ 9223372036854775807) : Ev (fun _ => laws_szTrade.f a b n) (szT a b n) := by
  unfold laws_szTrade.f szT
  refine (ev_bind (szIntS_ev a n h0 h1 ha)).2 ?_
  by_cases h : n - (a.length : Int) < 0
  · rw [if_pos h]
    refine (ev_pos (by omega)).2 (ev_some.2 ?_)
    rw [if_pos (by omega)]
  · rw [if_neg h]
    refine (ev_neg h).2 ((ev_bind (szIntS_ev b _ (by omega) (by omega) hb)).2 ?_)
    by_cases h2 : n - (a.length : Int) - b.length < 0
    · rw [if_pos h2]
      exact (ev_pos (by omega)).2 (ev_some.2 rfl)
    · rw [if_neg h2]
      exact (ev_neg h2).2 (ev_some.2 rfl)
theorem toTrade_ev (a b : List Int) (ha : a.length ≤ 35184372088832) (hb : b.length ≤ 35184372088832) : Ev (fun k => laws_toTrade.f k a b) (a, b) := by
  unfold laws_toTrade.f
  exact (ev_bind (toIntS_ev a ha)).2 ((ev_bind (toIntS_ev b hb)).2 (ev_some.2 rfl))
theorem eqTrade_ev (a b : List Int) (ha : a.length < 9223372036854775807) (hb : b.length < 9223372036854775807) : Ev (fun k => laws_eqTrade.f k a b a b) true := by
  unfold laws_eqTrade.f
  exact (ev_bind (eqIntS_ev a ha)).2 ((ev_pos rfl).2 ((ev_bind (eqIntS_ev b hb)).2 ((ev_pos rfl).2 (ev_some.2 rfl))))
theorem rd_LT_nat {l : List S29} {i : Nat} (h : i < l.length) : rd_T29 l (i : Int) = l[i] := by
  unfold rd_T29
  rw [Int.toNat_natCast, List.getD_eq_getElem?_getD, List.getElem?_eq_getElem h]
  rfl
def LShort (l : List S29) : Prop := ∀ x ∈ l, x.f0.length ≤ 9223372036854775807 ∧ x.f1.length ≤ 9223372036854775807
def LSmall (l : List S29) : Prop := ∀ x ∈ l, x.f0.length ≤ 1048576 ∧ x.f1.length ≤ 1048576
def conv (x : S29) : S32 := ⟨x.f0, x.f1⟩
theorem conv_short {l : List S29} (h : LSmall l) : Short (l.map conv) := by
  intro x hx
  obtain ⟨y, hy, rfl⟩ := List.mem_map.1 hx
  have := h y hy
  exact ⟨by show y.f0.length < _; omega, by show y.f1.length < _; omega⟩
theorem szTradeS_l0 (l : List S29) (hl : l.length < 9223372036854775807) (hs : LShort l) : ∀ (d i : Nat) (n : Int), i + d = l.length → 0 ≤ n → n ≤ 1048576 →
    EvP (fun k => laws_szTradeS.l0 k l n (i : Int)) (fun r => r < 0 ∨ ∀ j, i ≤ j → ∀ h : j < l.length, (l[j]).f0.length ≤ 1048576 ∧ (l[j]).f1.length ≤ 1048576) := by
  intro d
  induction d with
  | zero =>
    intro i n hi h0 h1
    refine evp_succ (fun k => by rw [laws_szTradeS.l0]) (evp_neg (by omega) (evp_some (.inr ?_)))
    intro j h1 h2
    omega
  | succ d ih =>
    intro i n hi h0 h1
    have hlt : i < l.length := by omega
    have := hs _ (List.getElem_mem hlt)
    refine evp_succ (fun k => by rw [laws_szTradeS.l0]) (evp_pos (by omega) (evp_pos (by omega) ?_))
    rw [rd_LT_nat hlt]
    refine evp_bind (evp_ev (szTrade_ev _ _ n h0 h1 (by omega) (by omega)) rfl) (fun a ea => ?_)
    subst ea
    unfold szT
    by_cases h : n - ((l[i]).f0.length : Int) - ((l[i]).f1.length : Int) < 0
    · rw [if_pos h]; exact evp_pos (by omega) (evp_some (.inl (by omega)))
    · rw [if_neg h, w_succ (by omega)]
      refine evp_neg h (evp_mono (ih (i + 1) _ (by omega) (by omega) (by omega)) (fun r hr => ?_))
      rcases hr with hr | hr
      · exact .inl hr
      · right
        intro j hj hjl
        rcases Nat.lt_or_ge i j with h2 | h2
        · exact hr j (by omega) hjl
        · have : j = i := by omega
          subst this
          exact ⟨by omega, by omega⟩
theorem szTradeS_ev (l : List S29) (hl : l.length ≤ 9223372036854775807) (hs : LShort l) : EvP (fun k => laws_szTradeS.f k l 1048576) (fun r => r < 0 ∨ (l.length ≤ 1048576 ∧ LSmall l)) := by
  unfold laws_szTradeS.f
  rw [w64 (by omega) (by omega)]
  by_cases h : (1048576 : Int) - l.length < 0
  · exact evp_pos h (evp_some (.inl (by omega)))
  · refine evp_neg h (evp_mono (szTradeS_l0 l (by omega) hs l.length 0 _ (by omega) (by omega) (by omega)) (fun r hr => ?_))
    rcases hr with hr | hr
    · exact .inl hr
    · right
      refine ⟨by omega, fun x hx => ?_⟩
      obtain ⟨j, hj, rfl⟩ := List.getElem_of_mem hx
      exact hr j (by omega) hj
theorem toTradeS_l0 (l : List S29) (hl : l.length ≤ 1048576) (hs : LSmall l) : ∀ (d i : Nat) (r : List S32), i + d = l.length → r.length = d →
    Ev (fun k => laws_toTradeS.l0 k l ((l.take i).map conv ++ r) (i : Int)) (l.map conv) := by
  intro d
  induction d with
  | zero =>
    intro i r hi hr
    have : r = [] := List.length_eq_zero_iff.1 hr
    subst this
    refine (ev_succ (fun k => by rw [laws_toTradeS.l0])).2 ?_
    refine (ev_neg (by omega)).2 (ev_some.2 ?_)
    rw [List.append_nil, List.take_of_length_le (by omega)]
  | succ d ih =>
    intro i r hi hr
    have hlt : i < l.length := by omega
    match r, hr with
    | x :: r, hr =>
      have hr : r.length = d := by simpa using hr
      have hsm := hs _ (List.getElem_mem hlt)
      refine (ev_succ (fun k => by rw [laws_toTradeS.l0])).2 ?_
      have e : ((l.take i).map conv ++ x :: r).set ((i : Int)).toNat (⟨(l[i]).f0, (l[i]).f1⟩ : S32) = (l.take (i + 1)).map conv ++ r := by
        have hti : ((l.take i).map conv).length = i := by rw [List.length_map, List.length_take]; omega
        rw [Int.toNat_natCast, List.set_append, if_neg (by omega), hti, Nat.sub_self, List.set_cons_zero, List.take_succ_eq_append_getElem hlt, List.map_append, List.append_assoc]
        rfl
      have h1 : (i : Int) < ((((l.take i).map conv ++ x :: r).length : Nat) : Int) := by
        rw [List.length_append, List.length_map, List.length_take, List.length_cons]
        omega
      refine (ev_pos (by omega)).2 ((ev_pos (by omega)).2 ?_)
      rw [rd_LT_nat hlt]
      refine (ev_bind (toTrade_ev _ _ (by omega) (by omega))).2 ((ev_pos h1).2 ?_)
      rw [e, w_succ (by omega)]
      exact ih (i + 1) r (by omega) hr
theorem toTradeS_ev (l : List S29) (hl : l.length ≤ 1048576) (hs : LSmall l) : Ev (fun k => laws_toTradeS.f k l) (l.map conv) := by
  unfold laws_toTradeS.f
  refine (ev_pos (by omega)).2 ((ev_pos (by omega)).2 ?_)
  have := toTradeS_l0 l hl hs l.length 0 (List.replicate l.length z32) (by omega) (by simp)
  simpa using this
theorem eqTradeS_l0 (l : List S32) (hl : l.length < 9223372036854775807) (hs : Short l) : ∀ d i : Nat, i + d = l.length → Ev (fun k => laws_eqTradeS.l0 k l l (i : Int)) true := by
  intro d
  induction d with
  | zero =>
    intro i hi
    refine (ev_succ (fun k => by rw [laws_eqTradeS.l0])).2 ?_
    exact (ev_neg (by omega)).2 (ev_some.2 rfl)
  | succ d ih =>
    intro i hi
    have hlt : i < l.length := by omega
    refine (ev_succ (fun k => by rw [laws_eqTradeS.l0])).2 ?_
    refine (ev_pos (by omega)).2 ((ev_pos (by omega)).2 ((ev_pos (by omega)).2 ?_))
    rw [rd_T_nat hlt]
    refine (ev_bind (eqTrade_ev _ _ (hs.at_ hlt).1 (hs.at_ hlt).2)).2 ((ev_pos rfl).2 ?_)
    rw [w_succ (by omega)]
    exact ih (i + 1) (by omega)
theorem eqTradeS_ev (l : List S32) (hl : l.length < 9223372036854775807) (hs : Short l) : Ev (fun k => laws_eqTradeS.f k l l) true := by
  unfold laws_eqTradeS.f
  exact (ev_pos rfl).2 (eqTradeS_l0 l hl hs l.length 0 (by omega))
/-! Heaps and things. -/
def okT (m : Int) (n : Int) : Bool := decide (0 ≤ n) && decide (n ≤ m)
def HOK (l : List Int) (m : Int) : Bool := l.all (okT m) && ((l.length : Int) == 3)
theorem HOK_list {l : List Int} {m : Int} (h : HOK l m = true) : ∃ a b c : Int, l = [a, b, c] ∧ 0 ≤ a ∧ a ≤ m ∧ 0 ≤ b ∧ b ≤ m ∧ 0 ≤ c ∧ c ≤ m := by
  unfold HOK at h
  rw [Bool.and_eq_true] at h
  have hl : l.length = 3 := by have := h.2; simp only [beq_iff_eq] at this; omega
  match l, hl with
  | [a, b, c], _ =>
    have := h.1
    simp [okT] at this
    exact ⟨a, b, c, rfl, by omega, by omega, by omega, by omega, by omega, by omega⟩
theorem HOK_mk {a b c m : Int} (h : 0 ≤ a ∧ a ≤ m ∧ 0 ≤ b ∧ b ≤ m ∧ 0 ≤ c ∧ c ≤ m) : HOK [a, b, c] m = true := by
  simp [HOK, okT]
  omega
theorem HOK_three (a b c m : Int) : HOK [a, b, c] m = decide (0 ≤ a ∧ a ≤ m ∧ 0 ≤ b ∧ b ≤ m ∧ 0 ≤ c ∧ c ≤ m) := by
  rw [Bool.eq_iff_iff, decide_eq_true_iff]
  simp [HOK, okT]
  omega
theorem thingsOk_l0 (l : List Int) (m : Int) (hl : l.length < 9223372036854775807) : ∀ d i : Nat, i + d = l.length →
    Ev (fun k => impl_thingsOk.l0 k l m l (l.length : Int) (i : Int)) ((l.drop i).all (okT m) && ((l.length : Int) == 3)) := by
  intro d
  induction d with
  | zero =>
    intro i hi
    refine (ev_succ (fun k => by rw [impl_thingsOk.l0])).2 ?_
    refine (ev_neg (by omega)).2 (ev_some.2 ?_)
    rw [List.drop_eq_nil_of_le (by omega)]
    simp
  | succ d ih =>
    intro i hi
    have hlt : i < l.length := by omega
    refine (ev_succ (fun k => by rw [impl_thingsOk.l0])).2 ?_
    refine (ev_pos (by omega)).2 ((ev_pos (by omega)).2 ((ev_pos (by omega)).2 ?_))
    rw [rd_nat hlt, drop_cons hlt, List.all_cons]
    by_cases h0 : l[i] < 0
    · refine (ev_pos h0).2 (ev_some.2 ?_)
      have : okT m l[i] = false := by simp [okT]; omega
      rw [this]; simp
    · by_cases h1 : l[i] > m
      · refine (ev_neg h0).2 ((ev_pos h1).2 (ev_some.2 ?_))
        have : okT m l[i] = false := by simp [okT]; omega
        rw [this]; simp
      · refine (ev_neg h0).2 ((ev_neg h1).2 ?_)
        have : okT m l[i] = true := by simp [okT]; omega
        rw [this, w_succ (by omega), Bool.true_and]
        exact ih (i + 1) (by omega)
theorem thingsOk_ev (l : List Int) (m : Int) (hl : l.length < 9223372036854775807) : Ev (fun k => impl_thingsOk.f k l m) (HOK l m) := by
  have := thingsOk_l0 l m hl l.length 0 (by omega)
  exact this
def TOK (t g : List Int) : Bool := HOK t 5 && HOK g 5
theorem TradeValid_ev (t g : List Int) (ht : t.length < 9223372036854775807) (hg : g.length < 9223372036854775807) : Ev (fun k => impl_TradeValid.f k t g) (TOK t g) := by
  unfold impl_TradeValid.f TOK
  refine (ev_bind (thingsOk_ev t 5 ht)).2 ?_
  cases h : HOK t 5 with
  | true => exact (ev_pos rfl).2 ((ev_bind (thingsOk_ev g 5 hg)).2 (ev_some.2 (by simp)))
  | false => exact (ev_neg (by simp)).2 (ev_some.2 (by simp))
/-! Rules. -/
def tok1 (x : S32) : Bool := TOK x.f0 x.f1
def TSOK (l : List S32) : Bool := l.all tok1 && decide ((l.length : Int) ≤ 4)
theorem TradesValid_l0 (l : List S32) (hl : l.length < 9223372036854775807) (hs : Short l) : ∀ d i : Nat, i + d = l.length →
    Ev (fun k => impl_TradesValid.l0 k l l (l.length : Int) (i : Int)) ((l.drop i).all tok1 && decide ((l.length : Int) ≤ 4)) := by
  intro d
  induction d with
  | zero =>
    intro i hi
    refine (ev_succ (fun k => by rw [impl_TradesValid.l0])).2 ?_
    refine (ev_neg (by omega)).2 (ev_some.2 ?_)
    rw [List.drop_eq_nil_of_le (by omega)]
    simp
  | succ d ih =>
    intro i hi
    have hlt : i < l.length := by omega
    refine (ev_succ (fun k => by rw [impl_TradesValid.l0])).2 ?_
    refine (ev_pos (by omega)).2 ((ev_pos (by omega)).2 ((ev_pos (by omega)).2 ?_))
    rw [rd_T_nat hlt, drop_cons hlt, List.all_cons]
    refine (ev_bind (TradeValid_ev _ _ (hs.at_ hlt).1 (hs.at_ hlt).2)).2 ?_
    by_cases h : TOK (l[i]).f0 (l[i]).f1 = true
    · refine (ev_pos h).2 ?_
      rw [w_succ (by omega), show tok1 l[i] = true from h, Bool.true_and]
      exact ih (i + 1) (by omega)
    · refine (ev_neg h).2 (ev_some.2 ?_)
      rw [show tok1 l[i] = false by simpa [tok1] using h]
      simp
theorem TradesValid_ev (l : List S32) (hl : l.length < 9223372036854775807) (hs : Short l) : Ev (fun k => impl_TradesValid.f k l) (TSOK l) := TradesValid_l0 l hl hs l.length 0 (by omega)
theorem l1In_ev (n a b : Int) : Ev (fun _ => spec_l1In.f n a b) (decide (a ≤ n) && decide (n ≤ b)) := by
  unfold spec_l1In.f
  by_cases h : n ≥ a
  · refine (ev_pos h).2 (ev_some.2 ?_)
    rw [decide_eq_true (show a ≤ n from h), Bool.true_and]
  · refine (ev_neg h).2 (ev_some.2 ?_)
    rw [decide_eq_false (show ¬ a ≤ n from h), Bool.false_and]
theorem l8List_l0 (l : List Int) (m : Int) (hl : l.length < 9223372036854775807) : ∀ d i : Nat, i + d = l.length →
    Ev (fun k => spec_l8List.l0 k l m (i : Int)) ((l.drop i).all (okT m) && ((l.length : Int) == 3)) := by
  intro d
  induction d with
  | zero =>
    intro i hi
    refine (ev_succ (fun k => by rw [spec_l8List.l0])).2 ?_
    refine (ev_neg (by omega)).2 (ev_some.2 ?_)
    rw [List.drop_eq_nil_of_le (by omega)]
    simp
  | succ d ih =>
    intro i hi
    have hlt : i < l.length := by omega
    refine (ev_succ (fun k => by rw [spec_l8List.l0])).2 ?_
    refine (ev_pos (by omega)).2 ((ev_pos (by omega)).2 ?_)
    rw [rd_nat hlt, drop_cons hlt, List.all_cons]
    refine (ev_bind (l1In_ev l[i] 0 m)).2 ?_
    cases h : okT m l[i] with
    | true =>
      refine (ev_pos h).2 ?_
      rw [w_succ (by omega), Bool.true_and]
      exact ih (i + 1) (by omega)
    | false =>
      exact (ev_neg (by show ¬ okT m l[i] = true; rw [h]; simp)).2 (ev_some.2 (by simp))
theorem l8List_ev (l : List Int) (m : Int) (hl : l.length < 9223372036854775807) : Ev (fun k => spec_l8List.f k l m) (HOK l m) := by
  have := l8List_l0 l m hl l.length 0 (by omega)
  exact this
theorem sTradeValid_ev (t g : List Int) (ht : t.length < 9223372036854775807) (hg : g.length < 9223372036854775807) : Ev (fun k => spec_TradeValid.f k t g) (TOK t g) := by
  unfold spec_TradeValid.f TOK
  refine (ev_bind (l8List_ev t 5 ht)).2 ?_
  cases h : HOK t 5 with
  | true => exact (ev_pos rfl).2 ((ev_bind (l8List_ev g 5 hg)).2 (ev_some.2 (by simp)))
  | false => exact (ev_neg (by simp)).2 (ev_some.2 (by simp))
theorem sTradesValid_l0 (l : List S32) (hl : l.length < 9223372036854775807) (hs : Short l) : ∀ d i : Nat, i + d = l.length →
    Ev (fun k => spec_TradesValid.l0 k l (i : Int)) ((l.drop i).all tok1 && decide ((l.length : Int) ≤ 4)) := by
  intro d
  induction d with
  | zero =>
    intro i hi
    refine (ev_succ (fun k => by rw [spec_TradesValid.l0])).2 ?_
    refine (ev_neg (by omega)).2 (ev_some.2 ?_)
    rw [List.drop_eq_nil_of_le (by omega)]
    simp
  | succ d ih =>
    intro i hi
    have hlt : i < l.length := by omega
    refine (ev_succ (fun k => by rw [spec_TradesValid.l0])).2 ?_
    refine (ev_pos (by omega)).2 ((ev_pos (by omega)).2 ?_)
    rw [rd_T_nat hlt, drop_cons hlt, List.all_cons]
    refine (ev_bind (sTradeValid_ev _ _ (hs.at_ hlt).1 (hs.at_ hlt).2)).2 ?_
    by_cases h : TOK (l[i]).f0 (l[i]).f1 = true
    · refine (ev_pos h).2 ?_
      rw [w_succ (by omega), show tok1 l[i] = true from h, Bool.true_and]
      exact ih (i + 1) (by omega)
    · refine (ev_neg h).2 (ev_some.2 ?_)
      rw [show tok1 l[i] = false by simpa [tok1] using h]
      simp
theorem sTradesValid_ev (l : List S32) (hl : l.length < 9223372036854775807) (hs : Short l) : Ev (fun k => spec_TradesValid.f k l) (TSOK l) := sTradesValid_l0 l hl hs l.length 0 (by omega)
theorem FnExactTradesValid (l : List S29) (hl : l.length ≤ maxLen) (w : ∀ x ∈ l, (x.f0.length ≤ maxLen ∧ ∀ y ∈ x.f0, (Lit.int .i64 y).wf = true) ∧ (x.f1.length ≤ maxLen ∧ ∀ y ∈ x.f1, (Lit.int .i64 y).wf = true)) : ∃ k, laws_FnExactTradesValid.f k l = some true := by
  have hs : LShort l := fun x hx => by
    have := w x hx
    simp only [maxLen] at this
    exact ⟨by omega, by omega⟩
  simp only [maxLen] at hl
  refine evp_true ?_
  unfold laws_FnExactTradesValid.f
  refine evp_bind (szTradeS_ev l (by omega) hs) (fun a ha => ?_)
  by_cases h : a < 0
  · exact evp_pos h (evp_some rfl)
  refine evp_neg h ?_
  obtain ⟨h1, h2⟩ : l.length ≤ 1048576 ∧ LSmall l := by
    rcases ha with ha | ha
    · exact absurd ha h
    · exact ha
  have hsh := conv_short h2
  refine evp_ev (r := true) ?_ rfl
  refine (ev_bind (toTradeS_ev l h1 h2)).2 ((ev_bind (sTradesValid_ev _ (by simp; omega) hsh)).2 ?_)
  refine (ev_bind (toTradeS_ev l h1 h2)).2 ((ev_bind (TradesValid_ev _ (by simp; omega) hsh)).2 ?_)
  refine (ev_neg (by simp)).2 ((ev_bind (toTradeS_ev l h1 h2)).2 ((ev_bind (eqTradeS_ev _ (by simp; omega) hsh)).2 ?_))
  exact (ev_pos rfl).2 (ev_some.2 rfl)

end Go.Proofs.Ytajecpmdagbojaa.Pure
