/-
  the pure statement of FnExactTradeDo
-/
import Derived.Test.YtajecpmdagbojaaPFnExactTradeDox6
namespace Go.Proofs.Ytajecpmdagbojaa.Pure
open Go.RowKit Go.Proofs.Ytajecpmdagbojaa.PFnExactTradeDo Go.Proofs.YtajecpmdagbojaaW.PrintWords Go.Proofs.YtajecpmdagbojaaW.PrintLast Go.Proofs.YtajecpmdagbojaaW.PrintMore
set_option linter.unusedVariables false
set_option linter.unusedSimpArgs false

/-! Rounds without counting them: what a printed function tells from some number of rounds on. -/
theorem ev_some {α : Type} {a r : α} : Ev (fun _ => some a) r ↔ a = r := by
  constructor
  · rintro ⟨K, h⟩
    exact Option.some.inj (h K (Nat.le_refl _))
  · rintro rfl
    exact ⟨0, fun _ _ => rfl⟩
theorem ev_pos {α : Type} {c : Prop} [Decidable c] {g h : Nat → Option α} {r : α} (hc : c) : Ev (fun k => if c then g k else h k) r ↔ Ev g r := by simp only [if_pos hc]
theorem ev_neg {α : Type} {c : Prop} [Decidable c] {g h : Nat → Option α} {r : α} (hc : ¬ c) : Ev (fun k => if c then g k else h k) r ↔ Ev h r := by simp only [if_neg hc]
theorem ev_bind {α β : Type} {g : Nat → Option α} {f : Nat → α → Option β} {a : α} (h : Ev g a) {r : β} : Ev (fun k => (g k).bind (f k)) r ↔ Ev (fun k => f k a) r := by
  constructor
  · rintro ⟨K, e⟩
    obtain ⟨L, h⟩ := h
    refine ⟨max K L, fun k hk => ?_⟩
    have h1 := e k (by omega)
    simp only [h k (by omega), Option.bind_some] at h1
    exact h1
  · exact fun e => Ev.bind h e
theorem ev_now {α β : Type} {f : Nat → α → Option β} {a : α} {r : β} : Ev (fun k => (some a).bind (f k)) r ↔ Ev (fun k => f k a) r := by simp only [Option.bind_some]
theorem ev_succ {α : Type} {g f : Nat → Option α} {r : α} (h : ∀ k, g (k + 1) = f k) : Ev g r ↔ Ev f r := by
  constructor
  · rintro ⟨K, e⟩
    exact ⟨K, fun k hk => by rw [← h]; exact e (k + 1) (by omega)⟩
  · exact fun e => Ev.step h e
theorem ev_of_eq {α : Type} {g f : Nat → Option α} {r : α} (h : ∀ k, g k = f k) : Ev g r ↔ Ev f r := by
  have : g = f := funext h
  rw [this]
theorem ev_true {g : Nat → Option Bool} (h : Ev g true) : ∃ k, g k = some true := Ev.rounds h
theorem w64 {x : Int} (h0 : -9223372036854775808 ≤ x) (h1 : x ≤ 9223372036854775807) : wrap64 x = x := by
  unfold wrap64
  omega
theorem w_succ {i : Nat} (h : i < 9223372036854775807) : wrap64 ((i : Int) + 1) = ((i + 1 : Nat) : Int) := by rw [w64] <;> omega
theorem rd_nat {l : List Int} {i : Nat} (h : i < l.length) : rd l (i : Int) = l[i] := by
  unfold rd
  rw [Int.toNat_natCast, List.getD_eq_getElem?_getD, List.getElem?_eq_getElem h]
  rfl
theorem drop_cons {α : Type} {l : List α} {i : Nat} (h : i < l.length) : l.drop i = l[i] :: l.drop (i + 1) := List.drop_eq_getElem_cons h
theorem toIntS_l0 (l : List Int) (hl : l.length < 9223372036854775807) : ∀ d i : Nat, ∀ r : List Int, i + d = l.length → r.length = d →
    Ev (fun k => laws_toIntS.l0 k l (l.take i ++ r) (i : Int)) l := by
  intro d
  induction d with
  | zero =>
    intro i r hi hr
    have : r = [] := List.length_eq_zero_iff.1 hr
    subst this
    refine (ev_succ (fun k => by rw [laws_toIntS.l0])).2 ?_
    refine (ev_neg (by omega)).2 (ev_some.2 ?_)
    rw [List.append_nil, List.take_of_length_le (by omega)]
  | succ d ih =>
    intro i r hi hr
    have hlt : i < l.length := by omega
    match r, hr with
    | x :: r, hr =>
      have hr : r.length = d := by simpa using hr
      refine (ev_succ (fun k => by rw [laws_toIntS.l0])).2 ?_
      have e : (l.take i ++ x :: r).set ((i : Int)).toNat l[i] = l.take (i + 1) ++ r := by
        have hti : (l.take i).length = i := by rw [List.length_take]; omega
        rw [Int.toNat_natCast, List.set_append, if_neg (by omega), hti, Nat.sub_self, List.set_cons_zero, List.take_succ_eq_append_getElem hlt, List.append_assoc]
        rfl
      have h1 : (i : Int) < ((l.take i ++ x :: r).length : Int) := by
        rw [List.length_append, List.length_take, List.length_cons]
        omega
      repeat (first | refine (ev_pos (by omega)).2 ?_)
      rw [rd_nat hlt, e, w_succ (by omega)]
      exact ih (i + 1) r (by omega) hr
theorem toIntS_ev (l : List Int) (hl : l.length ≤ 35184372088832) : Ev (fun k => laws_toIntS.f k l) l := by
  unfold laws_toIntS.f
  refine (ev_pos (by omega)).2 ((ev_pos (by omega)).2 ?_)
  have := toIntS_l0 l (by omega) l.length 0 (List.replicate l.length 0) (by omega) (by simp)
  simpa using this
theorem eqIntS_l0 (l : List Int) (hl : l.length < 9223372036854775807) : ∀ d i : Nat, i + d = l.length → Ev (fun k => laws_eqIntS.l0 k l l (i : Int)) true := by
  intro d
  induction d with
  | zero =>
    intro i hi
    refine (ev_succ (fun k => by rw [laws_eqIntS.l0])).2 ?_
    exact (ev_neg (by omega)).2 (ev_some.2 rfl)
  | succ d ih =>
    intro i hi
    refine (ev_succ (fun k => by rw [laws_eqIntS.l0])).2 ?_
    refine (ev_pos (by omega)).2 ((ev_pos (by omega)).2 ((ev_pos (by omega)).2 ((ev_pos rfl).2 ?_)))
    rw [w_succ (by omega)]
    exact ih (i + 1) (by omega)
theorem eqIntS_ev (l : List Int) (hl : l.length < 9223372036854775807) : Ev (fun k => laws_eqIntS.f k l l) true := by
  unfold laws_eqIntS.f
  exact (ev_pos rfl).2 (eqIntS_l0 l hl l.length 0 (by omega))
theorem szIntS_ev (l : List Int) (n : Int) (h0 : 0 ≤ n) (h1 : n ≤ 1048576) (hl : l.length ≤ 9223372036854775807) : Ev (fun _ => laws_szIntS.f l n) (if n - l.length < 0 then -1 else n - l.length) := by
  unfold laws_szIntS.f
  rw [w64 (by omega) (by omega)]
  by_cases h : n - (l.length : Int) < 0
  · refine (ev_pos h).2 (ev_some.2 ?_)
    rw [if_pos h]
  · refine (ev_neg h).2 (ev_some.2 ?_)
    rw [if_neg h]
/-- what is left behind a rule; less than 0 if it is too much. -/
def szT (a b : List Int) (n : Int) : Int := if n - a.length - b.length < 0 then -1 else n - a.length - b.length
theorem szTrade_ev (a b : List Int) (n : Int) (h0 : 0 ≤ n) (h1 : n ≤ 1048576) (ha : a.length ≤ 9223372036854775807) (hb : b.length ≤ 9223372036854775807) : Ev (fun _ => laws_szTrade.f a b n) (szT a b n) := by
  unfold laws_szTrade.f szT
  refine (ev_bind (szIntS_ev a n h0 h1 ha)).2 ?_
  by_cases h : n - (a.length : Int) < 0
  · rw [if_pos h]
    refine (ev_pos (by omega)).2 (ev_some.2 ?_)
    rw [if_pos (by omega)]
  · rw [if_neg h]
    refine (ev_neg h).2 ((ev_bind (szIntS_ev b _ (by omega) (by omega) hb)).2 ?_)
    by_cases h2 : n - (a.length : Int) - b.length < 0
    · rw [if_pos h2]
      exact (ev_pos (by omega)).2 (ev_some.2 rfl)
    · rw [if_neg h2]
      exact (ev_neg h2).2 (ev_some.2 rfl)
theorem toTrade_ev (a b : List Int) (ha : a.length ≤ 35184372088832) (hb : b.length ≤ 35184372088832) : Ev (fun k => laws_toTrade.f k a b) (a, b) := by
  unfold laws_toTrade.f
  exact (ev_bind (toIntS_ev a ha)).2 ((ev_bind (toIntS_ev b hb)).2 (ev_some.2 rfl))
theorem eqTrade_ev (a b : List Int) (ha : a.length < 9223372036854775807) (hb : b.length < 9223372036854775807) : Ev (fun k => laws_eqTrade.f k a b a b) true := by
  unfold laws_eqTrade.f
  exact (ev_bind (eqIntS_ev a ha)).2 ((ev_pos rfl).2 ((ev_bind (eqIntS_ev b hb)).2 ((ev_pos rfl).2 (ev_some.2 rfl))))
/-- numbers from n on. -/
def upFrom (n : Int) (d : Nat) : List Int := (List.range d).map fun (j : Nat) => n + (j : Int)
theorem upFrom_len (n : Int) (d : Nat) : (upFrom n d).length = d := by simp [upFrom]
theorem upFrom_at (n : Int) (d i : Nat) (h : i < (upFrom n d).length) : (upFrom n d)[i] = n + (i : Int) := by simp [upFrom]
theorem upFrom_succ (n : Int) (d : Nat) : upFrom n (d + 1) = n :: upFrom (n + 1) d := by
  unfold upFrom
  rw [List.range_succ_eq_map, List.map_cons, List.map_map]
  simp only [Int.natCast_zero, Int.add_zero]
  congr 1
  refine List.map_congr_left (fun j _ => ?_)
  simp only [Function.comp]
  omega
theorem markIntS_l0 : ∀ (d i : Nat) (p r : List Int) (n : Int), p.length = i → r.length = d → i + d < 1000000000000 → 0 ≤ n → n + (d : Int) ≤ 2000000000000 →
    Ev (fun k => laws_markIntS.l0 k (p ++ r) n (i : Int)) (n + d, p ++ upFrom n d) := by
  intro d
  induction d with
  | zero =>
    intro i p r n hp hr hi h0 h1
    have : r = [] := List.length_eq_zero_iff.1 hr
    subst this
    refine (ev_succ (fun k => by rw [laws_markIntS.l0])).2 ?_
    refine (ev_neg (by simp; omega)).2 (ev_some.2 ?_)
    simp [upFrom]
  | succ d ih =>
    intro i p r n hp hr hi h0 h1
    match r, hr with
    | x :: r, hr =>
      have hr : r.length = d := by simpa using hr
      refine (ev_succ (fun k => by rw [laws_markIntS.l0])).2 ?_
      refine (ev_pos (by simp; omega)).2 ((ev_pos (by omega)).2 ?_)
      have e : (p ++ x :: r).set ((i : Int)).toNat n = (p ++ [n]) ++ r := by
        rw [Int.toNat_natCast, List.set_append, if_neg (by omega), show i - p.length = 0 by omega, List.set_cons_zero, List.append_assoc]
        rfl
      rw [e, w64 (x := n + 1) (by omega) (by omega), w_succ (by omega)]
      have := ih (i + 1) (p ++ [n]) r (n + 1) (by simp; omega) hr (by omega) (by omega) (by omega)
      rw [upFrom_succ]
      simpa [Int.add_assoc, Int.add_comm 1] using this
theorem markIntS_ev (l : List Int) (n : Int) (hl : l.length < 1000000000000) (h0 : 0 ≤ n) (h1 : n ≤ 1000000000000) : Ev (fun k => laws_markIntS.f k l n) (n + l.length, upFrom n l.length) := by
  have := markIntS_l0 l.length 0 [] l n rfl rfl (by omega) h0 (by omega)
  exact this
theorem heldIntS_l0 (l : List Int) (n : Int) (hl : l.length < 1000000000000) (h0 : 0 ≤ n) (h1 : n ≤ 1000000000000) (he : l = upFrom n l.length) : ∀ (d i : Nat), i + d = l.length →
    Ev (fun k => laws_heldIntS.l0 k l (n + (i : Int)) (i : Int)) (n + l.length) := by
  intro d
  induction d with
  | zero =>
    intro i hi
    refine (ev_succ (fun k => by rw [laws_heldIntS.l0])).2 ?_
    exact (ev_neg (by omega)).2 (ev_some.2 (by omega))
  | succ d ih =>
    intro i hi
    have hlt : i < l.length := by omega
    refine (ev_succ (fun k => by rw [laws_heldIntS.l0])).2 ?_
    refine (ev_pos (by omega)).2 ((ev_pos (by omega)).2 ?_)
    have e : l[i] = n + (i : Int) := by
      have : l[i] = (upFrom n l.length)[i]'(by rw [upFrom_len]; exact hlt) := by congr 1
      rw [this, upFrom_at]
    rw [rd_nat hlt, e]
    refine (ev_pos rfl).2 ?_
    rw [w64 (x := n + (i : Int) + 1) (by omega) (by omega), w_succ (by omega)]
    have := ih (i + 1) (by omega)
    rw [show n + (i : Int) + 1 = n + ((i + 1 : Nat) : Int) by omega]
    exact this
theorem heldIntS_ev (m : Nat) (n : Int) (hl : m < 1000000000000) (h0 : 0 ≤ n) (h1 : n ≤ 1000000000000) : Ev (fun k => laws_heldIntS.f k (upFrom n m) n) (n + m) := by
  have hlen := upFrom_len n m
  have := heldIntS_l0 (upFrom n m) n (by omega) h0 h1 (by rw [hlen]) (upFrom n m).length 0 (by omega)
  rw [hlen] at this
  unfold laws_heldIntS.f
  simpa using this
theorem markTrade_ev (a b : List Int) (n : Int) (ha : a.length ≤ 1048576) (hb : b.length ≤ 1048576) (h0 : 0 ≤ n) (h1 : n ≤ 10000000000) : ∃ x y, Ev (fun k => laws_markTrade.f k a b n) (n + a.length + b.length, x, y) := by
  unfold laws_markTrade.f
  refine ⟨_, _, (ev_bind (markIntS_ev a n (by omega) h0 (by omega))).2 ((ev_bind (markIntS_ev b _ (by omega) (by omega) (by omega))).2 (ev_some.2 rfl))⟩
/-! Heaps and things. -/
def okT (m : Int) (n : Int) : Bool := decide (0 ≤ n) && decide (n ≤ m)
def HOK (l : List Int) (m : Int) : Bool := l.all (okT m) && ((l.length : Int) == 3)
theorem HOK_list {l : List Int} {m : Int} (h : HOK l m = true) : ∃ a b c : Int, l = [a, b, c] ∧ 0 ≤ a ∧ a ≤ m ∧ 0 ≤ b ∧ b ≤ m ∧ 0 ≤ c ∧ c ≤ m := by
  unfold HOK at h
  rw [Bool.and_eq_true] at h
  have hl : l.length = 3 := by have := h.2; simp only [beq_iff_eq] at this; omega
  match l, hl with
  | [a, b, c], _ =>
    have := h.1
    simp [okT] at this
    exact ⟨a, b, c, rfl, by omega, by omega, by omega, by omega, by omega, by omega⟩
theorem HOK_mk {a b c m : Int} (h : 0 ≤ a ∧ a ≤ m ∧ 0 ≤ b ∧ b ≤ m ∧ 0 ≤ c ∧ c ≤ m) : HOK [a, b, c] m = true := by
  simp [HOK, okT]
  omega
theorem HOK_three (a b c m : Int) : HOK [a, b, c] m = decide (0 ≤ a ∧ a ≤ m ∧ 0 ≤ b ∧ b ≤ m ∧ 0 ≤ c ∧ c ≤ m) := by
  rw [Bool.eq_iff_iff, decide_eq_true_iff]
  simp [HOK, okT]
  omega
theorem thingsOk_l0 (l : List Int) (m : Int) (hl : l.length < 9223372036854775807) : ∀ d i : Nat, i + d = l.length →
    Ev (fun k => impl_thingsOk.l0 k l m l (l.length : Int) (i : Int)) ((l.drop i).all (okT m) && ((l.length : Int) == 3)) := by
  intro d
  induction d with
  | zero =>
    intro i hi
    refine (ev_succ (fun k => by rw [impl_thingsOk.l0])).2 ?_
    refine (ev_neg (by omega)).2 (ev_some.2 ?_)
    rw [List.drop_eq_nil_of_le (by omega)]
    simp
  | succ d ih =>
    intro i hi
    have hlt : i < l.length := by omega
    refine (ev_succ (fun k => by rw [impl_thingsOk.l0])).2 ?_
    refine (ev_pos (by omega)).2 ((ev_pos (by omega)).2 ((ev_pos (by omega)).2 ?_))
    rw [rd_nat hlt, drop_cons hlt, List.all_cons]
    by_cases h0 : l[i] < 0
    · refine (ev_pos h0).2 (ev_some.2 ?_)
      have : okT m l[i] = false := by simp [okT]; omega
      rw [this]; simp
    · by_cases h1 : l[i] > m
      · refine (ev_neg h0).2 ((ev_pos h1).2 (ev_some.2 ?_))
        have : okT m l[i] = false := by simp [okT]; omega
        rw [this]; simp
      · refine (ev_neg h0).2 ((ev_neg h1).2 ?_)
        have : okT m l[i] = true := by simp [okT]; omega
        rw [this, w_succ (by omega), Bool.true_and]
        exact ih (i + 1) (by omega)
theorem thingsOk_ev (l : List Int) (m : Int) (hl : l.length < 9223372036854775807) : Ev (fun k => impl_thingsOk.f k l m) (HOK l m) := by
  have := thingsOk_l0 l m hl l.length 0 (by omega)
  exact this
/-! Heaps after a rule. -/
def tr3 : List Int → List Int → List Int → List Int × Bool
  | [a, b, c], [x, y, z], [p, q, r] => if (x ≤ a ∧ a - x + p ≤ 40) ∧ (y ≤ b ∧ b - y + q ≤ 40) ∧ (z ≤ c ∧ c - z + r ≤ 40) then ([a - x + p, b - y + q, c - z + r], true) else ([], false)
  | _, _, _ => ([], false)
theorem tr3_three (a b c x y z p q r : Int) : tr3 [a, b, c] [x, y, z] [p, q, r] = if (x ≤ a ∧ a - x + p ≤ 40) ∧ (y ≤ b ∧ b - y + q ≤ 40) ∧ (z ≤ c ∧ c - z + r ≤ 40) then ([a - x + p, b - y + q, c - z + r], true) else ([], false) := rfl
theorem traded_step {h0 h t g o : List Int} {i : Nat} (hi : i < h.length) (ht : i < t.length) (hg : i < g.length) (ho : o.length < 17592186044416) {hn : Int} (hlt : (i : Int) < hn) (hb : i < 9223372036854775807)
    (ba : 0 ≤ h[i] ∧ h[i] ≤ 40) (bt : 0 ≤ t[i] ∧ t[i] ≤ 5) (bg : 0 ≤ g[i] ∧ g[i] ≤ 5) {r : List Int × Bool}
    (e : Ev (fun k => if t[i] ≤ h[i] ∧ h[i] - t[i] + g[i] ≤ 40 then impl_traded.l0 k (o ++ [h[i] - t[i] + g[i]]) h hn ((i + 1 : Nat) : Int) t g else some ([], false)) r) : Ev (fun k => impl_traded.l0 k o h hn (i : Int) t g) r := by
  refine (ev_succ (fun k => by rw [impl_traded.l0])).2 ?_
  refine (ev_pos hlt).2 ((ev_pos (by omega)).2 ((ev_pos (by omega)).2 ((ev_pos (by omega)).2 ?_)))
  rw [rd_nat hi, rd_nat ht, rd_nat hg]
  by_cases c : h[i] < t[i]
  · refine (ev_pos c).2 ?_
    exact (ev_neg (by omega)).1 e
  · refine (ev_neg c).2 ((ev_pos (by omega)).2 ?_)
    rw [w64 (x := h[i] - t[i]) (by omega) (by omega), w64 (x := h[i] - t[i] + g[i]) (by omega) (by omega), w_succ hb]
    by_cases d : h[i] - t[i] + g[i] > 40
    · refine (ev_pos d).2 ?_
      exact (ev_neg (by omega)).1 e
    · refine (ev_neg d).2 ((ev_pos ho).2 ?_)
      exact (ev_pos (by omega)).1 e
theorem traded_ev {h t g : List Int} (hh : HOK h 40 = true) (ht : HOK t 5 = true) (hg : HOK g 5 = true) : Ev (fun k => impl_traded.f k h t g) (tr3 h t g) := by
  obtain ⟨a, b, c, rfl, a0, a1, b0, b1, c0, c1⟩ := HOK_list hh
  obtain ⟨x, y, z, rfl, x0, x1, y0, y1, z0, z1⟩ := HOK_list ht
  obtain ⟨p, q, r, rfl, p0, p1, q0, q1, r0, r1⟩ := HOK_list hg
  unfold impl_traded.f
  rw [tr3_three]
  refine traded_step (h0 := []) (i := 0) (by simp) (by simp) (by simp) (by simp) (by simp) (by omega) ⟨a0, a1⟩ ⟨x0, x1⟩ ⟨p0, p1⟩ ?_
  by_cases e1 : x ≤ a ∧ a - x + p ≤ 40
  · refine (ev_pos e1).2 ?_
    refine traded_step (h0 := []) (i := 1) (by simp) (by simp) (by simp) (by simp) (by simp) (by omega) ⟨b0, b1⟩ ⟨y0, y1⟩ ⟨q0, q1⟩ ?_
    by_cases e2 : y ≤ b ∧ b - y + q ≤ 40
    · refine (ev_pos e2).2 ?_
      refine traded_step (h0 := []) (i := 2) (by simp) (by simp) (by simp) (by simp) (by simp) (by omega) ⟨c0, c1⟩ ⟨z0, z1⟩ ⟨r0, r1⟩ ?_
      by_cases e3 : z ≤ c ∧ c - z + r ≤ 40
      · refine (ev_pos e3).2 ?_
        refine (ev_succ (fun k => by rw [impl_traded.l0])).2 ?_
        refine (ev_neg (by simp)).2 (ev_some.2 ?_)
        rw [if_pos ⟨e1, e2, e3⟩]
        rfl
      · refine (ev_neg e3).2 (ev_some.2 ?_)
        rw [if_neg (fun h => e3 h.2.2)]
    · refine (ev_neg e2).2 (ev_some.2 ?_)
      rw [if_neg (fun h => e2 h.2.1)]
  · refine (ev_neg e1).2 (ev_some.2 ?_)
    rw [if_neg (fun h => e1 h.1)]
theorem HeapsValid_ev (l : List Int) (hl : l.length < 9223372036854775807) : Ev (fun k => impl_HeapsValid.f k l) (HOK l 40) := by
  unfold impl_HeapsValid.f
  exact (ev_bind (thingsOk_ev l 40 hl)).2 (ev_some.2 rfl)
def TOK (t g : List Int) : Bool := HOK t 5 && HOK g 5
theorem TradeValid_ev (t g : List Int) (ht : t.length < 9223372036854775807) (hg : g.length < 9223372036854775807) : Ev (fun k => impl_TradeValid.f k t g) (TOK t g) := by
  unfold impl_TradeValid.f TOK
  refine (ev_bind (thingsOk_ev t 5 ht)).2 ?_
  cases h : HOK t 5 with
  | true => exact (ev_pos rfl).2 ((ev_bind (thingsOk_ev g 5 hg)).2 (ev_some.2 (by simp)))
  | false => exact (ev_neg (by simp)).2 (ev_some.2 (by simp))
def tdo (h t g : List Int) : List Int × Bool := if HOK h 40 = true ∧ TOK t g = true then tr3 h t g else ([], false)
theorem TOK_both {t g : List Int} (h : TOK t g = true) : HOK t 5 = true ∧ HOK g 5 = true := by
  unfold TOK at h
  simpa using h
theorem tdo_cases (h t g : List Int) : (tdo h t g = ([], false)) ∨ (∃ a b c x y z p q r : Int, h = [a, b, c] ∧ t = [x, y, z] ∧ g = [p, q, r] ∧ tdo h t g = ([a - x + p, b - y + q, c - z + r], true) ∧
    (0 ≤ a ∧ a ≤ 40 ∧ 0 ≤ b ∧ b ≤ 40 ∧ 0 ≤ c ∧ c ≤ 40) ∧ (0 ≤ x ∧ x ≤ 5 ∧ 0 ≤ y ∧ y ≤ 5 ∧ 0 ≤ z ∧ z ≤ 5) ∧ (0 ≤ p ∧ p ≤ 5 ∧ 0 ≤ q ∧ q ≤ 5 ∧ 0 ≤ r ∧ r ≤ 5) ∧
    (x ≤ a ∧ a - x + p ≤ 40) ∧ (y ≤ b ∧ b - y + q ≤ 40) ∧ (z ≤ c ∧ c - z + r ≤ 40)) := by
  by_cases H : HOK h 40 = true ∧ TOK t g = true
  · obtain ⟨hh, htg⟩ := H
    obtain ⟨ht, hg⟩ := TOK_both htg
    obtain ⟨a, b, c, rfl, a0, a1, b0, b1, c0, c1⟩ := HOK_list hh
    obtain ⟨x, y, z, rfl, x0, x1, y0, y1, z0, z1⟩ := HOK_list ht
    obtain ⟨p, q, r, rfl, p0, p1, q0, q1, r0, r1⟩ := HOK_list hg
    unfold tdo
    rw [if_pos ⟨hh, htg⟩]
    rw [tr3_three]
    by_cases e : (x ≤ a ∧ a - x + p ≤ 40) ∧ (y ≤ b ∧ b - y + q ≤ 40) ∧ (z ≤ c ∧ c - z + r ≤ 40)
    · right
      exact ⟨a, b, c, x, y, z, p, q, r, rfl, rfl, rfl, by rw [if_pos e], ⟨a0, a1, b0, b1, c0, c1⟩, ⟨x0, x1, y0, y1, z0, z1⟩, ⟨p0, p1, q0, q1, r0, r1⟩, e.1, e.2.1, e.2.2⟩
    · left
      rw [if_neg e]
  · left
    unfold tdo
    rw [if_neg H]
theorem tdo_len (h t g : List Int) : (tdo h t g).1.length ≤ 3 := by
  rcases tdo_cases h t g with e | ⟨a, b, c, x, y, z, p, q, r, _, _, _, e, _⟩
  · rw [e]; simp
  · rw [e]; simp
theorem TradeDo_ev (h t g : List Int) (bh : h.length < 9223372036854775807) (bt : t.length < 9223372036854775807) (bg : g.length < 9223372036854775807) : Ev (fun k => impl_TradeDo.f k h t g) (tdo h t g) := by
  unfold impl_TradeDo.f tdo
  refine (ev_bind (HeapsValid_ev h bh)).2 ?_
  by_cases hh : HOK h 40 = true
  · refine (ev_pos hh).2 ((ev_bind (TradeValid_ev t g bt bg)).2 ?_)
    by_cases htg : TOK t g = true
    · rw [if_pos ⟨hh, htg⟩]
      refine (ev_pos htg).2 ((ev_bind (traded_ev hh (TOK_both htg).1 (TOK_both htg).2)).2 (ev_some.2 rfl))
    · rw [if_neg (fun h => htg h.2)]
      exact (ev_neg htg).2 (ev_some.2 rfl)
  · rw [if_neg (fun h => hh h.1)]
    exact (ev_neg hh).2 (ev_some.2 rfl)
theorem l1In_ev (n a b : Int) : Ev (fun _ => spec_l1In.f n a b) (decide (a ≤ n) && decide (n ≤ b)) := by
  unfold spec_l1In.f
  by_cases h : n ≥ a
  · refine (ev_pos h).2 (ev_some.2 ?_)
    rw [decide_eq_true (show a ≤ n from h), Bool.true_and]
  · refine (ev_neg h).2 (ev_some.2 ?_)
    rw [decide_eq_false (show ¬ a ≤ n from h), Bool.false_and]
theorem l8List_l0 (l : List Int) (m : Int) (hl : l.length < 9223372036854775807) : ∀ d i : Nat, i + d = l.length →
    Ev (fun k => spec_l8List.l0 k l m (i : Int)) ((l.drop i).all (okT m) && ((l.length : Int) == 3)) := by
  intro d
  induction d with
  | zero =>
    intro i hi
    refine (ev_succ (fun k => by rw [spec_l8List.l0])).2 ?_
    refine (ev_neg (by omega)).2 (ev_some.2 ?_)
    rw [List.drop_eq_nil_of_le (by omega)]
    simp
  | succ d ih =>
    intro i hi
    have hlt : i < l.length := by omega
    refine (ev_succ (fun k => by rw [spec_l8List.l0])).2 ?_
    refine (ev_pos (by omega)).2 ((ev_pos (by omega)).2 ?_)
    rw [rd_nat hlt, drop_cons hlt, List.all_cons]
    refine (ev_bind (l1In_ev l[i] 0 m)).2 ?_
    cases h : okT m l[i] with
    | true =>
      refine (ev_pos h).2 ?_
      rw [w_succ (by omega), Bool.true_and]
      exact ih (i + 1) (by omega)
    | false =>
      exact (ev_neg (by show ¬ okT m l[i] = true; rw [h]; simp)).2 (ev_some.2 (by simp))
theorem l8List_ev (l : List Int) (m : Int) (hl : l.length < 9223372036854775807) : Ev (fun k => spec_l8List.f k l m) (HOK l m) := by
  have := l8List_l0 l m hl l.length 0 (by omega)
  exact this
theorem sHeapsValid_ev (l : List Int) (hl : l.length < 9223372036854775807) : Ev (fun k => spec_HeapsValid.f k l) (HOK l 40) := by
  unfold spec_HeapsValid.f
  exact (ev_bind (l8List_ev l 40 hl)).2 (ev_some.2 rfl)
theorem sTradeValid_ev (t g : List Int) (ht : t.length < 9223372036854775807) (hg : g.length < 9223372036854775807) : Ev (fun k => spec_TradeValid.f k t g) (TOK t g) := by
  unfold spec_TradeValid.f TOK
  refine (ev_bind (l8List_ev t 5 ht)).2 ?_
  cases h : HOK t 5 with
  | true => exact (ev_pos rfl).2 ((ev_bind (l8List_ev g 5 hg)).2 (ev_some.2 (by simp)))
  | false => exact (ev_neg (by simp)).2 (ev_some.2 (by simp))
theorem sTradeDo_step {h t g o : List Int} {i : Nat} (h3 : i < 3) (hi : i < h.length) (ht : i < t.length) (hg : i < g.length) (ho : o.length < 17592186044416)
    (ba : 0 ≤ h[i] ∧ h[i] ≤ 40) (bt : 0 ≤ t[i] ∧ t[i] ≤ 5) (bg : 0 ≤ g[i] ∧ g[i] ≤ 5) {r : List Int × Bool}
    (e : Ev (fun k => if t[i] ≤ h[i] then spec_TradeDo.l0 k h (o ++ [h[i] - t[i] + g[i]]) ((i + 1 : Nat) : Int) t g else some ([], false)) r) : Ev (fun k => spec_TradeDo.l0 k h o (i : Int) t g) r := by
  refine (ev_succ (fun k => by rw [spec_TradeDo.l0])).2 ?_
  refine (ev_pos (by omega)).2 ((ev_pos (by omega)).2 ((ev_pos (by omega)).2 ((ev_pos (by omega)).2 ?_)))
  rw [rd_nat hi, rd_nat ht, rd_nat hg]
  by_cases c : h[i] < t[i]
  · refine (ev_pos c).2 ?_
    exact (ev_neg (by omega)).1 e
  · refine (ev_neg c).2 ((ev_pos (by omega)).2 ((ev_pos ho).2 ?_))
    rw [w64 (x := h[i] - t[i]) (by omega) (by omega), w64 (x := h[i] - t[i] + g[i]) (by omega) (by omega), w_succ (by omega)]
    exact (ev_pos (by omega)).1 e
theorem sTradeDo_ev (h t g : List Int) (bh : h.length < 9223372036854775807) (bt : t.length < 9223372036854775807) (bg : g.length < 9223372036854775807) : Ev (fun k => spec_TradeDo.f k h t g) (tdo h t g) := by
  unfold spec_TradeDo.f
  refine (ev_bind (sHeapsValid_ev h bh)).2 ?_
  by_cases hh : HOK h 40 = true
  · refine (ev_pos hh).2 ((ev_bind (sTradeValid_ev t g bt bg)).2 ?_)
    refine (ev_succ (fun k => by rw [spec_TradeDo.j0])).2 ?_
    by_cases htg : TOK t g = true
    · unfold tdo
      rw [if_pos ⟨hh, htg⟩, htg]
      refine (ev_neg (by simp)).2 ?_
      obtain ⟨ht, hg⟩ := TOK_both htg
      obtain ⟨a, b, c, rfl, a0, a1, b0, b1, c0, c1⟩ := HOK_list hh
      obtain ⟨x, y, z, rfl, x0, x1, y0, y1, z0, z1⟩ := HOK_list ht
      obtain ⟨p, q, r, rfl, p0, p1, q0, q1, r0, r1⟩ := HOK_list hg
      rw [tr3_three]
      refine sTradeDo_step (i := 0) (by omega) (by simp) (by simp) (by simp) (by simp) ⟨a0, a1⟩ ⟨x0, x1⟩ ⟨p0, p1⟩ ?_
      by_cases e1 : x ≤ a
      · refine (ev_pos e1).2 ?_
        refine sTradeDo_step (i := 1) (by omega) (by simp) (by simp) (by simp) (by simp) ⟨b0, b1⟩ ⟨y0, y1⟩ ⟨q0, q1⟩ ?_
        by_cases e2 : y ≤ b
        · refine (ev_pos e2).2 ?_
          refine sTradeDo_step (i := 2) (by omega) (by simp) (by simp) (by simp) (by simp) ⟨c0, c1⟩ ⟨z0, z1⟩ ⟨r0, r1⟩ ?_
          by_cases e3 : z ≤ c
          · refine (ev_pos e3).2 ?_
            refine (ev_succ (fun k => by rw [spec_TradeDo.l0])).2 ?_
            refine (ev_neg (by simp)).2 ?_
            show Ev (fun k => (spec_HeapsValid.f k [a - x + p, b - y + q, c - z + r]).bind fun t => if t = true then some ([a - x + p, b - y + q, c - z + r], true) else some ([], false)) _
            refine (ev_bind (sHeapsValid_ev _ (by simp))).2 ?_
            by_cases e : (x ≤ a ∧ a - x + p ≤ 40) ∧ (y ≤ b ∧ b - y + q ≤ 40) ∧ (z ≤ c ∧ c - z + r ≤ 40)
            · rw [if_pos e]
              exact (ev_pos (by rw [HOK_three]; simp; omega)).2 (ev_some.2 rfl)
            · rw [if_neg e]
              exact (ev_neg (by rw [HOK_three]; simp; omega)).2 (ev_some.2 rfl)
          · refine (ev_neg e3).2 (ev_some.2 ?_)
            rw [if_neg (by omega)]
        · refine (ev_neg e2).2 (ev_some.2 ?_)
          rw [if_neg (by omega)]
      · refine (ev_neg e1).2 (ev_some.2 ?_)
        rw [if_neg (by omega)]
    · unfold tdo
      rw [if_neg (fun h => htg h.2)]
      have : TOK t g = false := by simpa using htg
      rw [this]
      exact (ev_pos rfl).2 (ev_some.2 rfl)
  · unfold tdo
    rw [if_neg (fun h => hh h.1)]
    refine (ev_neg hh).2 ?_
    refine (ev_succ (fun k => by rw [spec_TradeDo.j0])).2 ?_
    exact (ev_pos rfl).2 (ev_some.2 rfl)
theorem FnExactTradeDo (h a b : List Int) (hh : h.length ≤ maxLen) (wh : ∀ x ∈ h, (Lit.int .i64 x).wf = true) (ha : a.length ≤ maxLen) (wa : ∀ x ∈ a, (Lit.int .i64 x).wf = true) (hb : b.length ≤ maxLen) (wb : ∀ x ∈ b, (Lit.int .i64 x).wf = true) : ∃ k, laws_FnExactTradeDo.f k h a b = some true := by
  simp only [maxLen] at ha hb
  refine ev_true ?_
  unfold laws_FnExactTradeDo.f
  by_cases hl : (h.length : Int) > 1048576
  · exact (ev_pos hl).2 (ev_some.2 rfl)
  refine (ev_neg hl).2 ?_
  refine (ev_bind (szTrade_ev a b 1048576 (by omega) (by omega) (by omega) (by omega))).2 ?_
  unfold szT
  by_cases hs : (1048576 : Int) - a.length - b.length < 0
  · rw [if_pos hs]; exact (ev_pos (by omega)).2 (ev_some.2 rfl)
  rw [if_neg hs]
  refine (ev_neg hs).2 ?_
  have th := toIntS_ev h (by omega)
  have tt := toTrade_ev a b (by omega) (by omega)
  have hlen := tdo_len h a b
  have ev1 := eqIntS_ev (tdo h a b).1 (by omega)
  refine (ev_bind th).2 ((ev_bind tt).2 ((ev_bind (sTradeDo_ev h a b (by omega) (by omega) (by omega))).2 ?_))
  refine (ev_bind th).2 ((ev_bind tt).2 ((ev_bind (TradeDo_ev h a b (by omega) (by omega) (by omega))).2 ?_))
  refine (ev_bind ev1).2 ((ev_pos rfl).2 ?_)
  refine (ev_succ (fun k => by rw [laws_FnExactTradeDo.j0])).2 ((ev_neg (by simp)).2 ?_)
  refine (ev_bind th).2 ((ev_bind (eqIntS_ev h (by omega))).2 ((ev_pos rfl).2 ?_))
  refine (ev_bind tt).2 ((ev_bind (eqTrade_ev a b (by omega) (by omega))).2 ((ev_pos rfl).2 ?_))
  refine (ev_bind (markIntS_ev h 1 (by omega) (by omega) (by omega))).2 ?_
  obtain ⟨x, y, em⟩ := markTrade_ev a b (1 + (h.length : Int)) (by omega) (by omega) (by omega) (by omega)
  refine (ev_bind em).2 ((ev_neg (by omega)).2 ((ev_bind ev1).2 ((ev_pos rfl).2 ?_)))
  refine (ev_succ (fun k => by rw [laws_FnExactTradeDo.j1])).2 ((ev_neg (by simp)).2 ?_)
  refine (ev_bind (markIntS_ev (tdo h a b).1 1 (by omega) (by omega) (by omega))).2 ?_
  have eh := heldIntS_ev (tdo h a b).1.length 1 (by omega) (by omega) (by omega)
  refine (ev_bind eh).2 ((ev_neg (by omega)).2 ((ev_pos rfl).2 ?_))
  refine (ev_bind th).2 ((ev_bind tt).2 ((ev_bind (TradeDo_ev h a b (by omega) (by omega) (by omega))).2 ?_))
  refine (ev_bind ev1).2 ((ev_pos rfl).2 ?_)
  refine (ev_succ (fun k => by rw [laws_FnExactTradeDo.j2])).2 ((ev_neg (by simp)).2 ?_)
  refine (ev_bind eh).2 ((ev_neg (by omega)).2 ((ev_pos rfl).2 (ev_some.2 rfl)))

end Go.Proofs.Ytajecpmdagbojaa.Pure
