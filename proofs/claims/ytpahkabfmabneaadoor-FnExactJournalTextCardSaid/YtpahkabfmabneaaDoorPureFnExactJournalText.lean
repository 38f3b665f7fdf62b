/-
  The pure statement of FnExactJournalText.
-/
import Derived.Test.YtpahkabfmabneaaDoorQA
import Derived.ProofKit
import Derived.IntWalk
namespace Go.Proofs.YtpahkabfmabneaaDoor.EPure
open Go Go.RowKit Go.Proofs.YtpahkabfmabneaaDoor.Eng
set_option linter.unusedVariables false
set_option linter.unusedSimpArgs false

/-! Rounds without counting them. -/
def Ev {α : Type} (g : Nat → Option α) (r : α) : Prop := ∃ K, ∀ k, K ≤ k → g k = some r
theorem ev_some {α : Type} {a r : α} : Ev (fun _ => some a) r ↔ a = r := by
  constructor
  · rintro ⟨K, h⟩
    exact Option.some.inj (h K (Nat.le_refl _))
  · rintro rfl
    exact ⟨0, fun _ _ => rfl⟩
theorem ev_bind {α β : Type} {g : Nat → Option α} {f : Nat → α → Option β} {a : α} (h : Ev g a) {r : β} (h2 : Ev (fun k => f k a) r) : Ev (fun k => (g k).bind (f k)) r := by
  obtain ⟨K, h⟩ := h
  obtain ⟨L, h2⟩ := h2
  exact ⟨max K L, fun k hk => by simp only [h k (by omega), Option.bind_some]; exact h2 k (by omega)⟩
theorem ev_succ {α : Type} {g f : Nat → Option α} {r : α} (h : ∀ k, g (k + 1) = f k) (e : Ev f r) : Ev g r := by
  obtain ⟨K, e⟩ := e
  refine ⟨K + 1, fun k hk => ?_⟩
  obtain ⟨j, rfl⟩ : ∃ j, k = j + 1 := ⟨k - 1, by omega⟩
  rw [h]
  exact e j (by omega)
theorem ev_true {g : Nat → Option Bool} (h : Ev g true) : ∃ k, g k = some true := by
  obtain ⟨K, h⟩ := h
  exact ⟨K, h K (Nat.le_refl _)⟩
theorem ev_gate {α : Type} {c : Bool} {g : Nat → Option α} {r : α} (hc : c = true) (e : Ev g r) : Ev (fun k => gate c (g k)) r := by
  subst hc
  exact e
theorem ev_gd {α : Type} {p : Prop} [Decidable p] {g : Nat → Option α} {r : α} (hp : p) (e : Ev g r) : Ev (fun k => gate (decide p) (g k)) r := ev_gate (decide_eq_true hp) e
theorem ev_bt {α : Type} {c : Bool} {g h : Nat → Option α} {r : α} (hc : c = true) (e : Ev g r) : Ev (fun k => br c (g k) (h k)) r := by
  subst hc
  exact e
theorem ev_bf {α : Type} {c : Bool} {g h : Nat → Option α} {r : α} (hc : c = false) (e : Ev h r) : Ev (fun k => br c (g k) (h k)) r := by
  subst hc
  exact e
theorem ev_dt {α : Type} {p : Prop} [Decidable p] {g h : Nat → Option α} {r : α} (hp : p) (e : Ev g r) : Ev (fun k => br (decide p) (g k) (h k)) r := ev_bt (decide_eq_true hp) e
theorem ev_df {α : Type} {p : Prop} [Decidable p] {g h : Nat → Option α} {r : α} (hp : ¬ p) (e : Ev h r) : Ev (fun k => br (decide p) (g k) (h k)) r := ev_bf (decide_eq_false hp) e
theorem ev_nt {α : Type} {c : Bool} {g h : Nat → Option α} {r : α} (hc : c = false) (e : Ev g r) : Ev (fun k => br (!c) (g k) (h k)) r := by
  subst hc
  exact e
theorem ev_nf {α : Type} {c : Bool} {g h : Nat → Option α} {r : α} (hc : c = true) (e : Ev h r) : Ev (fun k => br (!c) (g k) (h k)) r := by
  subst hc
  exact e
/-! What comes of some rounds, with a property. -/
def EvP {α : Type} (g : Nat → Option α) (Q : α → Prop) : Prop := ∃ r, Ev g r ∧ Q r
theorem Ev.p {α : Type} {g : Nat → Option α} {Q : α → Prop} {r : α} (h : Ev g r) (q : Q r) : EvP g Q := ⟨r, h, q⟩
theorem evp_some {α : Type} {Q : α → Prop} {r : α} (q : Q r) : EvP (fun _ => some r) Q := ⟨r, ev_some.2 rfl, q⟩
theorem evp_bind {α β : Type} {g : Nat → Option α} {f : Nat → α → Option β} {P : α → Prop} {Q : β → Prop} (h : EvP g P) (e : ∀ a, P a → EvP (fun k => f k a) Q) : EvP (fun k => (g k).bind (f k)) Q := by
  obtain ⟨a, h1, p⟩ := h
  obtain ⟨r, h2, q⟩ := e a p
  exact ⟨r, ev_bind h1 h2, q⟩
theorem evp_bindv {α β : Type} {g : Nat → Option α} {f : Nat → α → Option β} {a : α} {Q : β → Prop} (h : Ev g a) (e : EvP (fun k => f k a) Q) : EvP (fun k => (g k).bind (f k)) Q := by
  obtain ⟨r, h2, q⟩ := e
  exact ⟨r, ev_bind h h2, q⟩
theorem evp_succ {α : Type} {g f : Nat → Option α} {Q : α → Prop} (h : ∀ k, g (k + 1) = f k) (e : EvP f Q) : EvP g Q := by
  obtain ⟨r, h2, q⟩ := e
  exact ⟨r, ev_succ h h2, q⟩
theorem evp_mono {α : Type} {g : Nat → Option α} {P Q : α → Prop} (h : EvP g P) (hq : ∀ a, P a → Q a) : EvP g Q := by
  obtain ⟨r, h2, p⟩ := h
  exact ⟨r, h2, hq r p⟩
theorem evp_gd {α : Type} {p : Prop} [Decidable p] {g : Nat → Option α} {Q : α → Prop} (hp : p) (e : EvP g Q) : EvP (fun k => gate (decide p) (g k)) Q := by
  obtain ⟨r, h, q⟩ := e
  exact ⟨r, ev_gd hp h, q⟩
theorem evp_gn {α : Type} {p : Prop} [Decidable p] {g : Nat → Option α} {Q : α → Prop} (hp : ¬ p) (e : EvP g Q) : EvP (fun k => gate (!decide p) (g k)) Q := by
  obtain ⟨r, h, q⟩ := e
  exact ⟨r, ev_gate (by simp [hp]) h, q⟩
theorem evp_b {α : Type} {c : Bool} {g h : Nat → Option α} {Q : α → Prop} (e1 : c = true → EvP g Q) (e2 : c = false → EvP h Q) : EvP (fun k => br c (g k) (h k)) Q := by
  cases c with
  | true => exact e1 rfl
  | false => exact e2 rfl
theorem evp_d {α : Type} {p : Prop} [Decidable p] {g h : Nat → Option α} {Q : α → Prop} (e1 : p → EvP g Q) (e2 : ¬ p → EvP h Q) : EvP (fun k => br (decide p) (g k) (h k)) Q :=
  evp_b (fun h => e1 (of_decide_eq_true h)) (fun h => e2 (of_decide_eq_false h))
theorem evp_true {g : Nat → Option Bool} (h : EvP g (fun b => b = true)) : ∃ k, g k = some true := by
  obtain ⟨r, h, rfl⟩ := h
  exact ev_true h
theorem wr_eq (x : Int) : wr x = wrap64 x := by unfold wrap64; exact IntKind.wrap_i64 x
theorem w64 {x : Int} (h0 : -9223372036854775808 ≤ x) (h1 : x ≤ 9223372036854775807) : wr x = x := by
  rw [wr_eq]
  unfold wrap64
  omega
theorem w_succ {i : Nat} (h : i < 9223372036854775807) : wr ((i : Int) + 1) = ((i + 1 : Nat) : Int) := by rw [w64] <;> omega
theorem get_nat {l : List Int} {i : Nat} (h : i < l.length) : l.getD (i : Int).toNat 0 = l[i] := by
  rw [Int.toNat_natCast, List.getD_eq_getElem?_getD, List.getElem?_eq_getElem h]
  rfl
theorem limE : lim = 1099511627776 := rfl
theorem ev_const {α : Type} {x : Option α} {r : α} (h : x = some r) : Ev (fun _ => x) r := ⟨0, fun _ _ => h⟩
theorem get_at {α : Type} {l : List α} {i : Nat} {d : α} (h : i < l.length) : l.getD (i : Int).toNat d = l[i] := by
  rw [Int.toNat_natCast, List.getD_eq_getElem?_getD, List.getElem?_eq_getElem h]
  rfl
theorem ev_eq {α : Type} {g : Nat → Option α} {a b : α} (h : Ev g a) (e : a = b) : Ev g b := e ▸ h
theorem l1In_ev (a b c : Int) : Ev (fun k => spec_l1In.f k a b c) (decide (a ≥ b) && decide (a ≤ c)) := by
  refine ev_succ (fun k => spec_l1In.f_eq k a b c) ?_
  by_cases h : a ≥ b
  · exact ev_dt h (ev_some.2 (by simp [h]))
  · exact ev_df h (ev_some.2 (by simp [h]))
/-! Texts of acts and of journals. -/
theorem dig_one : ∀ i : Fin 10, (([IntKind.wrap .u8 (wr (48 + (i.val : Int)))] : List Int).map fun n => UInt8.ofNat n.toNat) = [UInt8.ofNat (48 + i.val)] := by decide +kernel
theorem itoa_small {n : Nat} (h : n < 10) : Lib.itoa (n : Int) = [UInt8.ofNat (48 + n)] := by
  unfold Lib.itoa
  rw [if_neg (by omega), Int.toNat_natCast, Lib.decDigits_one h]
theorem itoa_big {n : Nat} (h : 10 ≤ n) : Lib.itoa (n : Int) = Lib.itoa ((n / 10 : Nat) : Int) ++ [UInt8.ofNat (48 + n % 10)] := by
  unfold Lib.itoa
  rw [if_neg (by omega), if_neg (by omega), Int.toNat_natCast, Int.toNat_natCast, Lib.decDigits, dif_neg (by omega)]
theorem itoa_len : ∀ (d n : Nat), n < 10 ^ (d + 1) → (Lib.itoa (n : Int)).length ≤ d + 1
  | 0, n, h => by rw [itoa_small (by simpa using h)]; simp
  | d + 1, n, h => by
    by_cases hn : n < 10
    · rw [itoa_small hn]; simp
    · have h2 := itoa_len d (n / 10) (by rw [Nat.pow_succ] at h; omega)
      rw [itoa_big (by omega), List.length_append]
      simpa using h2
theorem l1Number_ev : ∀ (d n : Nat), n < 10 ^ (d + 1) → d ≤ 17 → Ev (fun k => spec_l1Number.f k (n : Int)) (Lib.itoa (n : Int))
  | 0, n, h, _ => by
    have hn : n < 10 := by simpa using h
    refine ev_succ (fun k => spec_l1Number.f_eq k _) (ev_dt (by omega) (ev_some.2 ?_))
    rw [itoa_small hn]
    exact dig_one ⟨n, hn⟩
  | d + 1, n, h, hd => by
    refine ev_succ (fun k => spec_l1Number.f_eq k _) ?_
    by_cases hn : n < 10
    · refine ev_dt (by omega) (ev_some.2 ?_)
      rw [itoa_small hn]
      exact dig_one ⟨n, hn⟩
    · have h10 : n / 10 < 10 ^ (d + 1) := by rw [Nat.pow_succ] at h; omega
      have hb : 10 ^ (d + 1 + 1) ≤ 10 ^ 19 := Nat.pow_le_pow_right (by omega) (by omega)
      have hb2 : (10 : Nat) ^ 19 = 10000000000000000000 := rfl
      have hlt : n / 10 < 1000000000000000000 := by omega
      have e1 : wr ((n : Int).tdiv 10) = ((n / 10 : Nat) : Int) := by
        have : (n : Int).tdiv 10 = ((n / 10 : Nat) : Int) := by rw [Int.tdiv_eq_ediv_of_nonneg (by omega)]; omega
        rw [this, w64 (by omega) (by omega)]
      have e2 : (n : Int).tmod 10 = ((n % 10 : Nat) : Int) := by rw [Int.tmod_eq_emod_of_nonneg (by omega)]; omega
      have e3 := dig_one ⟨n % 10, by omega⟩
      simp only at e3
      refine ev_df (by omega) ?_
      rw [e1, e2, e3]
      have hl := itoa_len d (n / 10) h10
      refine ev_bind (l1Number_ev d (n / 10) h10 (by omega)) (ev_gd (by rw [limE]; simp only [List.length_cons, List.length_nil]; omega) (ev_some.2 (itoa_big (by omega)).symm))
theorem itoa_ev {n : Nat} (h : n < 9223372036854775808) (k0 : Nat → Nat) : Ev (fun k => strconv_Itoa.f (k0 k) (n : Int)) (Lib.itoa (n : Int)) :=
  ⟨0, fun k _ => by show strconv_Itoa.f (k0 k) _ = _; rw [strconv_Itoa.f_eq]; unfold gate itoaOk; rw [if_pos (decide_eq_true (by omega))]⟩
def actW (k : Int) : List UInt8 := if k = 0 then [99, 117, 116, 32] else if k = 1 then [98, 97, 99, 107, 32] else if k = 2 then [108, 97, 115, 116, 32] else []
def actOk (a : TwoInts) : Prop := 0 ≤ a.f0 ∧ a.f0 ≤ 2 ∧ 0 ≤ a.f1 ∧ a.f1 ≤ 999
instance (a : TwoInts) : Decidable (actOk a) := by unfold actOk; infer_instance
def actT (a : TwoInts) : List UInt8 := if actOk a then actW a.f0 ++ Lib.itoa a.f1 else []
theorem actW_len (k : Int) : (actW k).length ≤ 5 := by unfold actW; (repeat' split) <;> simp
theorem num_len {n : Int} (h0 : 0 ≤ n) (h1 : n ≤ 999) : (Lib.itoa n).length ≤ 3 := by
  obtain ⟨m, rfl⟩ := Int.eq_ofNat_of_zero_le h0
  exact itoa_len 2 m (by simp; omega)
theorem actT_len (a : TwoInts) : (actT a).length ≤ 8 := by
  unfold actT
  split
  · rename_i h
    have h1 := actW_len a.f0
    have h2 := num_len h.2.2.1 h.2.2.2
    rw [List.length_append]; omega
  · simp
theorem actT_ne {a : TwoInts} (h : actOk a) : actT a ≠ [] := by
  unfold actT
  rw [if_pos h]
  obtain ⟨h0, h1, _⟩ := h
  have : a.f0 = 0 ∨ a.f0 = 1 ∨ a.f0 = 2 := by omega
  rcases this with e | e | e <;> simp [actW, e]
theorem actT_nil {a : TwoInts} : actT a = [] ↔ ¬ actOk a := ⟨fun h hk => actT_ne hk h, fun h => by unfold actT; rw [if_neg h]⟩
theorem implActT_ev (a : TwoInts) : Ev (fun k => impl_ActText.f k a) (actT a) := by
  have join : ∀ w : List UInt8, w.length ≤ 5 → (w = [] → ¬ actOk a) → (w ≠ [] → 0 ≤ a.f0 ∧ a.f0 ≤ 2 ∧ actW a.f0 = w) → Ev (fun k => impl_ActText.j0 k a w) (actT a) := by
    intro w hw h1 h2
    refine ev_succ (fun k => impl_ActText.j0_eq k a w) ?_
    by_cases he : w = []
    · exact ev_dt he (ev_some.2 (actT_nil.2 (h1 he)).symm)
    · obtain ⟨g0, g1, g2⟩ := h2 he
      refine ev_df he ?_
      by_cases hn : a.f1 < 0
      · exact ev_dt hn (ev_some.2 (actT_nil.2 (fun h => by have := h.2.2.1; omega)).symm)
      · refine ev_df hn ?_
        by_cases hb : a.f1 > 999
        · exact ev_dt hb (ev_some.2 (actT_nil.2 (fun h => by have := h.2.2.2; omega)).symm)
        · have hok : actOk a := ⟨g0, g1, by omega, by omega⟩
          have hl := num_len (n := a.f1) (by omega) (by omega)
          refine ev_df hb (ev_bind (a := Lib.itoa a.f1) ?_ (ev_gd (by rw [limE]; omega) (ev_some.2 ?_)))
          · obtain ⟨m, hm⟩ := Int.eq_ofNat_of_zero_le (show 0 ≤ a.f1 by omega)
            rw [hm]
            exact itoa_ev (by omega) id
          · unfold actT; rw [if_pos hok, g2]
  refine ev_succ (fun k => impl_ActText.f_eq k a) ?_
  by_cases h0 : a.f0 = 0
  · exact ev_dt h0 (join _ (by simp) (by simp) (fun _ => ⟨by omega, by omega, by simp [actW, h0]⟩))
  · refine ev_df h0 ?_
    by_cases h1 : a.f0 = 1
    · exact ev_dt h1 (join _ (by simp) (by simp) (fun _ => ⟨by omega, by omega, by simp [actW, h1]⟩))
    · refine ev_df h1 ?_
      by_cases h2 : a.f0 = 2
      · exact ev_dt h2 (join _ (by simp) (by simp) (fun _ => ⟨by omega, by omega, by simp [actW, h2]⟩))
      · exact ev_df h2 (join [] (by simp) (fun _ h => by have := h.1; have := h.2.1; omega) (fun h => absurd rfl h))
theorem specActT_ev (a : TwoInts) : Ev (fun k => spec_ActText.f k a) (actT a) := by
  refine ev_succ (fun k => spec_ActText.f_eq k a) (ev_bind (l1In_ev _ _ _) ?_)
  by_cases h0 : 0 ≤ a.f0 ∧ a.f0 ≤ 2
  · refine ev_nf (by simp [h0]) (ev_bind (l1In_ev _ _ _) ?_)
    by_cases h1 : 0 ≤ a.f1 ∧ a.f1 ≤ 999
    · have hok : actOk a := ⟨h0.1, h0.2, h1.1, h1.2⟩
      have hl := num_len h1.1 h1.2
      have hm : Ev (fun k => spec_l1Number.f k a.f1) (Lib.itoa a.f1) := by
        obtain ⟨m, hm⟩ := Int.eq_ofNat_of_zero_le h1.1
        rw [hm]
        exact l1Number_ev 2 m (by simp; omega) (by omega)
      have h3 : a.f0 = 0 ∨ a.f0 = 1 ∨ a.f0 = 2 := by omega
      refine ev_nf (by simp [h1]) (ev_gd (by simp; omega) ?_)
      rcases h3 with e | e | e
      all_goals
        rw [e]
        refine ev_gd (by rw [limE]; decide) (ev_bind hm (ev_gd (by rw [limE]; simp; omega) (ev_some.2 ?_)))
        unfold actT
        rw [if_pos hok, e]
        simp [actW]
    · exact ev_nt (by simpa using h1) (ev_some.2 (actT_nil.2 (fun h => h1 ⟨h.2.2.1, h.2.2.2⟩)).symm)
  · exact ev_nt (by simpa using h0) (ev_some.2 (actT_nil.2 (fun h => h0 ⟨h.1, h.2.1⟩)).symm)
/-! Journals' texts. -/
def jgo : List TwoInts → List UInt8 → List UInt8
  | [], acc => acc
  | a :: r, acc => if actT a = [] then [] else jgo r (acc ++ (actT a ++ [10]))
theorem jget {l : List TwoInts} {i : Nat} (h : i < l.length) : l.getD (i : Int).toNat (⟨0, 0⟩ : TwoInts) = l[i] := by
  rw [Int.toNat_natCast, List.getD_eq_getElem?_getD, List.getElem?_eq_getElem h]
  rfl
theorem implJ_ev (l : List TwoInts) (hl : l.length ≤ 1048576) : Ev (fun k => impl_JournalText.f k l) (jgo l []) := by
  have loop : ∀ (d i : Nat) (acc : List UInt8), i + d = l.length → acc.length ≤ 9 * i → Ev (fun k => impl_JournalText.l0 k acc l (l.length : Int) (i : Int)) (jgo (l.drop i) acc) := by
    intro d
    induction d with
    | zero =>
      intro i acc hi _
      refine ev_succ (fun k => impl_JournalText.l0_eq k _ _ _ _) (ev_df (by omega) (ev_some.2 ?_))
      rw [List.drop_of_length_le (by omega)]
      rfl
    | succ d ih =>
      intro i acc hi ha
      have hlt : i < l.length := by omega
      have h8 := actT_len l[i]
      refine ev_succ (fun k => impl_JournalText.l0_eq k _ _ _ _) (ev_dt (by omega) (ev_gd (by omega) ?_))
      rw [jget hlt, List.drop_eq_getElem_cons hlt]
      unfold jgo
      refine ev_bind (implActT_ev _) ?_
      by_cases h : actT l[i] = []
      · rw [if_pos h]; exact ev_dt h (ev_some.2 rfl)
      · rw [if_neg h]
        refine ev_df h (ev_gd (by rw [limE]; simp only [List.length_cons, List.length_nil]; omega) (ev_gd (by rw [limE]; simp only [List.length_append, List.length_cons, List.length_nil]; omega) ?_))
        rw [w_succ (by omega)]
        exact ih (i + 1) _ (by omega) (by simp only [List.length_append, List.length_cons, List.length_nil]; omega)
  exact ev_succ (fun k => impl_JournalText.f_eq k _) (loop l.length 0 [] (by omega) (by simp))
theorem specJ_ev (l : List TwoInts) (hl : l.length ≤ 1048576) : Ev (fun k => spec_JournalText.f k l) (jgo l []) := by
  have loop : ∀ (d i : Nat) (acc : List UInt8), i + d = l.length → acc.length ≤ 9 * i → Ev (fun k => spec_JournalText.l0 k l acc (i : Int)) (jgo (l.drop i) acc) := by
    intro d
    induction d with
    | zero =>
      intro i acc hi _
      refine ev_succ (fun k => spec_JournalText.l0_eq k _ _ _) (ev_df (by omega) (ev_some.2 ?_))
      rw [List.drop_of_length_le (by omega)]
      rfl
    | succ d ih =>
      intro i acc hi ha
      have hlt : i < l.length := by omega
      have h8 := actT_len l[i]
      refine ev_succ (fun k => spec_JournalText.l0_eq k _ _ _) (ev_dt (by omega) (ev_gd (by omega) ?_))
      rw [jget hlt, List.drop_eq_getElem_cons hlt]
      unfold jgo
      refine ev_bind (specActT_ev _) ?_
      by_cases h : actT l[i] = []
      · rw [if_pos h]; exact ev_dt h (ev_some.2 rfl)
      · rw [if_neg h]
        refine ev_df h (ev_gd (by omega) (ev_bind (specActT_ev _) (ev_gd (by rw [limE]; omega) (ev_gd (by rw [limE]; simp only [List.length_append, List.length_cons, List.length_nil]; omega) ?_))))
        rw [w_succ (by omega), List.append_assoc]
        exact ih (i + 1) _ (by omega) (by simp only [List.length_append, List.length_cons, List.length_nil]; omega)
  exact ev_succ (fun k => spec_JournalText.f_eq k _) (loop l.length 0 [] (by omega) (by simp))
/-! Rows of acts copied, sized, held against themselves, written over. -/
theorem at_two {l : List TwoInts} {i : Nat} (h : i < l.length) : l.getD (i : Int).toNat (⟨0, 0⟩ : TwoInts) = l[i] := by
  rw [Int.toNat_natCast, List.getD_eq_getElem?_getD, List.getElem?_eq_getElem h]
  rfl
theorem toA_ev (a : TwoInts) : Ev (fun k => laws_toAct.f k a) a := ev_succ (fun k => laws_toAct.f_eq k _) (ev_some.2 rfl)
theorem szAS_ev (l : List TwoInts) (n : Int) (h0 : 0 ≤ n) (h1 : n ≤ 1048576) (hl : l.length ≤ maxLen) : EvP (fun k => laws_szActS.f k l n) (fun r => r ≤ 1048576 ∧ (0 ≤ r → l.length ≤ 1048576)) := by
  have hm : maxLen ≤ 9223372036854775807 := by decide
  refine evp_succ (fun k => laws_szActS.f_eq k _ _) ?_
  rw [w64 (by omega) (by omega)]
  exact evp_d (fun h => evp_some ⟨by omega, fun h => by omega⟩) (fun h => evp_some ⟨by omega, fun _ => by omega⟩)
theorem toAS_ev (a : List TwoInts) (hl : a.length ≤ 1048576) : Ev (fun k => laws_toActS.f k a) a := by
  have loop : ∀ d i : Nat, i + d = a.length → Ev (fun k => laws_toActS.l0 k a (a.take i ++ List.replicate d (⟨0, 0⟩ : TwoInts)) (i : Int)) a := by
    intro d
    induction d with
    | zero =>
      intro i hi
      refine ev_succ (fun k => laws_toActS.l0_eq k _ _ _) (ev_df (by omega) (ev_some.2 ?_))
      rw [List.take_of_length_le (by omega)]; simp
    | succ d ih =>
      intro i hi
      have hlt : i < a.length := by omega
      have hlen : (a.take i ++ List.replicate (d + 1) (⟨0, 0⟩ : TwoInts)).length = a.length := by simp; omega
      refine ev_succ (fun k => laws_toActS.l0_eq k _ _ _) (ev_dt (by omega) (ev_gd (by omega) ?_))
      rw [at_two hlt]
      refine ev_bind (toA_ev _) (ev_gd (by rw [hlen]; omega) (ev_gd (by rw [hlen]; omega) ?_))
      have e : (a.take i ++ List.replicate (d + 1) (⟨0, 0⟩ : TwoInts)).set (i : Int).toNat a[i] = a.take (i + 1) ++ List.replicate d ⟨0, 0⟩ := by
        rw [Int.toNat_natCast, List.set_append_right _ _ (by simp; omega), List.length_take, Nat.min_eq_left (by omega), Nat.sub_self, List.replicate_succ, List.set_cons_zero, ← List.take_append_getElem hlt, List.append_assoc]
        rfl
      rw [e, w_succ (by omega)]
      exact ih (i + 1) (by omega)
  refine ev_succ (fun k => laws_toActS.f_eq k a) (ev_gd ⟨by omega, by rw [Int.toNat_natCast, limE]; omega, rfl⟩ ?_)
  have := loop a.length 0 (by omega)
  rw [Int.toNat_natCast]
  simpa using this
/-! Rows of acts held against themselves. -/
theorem eqA_self (a : TwoInts) : Ev (fun k => laws_eqAct.f k a a) true := ev_succ (fun k => laws_eqAct.f_eq k _ _) (ev_nf (by simp) (ev_nf (by simp) (ev_some.2 rfl)))
theorem eqAS_self (a : List TwoInts) (hl : a.length ≤ 1048576) : Ev (fun k => laws_eqActS.f k a a) true := by
  have loop : ∀ d i : Nat, i + d = a.length → Ev (fun k => laws_eqActS.l0 k a a (i : Int)) true := by
    intro d
    induction d with
    | zero => intro i hi; exact ev_succ (fun k => laws_eqActS.l0_eq k _ _ _) (ev_df (by omega) (ev_some.2 rfl))
    | succ d ih =>
      intro i hi
      have hlt : i < a.length := by omega
      refine ev_succ (fun k => laws_eqActS.l0_eq k _ _ _) (ev_dt (by omega) (ev_gd (by omega) (ev_gd (by omega) ?_)))
      rw [w_succ (by omega)]
      exact ev_bind (eqA_self _) (ev_nf rfl (ih (i + 1) (by omega)))
  exact ev_succ (fun k => laws_eqActS.f_eq k _ _) (ev_nf (by simp) (loop a.length 0 (by omega)))
/-! The law. -/
theorem pure_FnExactJournalText (l : List TwoInts) (hm : l.length ≤ maxLen) (hw : ∀ x ∈ l, (Lit.int .i64 x.f0).wf = true ∧ (Lit.int .i64 x.f1).wf = true) : ∃ k, laws_FnExactJournalText.f k l = some true := by
  refine evp_true (evp_succ (fun k => laws_FnExactJournalText.f_eq k l) (evp_bind (szAS_ev l 1048576 (by omega) (by omega) hm) (fun r hr => evp_d (fun _ => evp_some rfl) (fun h => ?_))))
  have hl := hr.2 (by omega)
  refine (ev_bind (toAS_ev l hl) (ev_bind (specJ_ev l hl) (ev_bind (toAS_ev l hl) (ev_bind (implJ_ev l hl) (ev_bf (by simp) (ev_bind (toAS_ev l hl) (ev_bind (eqAS_self l hl) ?_))))))).p rfl
  exact ev_nf rfl (ev_some.2 rfl)
end Go.Proofs.YtpahkabfmabneaaDoor.EPure
