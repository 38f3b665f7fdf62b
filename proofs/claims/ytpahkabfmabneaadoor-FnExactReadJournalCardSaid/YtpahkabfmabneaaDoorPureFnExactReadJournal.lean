/-
  The pure statement of FnExactReadJournal.
-/
import Derived.Test.YtpahkabfmabneaaDoorQB
import Derived.ProofKit
import Derived.IntWalk
namespace Go.Proofs.YtpahkabfmabneaaDoor.EPure
open Go Go.RowKit Go.Proofs.YtpahkabfmabneaaDoor.Eng
set_option linter.unusedVariables false
set_option linter.unusedSimpArgs false

/-! Rounds without counting them. -/
def Ev {α : Type} (g : Nat → Option α) (r : α) : Prop := ∃ K, ∀ k, K ≤ k → g k = some r
theorem ev_some {α : Type} {a r : α} : Ev (fun _ => some a) r ↔ a = r := by
  constructor
  · rintro ⟨K, h⟩
    exact Option.some.inj (h K (Nat.le_refl _))
  · rintro rfl
    exact ⟨0, fun _ _ => rfl⟩
theorem ev_bind {α β : Type} {g : Nat → Option α} {f : Nat → α → Option β} {a : α} (h : Ev g a) {r : β} (h2 : Ev (fun k => f k a) r) : Ev (fun k => (g k).bind (f k)) r := by
  obtain ⟨K, h⟩ := h
  obtain ⟨L, h2⟩ := h2
  exact ⟨max K L, fun k hk => by simp only [h k (by omega), Option.bind_some]; exact h2 k (by omega)⟩
theorem ev_succ {α : Type} {g f : Nat → Option α} {r : α} (h : ∀ k, g (k + 1) = f k) (e : Ev f r) : Ev g r := by
  obtain ⟨K, e⟩ := e
  refine ⟨K + 1, fun k hk => ?_⟩
  obtain ⟨j, rfl⟩ : ∃ j, k = j + 1 := ⟨k - 1, by omega⟩
  rw [h]
  exact e j (by omega)
theorem ev_true {g : Nat → Option Bool} (h : Ev g true) : ∃ k, g k = some true := by
  obtain ⟨K, h⟩ := h
  exact ⟨K, h K (Nat.le_refl _)⟩
theorem ev_gate {α : Type} {c : Bool} {g : Nat → Option α} {r : α} (hc : c = true) (e : Ev g r) : Ev (fun k => gate c (g k)) r := by
  subst hc
  exact e
theorem ev_gd {α : Type} {p : Prop} [Decidable p] {g : Nat → Option α} {r : α} (hp : p) (e : Ev g r) : Ev (fun k => gate (decide p) (g k)) r := ev_gate (decide_eq_true hp) e
theorem ev_bt {α : Type} {c : Bool} {g h : Nat → Option α} {r : α} (hc : c = true) (e : Ev g r) : Ev (fun k => br c (g k) (h k)) r := by
  subst hc
  exact e
theorem ev_bf {α : Type} {c : Bool} {g h : Nat → Option α} {r : α} (hc : c = false) (e : Ev h r) : Ev (fun k => br c (g k) (h k)) r := by
  subst hc
  exact e
theorem ev_dt {α : Type} {p : Prop} [Decidable p] {g h : Nat → Option α} {r : α} (hp : p) (e : Ev g r) : Ev (fun k => br (decide p) (g k) (h k)) r := ev_bt (decide_eq_true hp) e
theorem ev_df {α : Type} {p : Prop} [Decidable p] {g h : Nat → Option α} {r : α} (hp : ¬ p) (e : Ev h r) : Ev (fun k => br (decide p) (g k) (h k)) r := ev_bf (decide_eq_false hp) e
theorem ev_nt {α : Type} {c : Bool} {g h : Nat → Option α} {r : α} (hc : c = false) (e : Ev g r) : Ev (fun k => br (!c) (g k) (h k)) r := by
  subst hc
  exact e
theorem ev_nf {α : Type} {c : Bool} {g h : Nat → Option α} {r : α} (hc : c = true) (e : Ev h r) : Ev (fun k => br (!c) (g k) (h k)) r := by
  subst hc
  exact e
/-! What comes of some rounds, with a property. -/
def EvP {α : Type} (g : Nat → Option α) (Q : α → Prop) : Prop := ∃ r, Ev g r ∧ Q r
theorem Ev.p {α : Type} {g : Nat → Option α} {Q : α → Prop} {r : α} (h : Ev g r) (q : Q r) : EvP g Q := ⟨r, h, q⟩
theorem evp_some {α : Type} {Q : α → Prop} {r : α} (q : Q r) : EvP (fun _ => some r) Q := ⟨r, ev_some.2 rfl, q⟩
theorem evp_bind {α β : Type} {g : Nat → Option α} {f : Nat → α → Option β} {P : α → Prop} {Q : β → Prop} (h : EvP g P) (e : ∀ a, P a → EvP (fun k => f k a) Q) : EvP (fun k => (g k).bind (f k)) Q := by
  obtain ⟨a, h1, p⟩ := h
  obtain ⟨r, h2, q⟩ := e a p
  exact ⟨r, ev_bind h1 h2, q⟩
theorem evp_bindv {α β : Type} {g : Nat → Option α} {f : Nat → α → Option β} {a : α} {Q : β → Prop} (h : Ev g a) (e : EvP (fun k => f k a) Q) : EvP (fun k => (g k).bind (f k)) Q := by
  obtain ⟨r, h2, q⟩ := e
  exact ⟨r, ev_bind h h2, q⟩
theorem evp_succ {α : Type} {g f : Nat → Option α} {Q : α → Prop} (h : ∀ k, g (k + 1) = f k) (e : EvP f Q) : EvP g Q := by
  obtain ⟨r, h2, q⟩ := e
  exact ⟨r, ev_succ h h2, q⟩
theorem evp_mono {α : Type} {g : Nat → Option α} {P Q : α → Prop} (h : EvP g P) (hq : ∀ a, P a → Q a) : EvP g Q := by
  obtain ⟨r, h2, p⟩ := h
  exact ⟨r, h2, hq r p⟩
theorem evp_gd {α : Type} {p : Prop} [Decidable p] {g : Nat → Option α} {Q : α → Prop} (hp : p) (e : EvP g Q) : EvP (fun k => gate (decide p) (g k)) Q := by
  obtain ⟨r, h, q⟩ := e
  exact ⟨r, ev_gd hp h, q⟩
theorem evp_gn {α : Type} {p : Prop} [Decidable p] {g : Nat → Option α} {Q : α → Prop} (hp : ¬ p) (e : EvP g Q) : EvP (fun k => gate (!decide p) (g k)) Q := by
  obtain ⟨r, h, q⟩ := e
  exact ⟨r, ev_gate (by simp [hp]) h, q⟩
theorem evp_b {α : Type} {c : Bool} {g h : Nat → Option α} {Q : α → Prop} (e1 : c = true → EvP g Q) (e2 : c = false → EvP h Q) : EvP (fun k => br c (g k) (h k)) Q := by
  cases c with
  | true => exact e1 rfl
  | false => exact e2 rfl
theorem evp_d {α : Type} {p : Prop} [Decidable p] {g h : Nat → Option α} {Q : α → Prop} (e1 : p → EvP g Q) (e2 : ¬ p → EvP h Q) : EvP (fun k => br (decide p) (g k) (h k)) Q :=
  evp_b (fun h => e1 (of_decide_eq_true h)) (fun h => e2 (of_decide_eq_false h))
theorem evp_true {g : Nat → Option Bool} (h : EvP g (fun b => b = true)) : ∃ k, g k = some true := by
  obtain ⟨r, h, rfl⟩ := h
  exact ev_true h
theorem wr_eq (x : Int) : wr x = wrap64 x := by unfold wrap64; exact IntKind.wrap_i64 x
theorem w64 {x : Int} (h0 : -9223372036854775808 ≤ x) (h1 : x ≤ 9223372036854775807) : wr x = x := by
  rw [wr_eq]
  unfold wrap64
  omega
theorem w_succ {i : Nat} (h : i < 9223372036854775807) : wr ((i : Int) + 1) = ((i + 1 : Nat) : Int) := by rw [w64] <;> omega
theorem get_nat {l : List Int} {i : Nat} (h : i < l.length) : l.getD (i : Int).toNat 0 = l[i] := by
  rw [Int.toNat_natCast, List.getD_eq_getElem?_getD, List.getElem?_eq_getElem h]
  rfl
theorem limE : lim = 1099511627776 := rfl
theorem ev_const {α : Type} {x : Option α} {r : α} (h : x = some r) : Ev (fun _ => x) r := ⟨0, fun _ _ => h⟩
theorem get_at {α : Type} {l : List α} {i : Nat} {d : α} (h : i < l.length) : l.getD (i : Int).toNat d = l[i] := by
  rw [Int.toNat_natCast, List.getD_eq_getElem?_getD, List.getElem?_eq_getElem h]
  rfl
theorem ev_eq {α : Type} {g : Nat → Option α} {a b : α} (h : Ev g a) (e : a = b) : Ev g b := e ▸ h
theorem l1In_ev (a b c : Int) : Ev (fun k => spec_l1In.f k a b c) (decide (a ≥ b) && decide (a ≤ c)) := by
  refine ev_succ (fun k => spec_l1In.f_eq k a b c) ?_
  by_cases h : a ≥ b
  · exact ev_dt h (ev_some.2 (by simp [h]))
  · exact ev_df h (ev_some.2 (by simp [h]))
/-! Texts of acts and of journals. -/
theorem dig_one : ∀ i : Fin 10, (([IntKind.wrap .u8 (wr (48 + (i.val : Int)))] : List Int).map fun n => UInt8.ofNat n.toNat) = [UInt8.ofNat (48 + i.val)] := by decide +kernel
theorem itoa_small {n : Nat} (h : n < 10) : Lib.itoa (n : Int) = [UInt8.ofNat (48 + n)] := by
  unfold Lib.itoa
  rw [if_neg (by omega), Int.toNat_natCast, Lib.decDigits_one h]
theorem itoa_big {n : Nat} (h : 10 ≤ n) : Lib.itoa (n : Int) = Lib.itoa ((n / 10 : Nat) : Int) ++ [UInt8.ofNat (48 + n % 10)] := by
  unfold Lib.itoa
  rw [if_neg (by omega), if_neg (by omega), Int.toNat_natCast, Int.toNat_natCast, Lib.decDigits, dif_neg (by omega)]
theorem itoa_len : ∀ (d n : Nat), n < 10 ^ (d + 1) → (Lib.itoa (n : Int)).length ≤ d + 1
  | 0, n, h => by rw [itoa_small (by simpa using h)]; simp
  | d + 1, n, h => by
    by_cases hn : n < 10
    · rw [itoa_small hn]; simp
    · have h2 := itoa_len d (n / 10) (by rw [Nat.pow_succ] at h; omega)
      rw [itoa_big (by omega), List.length_append]
      simpa using h2
theorem l1Number_ev : ∀ (d n : Nat), n < 10 ^ (d + 1) → d ≤ 17 → Ev (fun k => spec_l1Number.f k (n : Int)) (Lib.itoa (n : Int))
  | 0, n, h, _ => by
    have hn : n < 10 := by simpa using h
    refine ev_succ (fun k => spec_l1Number.f_eq k _) (ev_dt (by omega) (ev_some.2 ?_))
    rw [itoa_small hn]
    exact dig_one ⟨n, hn⟩
  | d + 1, n, h, hd => by
    refine ev_succ (fun k => spec_l1Number.f_eq k _) ?_
    by_cases hn : n < 10
    · refine ev_dt (by omega) (ev_some.2 ?_)
      rw [itoa_small hn]
      exact dig_one ⟨n, hn⟩
    · have h10 : n / 10 < 10 ^ (d + 1) := by rw [Nat.pow_succ] at h; omega
      have hb : 10 ^ (d + 1 + 1) ≤ 10 ^ 19 := Nat.pow_le_pow_right (by omega) (by omega)
      have hb2 : (10 : Nat) ^ 19 = 10000000000000000000 := rfl
      have hlt : n / 10 < 1000000000000000000 := by omega
      have e1 : wr ((n : Int).tdiv 10) = ((n / 10 : Nat) : Int) := by
        have : (n : Int).tdiv 10 = ((n / 10 : Nat) : Int) := by rw [Int.tdiv_eq_ediv_of_nonneg (by omega)]; omega
        rw [this, w64 (by omega) (by omega)]
      have e2 : (n : Int).tmod 10 = ((n % 10 : Nat) : Int) := by rw [Int.tmod_eq_emod_of_nonneg (by omega)]; omega
      have e3 := dig_one ⟨n % 10, by omega⟩
      simp only at e3
      refine ev_df (by omega) ?_
      rw [e1, e2, e3]
      have hl := itoa_len d (n / 10) h10
      refine ev_bind (l1Number_ev d (n / 10) h10 (by omega)) (ev_gd (by rw [limE]; simp only [List.length_cons, List.length_nil]; omega) (ev_some.2 (itoa_big (by omega)).symm))
theorem itoa_ev {n : Nat} (h : n < 9223372036854775808) (k0 : Nat → Nat) : Ev (fun k => strconv_Itoa.f (k0 k) (n : Int)) (Lib.itoa (n : Int)) :=
  ⟨0, fun k _ => by show strconv_Itoa.f (k0 k) _ = _; rw [strconv_Itoa.f_eq]; unfold gate itoaOk; rw [if_pos (decide_eq_true (by omega))]⟩
def actW (k : Int) : List UInt8 := if k = 0 then [99, 117, 116, 32] else if k = 1 then [98, 97, 99, 107, 32] else if k = 2 then [108, 97, 115, 116, 32] else []
def actOk (a : TwoInts) : Prop := 0 ≤ a.f0 ∧ a.f0 ≤ 2 ∧ 0 ≤ a.f1 ∧ a.f1 ≤ 999
instance (a : TwoInts) : Decidable (actOk a) := by unfold actOk; infer_instance
def actT (a : TwoInts) : List UInt8 := if actOk a then actW a.f0 ++ Lib.itoa a.f1 else []
theorem actW_len (k : Int) : (actW k).length ≤ 5 := by unfold actW; (repeat' split) <;> simp
theorem num_len {n : Int} (h0 : 0 ≤ n) (h1 : n ≤ 999) : (Lib.itoa n).length ≤ 3 := by
  obtain ⟨m, rfl⟩ := Int.eq_ofNat_of_zero_le h0
  exact itoa_len 2 m (by simp; omega)
theorem actT_len (a : TwoInts) : (actT a).length ≤ 8 := by
  unfold actT
  split
  · rename_i h
    have h1 := actW_len a.f0
    have h2 := num_len h.2.2.1 h.2.2.2
    rw [List.length_append]; omega
  · simp
theorem actT_ne {a : TwoInts} (h : actOk a) : actT a ≠ [] := by
  unfold actT
  rw [if_pos h]
  obtain ⟨h0, h1, _⟩ := h
  have : a.f0 = 0 ∨ a.f0 = 1 ∨ a.f0 = 2 := by omega
  rcases this with e | e | e <;> simp [actW, e]
theorem actT_nil {a : TwoInts} : actT a = [] ↔ ¬ actOk a := ⟨fun h hk => actT_ne hk h, fun h => by unfold actT; rw [if_neg h]⟩
theorem implActT_ev (a : TwoInts) : Ev (fun k => impl_ActText.f k a) (actT a) := by
  have join : ∀ w : List UInt8, w.length ≤ 5 → (w = [] → ¬ actOk a) → (w ≠ [] → 0 ≤ a.f0 ∧ a.f0 ≤ 2 ∧ actW a.f0 = w) → Ev (fun k => impl_ActText.j0 k a w) (actT a) := by
    intro w hw h1 h2
    refine ev_succ (fun k => impl_ActText.j0_eq k a w) ?_
    by_cases he : w = []
    · exact ev_dt he (ev_some.2 (actT_nil.2 (h1 he)).symm)
    · obtain ⟨g0, g1, g2⟩ := h2 he
      refine ev_df he ?_
      by_cases hn : a.f1 < 0
      · exact ev_dt hn (ev_some.2 (actT_nil.2 (fun h => by have := h.2.2.1; omega)).symm)
      · refine ev_df hn ?_
        by_cases hb : a.f1 > 999
        · exact ev_dt hb (ev_some.2 (actT_nil.2 (fun h => by have := h.2.2.2; omega)).symm)
        · have hok : actOk a := ⟨g0, g1, by omega, by omega⟩
          have hl := num_len (n := a.f1) (by omega) (by omega)
          refine ev_df hb (ev_bind (a := Lib.itoa a.f1) ?_ (ev_gd (by rw [limE]; omega) (ev_some.2 ?_)))
          · obtain ⟨m, hm⟩ := Int.eq_ofNat_of_zero_le (show 0 ≤ a.f1 by omega)
            rw [hm]
            exact itoa_ev (by omega) id
          · unfold actT; rw [if_pos hok, g2]
  refine ev_succ (fun k => impl_ActText.f_eq k a) ?_
  by_cases h0 : a.f0 = 0
  · exact ev_dt h0 (join _ (by simp) (by simp) (fun _ => ⟨by omega, by omega, by simp [actW, h0]⟩))
  · refine ev_df h0 ?_
    by_cases h1 : a.f0 = 1
    · exact ev_dt h1 (join _ (by simp) (by simp) (fun _ => ⟨by omega, by omega, by simp [actW, h1]⟩))
    · refine ev_df h1 ?_
      by_cases h2 : a.f0 = 2
      · exact ev_dt h2 (join _ (by simp) (by simp) (fun _ => ⟨by omega, by omega, by simp [actW, h2]⟩))
      · exact ev_df h2 (join [] (by simp) (fun _ h => by have := h.1; have := h.2.1; omega) (fun h => absurd rfl h))
theorem specActT_ev (a : TwoInts) : Ev (fun k => spec_ActText.f k a) (actT a) := by
  refine ev_succ (fun k => spec_ActText.f_eq k a) (ev_bind (l1In_ev _ _ _) ?_)
  by_cases h0 : 0 ≤ a.f0 ∧ a.f0 ≤ 2
  · refine ev_nf (by simp [h0]) (ev_bind (l1In_ev _ _ _) ?_)
    by_cases h1 : 0 ≤ a.f1 ∧ a.f1 ≤ 999
    · have hok : actOk a := ⟨h0.1, h0.2, h1.1, h1.2⟩
      have hl := num_len h1.1 h1.2
      have hm : Ev (fun k => spec_l1Number.f k a.f1) (Lib.itoa a.f1) := by
        obtain ⟨m, hm⟩ := Int.eq_ofNat_of_zero_le h1.1
        rw [hm]
        exact l1Number_ev 2 m (by simp; omega) (by omega)
      have h3 : a.f0 = 0 ∨ a.f0 = 1 ∨ a.f0 = 2 := by omega
      refine ev_nf (by simp [h1]) (ev_gd (by simp; omega) ?_)
      rcases h3 with e | e | e
      all_goals
        rw [e]
        refine ev_gd (by rw [limE]; decide) (ev_bind hm (ev_gd (by rw [limE]; simp; omega) (ev_some.2 ?_)))
        unfold actT
        rw [if_pos hok, e]
        simp [actW]
    · exact ev_nt (by simpa using h1) (ev_some.2 (actT_nil.2 (fun h => h1 ⟨h.2.2.1, h.2.2.2⟩)).symm)
  · exact ev_nt (by simpa using h0) (ev_some.2 (actT_nil.2 (fun h => h0 ⟨h.1, h.2.1⟩)).symm)
/-! Acts read out of texts. -/
theorem cut_nil (c : UInt8) : cutD [] [c] = ([], [], false) := by
  have h : Lib.index [] [c] = -1 := by unfold Lib.index; simp
  unfold cutD Lib.cut
  rw [h]
  rfl
theorem cut_hit (c : UInt8) (r : List UInt8) : cutD (c :: r) [c] = ([], r, true) := by
  have h : Lib.index (c :: r) [c] = 0 := by unfold Lib.index; simp [List.isPrefixOf]
  unfold cutD Lib.cut
  rw [h]
  rfl
theorem cut_miss {b c : UInt8} (hb : b ≠ c) (r : List UInt8) : cutD (b :: r) [c] = (b :: (cutD r [c]).1, (cutD r [c]).2.1, (cutD r [c]).2.2) := by
  have hge := Lib.index_ge r [c]
  have hp : [c].isPrefixOf (b :: r) = false := by simp [List.isPrefixOf, Ne.symm hb]
  have h : Lib.index (b :: r) [c] = if Lib.index r [c] = -1 then -1 else Lib.index r [c] + 1 := by
    conv => lhs; unfold Lib.index
    rw [hp]
    by_cases e : Lib.index r [c] = -1 <;> simp [e]
  unfold cutD Lib.cut
  rw [h]
  by_cases e : Lib.index r [c] = -1
  · rw [if_pos e, e]
    rfl
  · rw [if_neg e, if_pos (by omega), if_pos (by omega)]
    obtain ⟨m, hm⟩ := Int.eq_ofNat_of_zero_le (show 0 ≤ Lib.index r [c] by omega)
    rw [hm]
    simp only [Int.toNat_natCast, List.length_cons, List.length_nil]
    rw [show ((m : Int) + 1).toNat = m + 1 by omega]
    rfl
theorem cut_ev {s sep : List UInt8} (h : s.length ≤ 4000000000) (k0 : Nat → Nat) : Ev (fun k => strings_Cut.f (k0 k) s sep) (cutD s sep) :=
  ⟨0, fun k _ => by show strings_Cut.f (k0 k) _ _ = _; rw [strings_Cut.f_eq]; unfold gate strOk; rw [if_pos (decide_eq_true (by omega))]⟩
theorem atoi_ev {s : List UInt8} (h : s.length ≤ 4000000000) (k0 : Nat → Nat) : Ev (fun k => strconv_Atoi.f (k0 k) s) (atoiD s) :=
  ⟨0, fun k _ => by show strconv_Atoi.f (k0 k) _ = _; rw [strconv_Atoi.f_eq]; unfold gate strOk; rw [if_pos (decide_eq_true (by omega))]⟩
theorem cut_len (c : UInt8) : ∀ s : List UInt8, (cutD s [c]).1.length + (cutD s [c]).2.1.length ≤ s.length
  | [] => by rw [cut_nil]; simp
  | b :: r => by
    have ih := cut_len c r
    by_cases h : b = c
    · subst h; rw [cut_hit]; simp
    · rw [cut_miss h]; simp only [List.length_cons]; omega
/-! Numbers of three digits at most. -/
def dig3 (n : Nat) : List UInt8 := if n < 10 then [UInt8.ofNat (48 + n)] else if n < 100 then [UInt8.ofNat (48 + n / 10), UInt8.ofNat (48 + n % 10)] else [UInt8.ofNat (48 + n / 100), UInt8.ofNat (48 + n / 10 % 10), UInt8.ofNat (48 + n % 10)]
theorem itoa3 {n : Nat} (h : n < 1000) : Lib.itoa (n : Int) = dig3 n := by
  unfold dig3
  split
  · exact itoa_small (by assumption)
  · rw [itoa_big (by omega)]
    split
    · rw [itoa_small (by omega)]; rfl
    · rw [itoa_big (n := n / 10) (by omega), itoa_small (n := n / 10 / 10) (by omega), Nat.div_div_eq_div_mul]; rfl
theorem atoi3 : ∀ n : Fin 1000, atoiD (dig3 n.val) = ((n.val : Int), true) := by decide +kernel
def sm : List UInt8 → Int → Int
  | [], n => n
  | c :: r, n => if (c.toNat : Int) < 48 then -1 else if (c.toNat : Int) > 57 then -1 else sm r (wr ((wr (10 * n)) + (wr (IntKind.wrap .u8 ((c.toNat : Int) - 48)))))
def smallV (s : List UInt8) : Int := if 1 ≤ s.length ∧ s.length ≤ 3 then (if s.length > 1 ∧ s.getD 0 0 = 48 then -1 else sm s 0) else -1
theorem small3 : ∀ n : Fin 1000, smallV (dig3 n.val) = (n.val : Int) := by decide +kernel
theorem act_num {a : TwoInts} (h : actOk a) : ∃ m : Nat, m < 1000 ∧ a.f1 = (m : Int) ∧ Lib.itoa a.f1 = dig3 m := by
  obtain ⟨m, hm⟩ := Int.eq_ofNat_of_zero_le h.2.2.1
  have := h.2.2.2
  exact ⟨m, by omega, hm, by rw [hm]; exact itoa3 (by omega)⟩
theorem getD_nat {α : Type} (l : List α) (i : Nat) (d : α) : l.getD (i : Int).toNat d = l.getD i d := by rw [Int.toNat_natCast]
theorem small_ev (s : List UInt8) (hl : s.length ≤ 4000000000) : Ev (fun k => spec_l10Small.f k s) (smallV s) := by
  have loop : ∀ (d i : Nat) (n : Int), i + d = s.length → Ev (fun k => spec_l10Small.l0 k s n (i : Int)) (sm (s.drop i) n) := by
    intro d
    induction d with
    | zero =>
      intro i n hi
      refine ev_succ (fun k => spec_l10Small.l0_eq k _ _ _) (ev_df (by omega) (ev_some.2 ?_))
      rw [List.drop_of_length_le (by omega)]
      rfl
    | succ d ih =>
      intro i n hi
      have hlt : i < s.length := by omega
      have e : s.getD (i : Int).toNat 0 = s[i] := by rw [getD_nat, List.getD_eq_getElem?_getD, List.getElem?_eq_getElem hlt]; rfl
      refine ev_succ (fun k => spec_l10Small.l0_eq k _ _ _) (ev_dt (by omega) (ev_gd (by omega) ?_))
      rw [List.drop_eq_getElem_cons hlt, e]
      unfold sm
      by_cases h1 : ((s[i]).toNat : Int) < 48
      · rw [if_pos h1]; exact ev_dt h1 (ev_some.2 rfl)
      · rw [if_neg h1]
        refine ev_df h1 (ev_gd (by omega) ?_)
        by_cases h2 : ((s[i]).toNat : Int) > 57
        · rw [if_pos h2]; exact ev_dt h2 (ev_some.2 rfl)
        · rw [if_neg h2]
          refine ev_df h2 (ev_gd (by omega) ?_)
          rw [w_succ (by omega)]
          exact ih (i + 1) _ (by omega)
  refine ev_succ (fun k => spec_l10Small.f_eq k _) (ev_bind (l1In_ev _ _ _) ?_)
  unfold smallV
  by_cases h : 1 ≤ s.length ∧ s.length ≤ 3
  · rw [if_pos h]
    refine ev_nf (by simp; omega) ?_
    have hl0 := loop s.length 0 0 (by omega)
    by_cases h1 : s.length > 1
    · refine ev_dt (by omega) (ev_gd (by omega) ?_)
      have e : s.getD (0 : Int).toNat 0 = s.getD 0 0 := rfl
      rw [e]
      by_cases h2 : s.getD 0 0 = 48
      · rw [if_pos ⟨h1, h2⟩]; exact ev_dt (by rw [h2]; rfl) (ev_some.2 rfl)
      · rw [if_neg (fun hh => h2 hh.2)]
        refine ev_df (fun hh => h2 ?_) hl0
        have : (s.getD 0 0).toNat = 48 := by omega
        exact UInt8.toNat_inj.1 (by rw [this]; rfl)
    · rw [if_neg (fun hh => h1 hh.1)]
      exact ev_df (by omega) hl0
  · rw [if_neg h]
    exact ev_nt (by simp; omega) (ev_some.2 rfl)
/-! What is read. -/
theorem kinds {a : TwoInts} (h : actOk a) : a.f0 = 0 ∨ a.f0 = 1 ∨ a.f0 = 2 := by have h0 := h.1; have h1 := h.2.1; omega
theorem actT_inj {a b : TwoInts} (ha : actOk a) (hb : actOk b) (h : actT a = actT b) : a = b := by
  obtain ⟨m, hm, ha1, ha2⟩ := act_num ha
  obtain ⟨n, hn, hb1, hb2⟩ := act_num hb
  unfold actT at h
  rw [if_pos ha, if_pos hb, ha2, hb2] at h
  have h1 := atoi3 ⟨m, hm⟩
  have h2 := atoi3 ⟨n, hn⟩
  simp only at h1 h2
  have fin : a.f0 = b.f0 → dig3 m = dig3 n → a = b := by
    intro e1 e2
    rw [e2, h2] at h1
    simp only [Prod.mk.injEq, and_true] at h1
    cases a; cases b
    simp only at e1 ha1 hb1
    rw [e1, ha1, hb1, h1]
  rcases kinds ha with e | e | e <;> rcases kinds hb with e' | e' | e' <;> rw [e, e'] at h <;> simp [actW] at h
  · exact fin (by rw [e, e']) h
  · exact fin (by rw [e, e']) h
  · exact fin (by rw [e, e']) h
noncomputable def readA (s : List UInt8) : TwoInts × Bool := @dite _ (∃ a, actOk a ∧ actT a = s) (Classical.propDecidable _) (fun h => (h.choose, true)) (fun _ => (⟨0, 0⟩, false))
theorem readA_some {a : TwoInts} {s : List UInt8} (h : actOk a) (hs : actT a = s) : readA s = (a, true) := by
  have hx : ∃ a, actOk a ∧ actT a = s := ⟨a, h, hs⟩
  unfold readA
  rw [dif_pos hx]
  have h2 := hx.choose_spec
  rw [actT_inj h2.1 h (h2.2.trans hs.symm)]
theorem readA_none {s : List UInt8} (h : ∀ a, actOk a → actT a ≠ s) : readA s = (⟨0, 0⟩, false) := by
  unfold readA
  rw [dif_neg (fun ⟨a, h1, h2⟩ => h a h1 h2)]
theorem readA_cases (s : List UInt8) : (∃ a, actOk a ∧ actT a = s ∧ readA s = (a, true)) ∨ ((∀ a, actOk a → actT a ≠ s) ∧ readA s = (⟨0, 0⟩, false)) := by
  by_cases h : ∃ a, actOk a ∧ actT a = s
  · obtain ⟨a, h1, h2⟩ := h
    exact .inl ⟨a, h1, h2, readA_some h1 h2⟩
  · have h' : ∀ a, actOk a → actT a ≠ s := fun a h1 h2 => h ⟨a, h1, h2⟩
    exact .inr ⟨h', readA_none h'⟩
/-- The text of an act, cut at its space. -/
theorem cut_act {a : TwoInts} (h : actOk a) : (cutD (actT a) [32]).1 ≠ [] ∧ (cutD (actT a) [32]).2.1 = Lib.itoa a.f1 := by
  unfold actT
  rw [if_pos h]
  rcases kinds h with e | e | e <;> rw [e] <;> simp only [actW, if_true, if_false, List.cons_append, List.nil_append, Int.reduceEq]
  · rw [cut_miss (by decide), cut_miss (by decide), cut_miss (by decide), cut_hit]; simp
  · rw [cut_miss (by decide), cut_miss (by decide), cut_miss (by decide), cut_miss (by decide), cut_hit]; simp
  · rw [cut_miss (by decide), cut_miss (by decide), cut_miss (by decide), cut_miss (by decide), cut_hit]; simp
theorem three_get : ∀ i : Fin 3, ([0, 1, 2] : List Int).getD ((i.val : Nat) : Int).toNat 0 = (i.val : Int) := by decide
theorem implReadA_ev (s : List UInt8) (hl : s.length ≤ 2000000) : Ev (fun k => impl_ReadAct.f k s) (readA s) := by
  have hc := cut_len 32 s
  refine ev_succ (fun k => impl_ReadAct.f_eq k s) (ev_bind (cut_ev (by omega) id) (ev_bind (atoi_ev (by omega) id) ?_))
  have step : ∀ d i : Nat, i + d = 3 → (∀ a, actOk a → actT a = s → (i : Int) ≤ a.f0) → Ev (fun k => impl_ReadAct.l0 k s (⟨0, 0⟩ : TwoInts) (cutD s [32]).1 (atoiD (cutD s [32]).2.1).1 (atoiD (cutD s [32]).2.1).2 ([0, 1, 2] : List Int) (([0, 1, 2] : List Int).length : Int) (i : Int)) (readA s) := by
    intro d
    induction d with
    | zero =>
      intro i hi hN
      refine ev_succ (fun k => impl_ReadAct.l0_eq k _ _ _ _ _ _ _ _) (ev_df (by simp; omega) (ev_some.2 ?_))
      rw [readA_none (fun a h1 h2 => by have := hN a h1 h2; have := h1.2.1; omega)]
    | succ d ih =>
      intro i hi hN
      have e3 := three_get ⟨i, by omega⟩
      simp only at e3
      have next : (∀ a, actOk a → actT a = s → a.f0 ≠ (i : Int)) → Ev (fun k => impl_ReadAct.l0 k s (⟨0, 0⟩ : TwoInts) (cutD s [32]).1 (atoiD (cutD s [32]).2.1).1 (atoiD (cutD s [32]).2.1).2 ([0, 1, 2] : List Int) (([0, 1, 2] : List Int).length : Int) (wr ((i : Int) + 1))) (readA s) := by
        intro hne
        rw [w_succ (by omega)]
        exact ih (i + 1) (by omega) (fun a h1 h2 => by have := hN a h1 h2; have := hne a h1 h2; omega)
      refine ev_succ (fun k => impl_ReadAct.l0_eq k _ _ _ _ _ _ _ _) (ev_dt (by simp; omega) (ev_gd (by simp; omega) ?_))
      rw [e3]
      have hact : ∀ a, actOk a → actT a = s → (cutD s [32]).1 ≠ [] ∧ atoiD (cutD s [32]).2.1 = (a.f1, true) := by
        intro a h1 h2
        obtain ⟨g1, g2⟩ := cut_act h1
        obtain ⟨m, hm, q1, q2⟩ := act_num h1
        rw [h2] at g1 g2
        have := atoi3 ⟨m, hm⟩
        simp only at this
        exact ⟨g1, by rw [g2, q2, this, q1]⟩
      cases hok : (atoiD (cutD s [32]).2.1).2 with
      | false =>
        refine ev_bf rfl ?_
        have := next (fun a h1 h2 h3 => by have := (hact a h1 h2).2; rw [this] at hok; cases hok)
        rwa [hok] at this
      | true =>
        refine ev_bt rfl ?_
        rw [hok] at next
        by_cases hb : (cutD s [32]).1 = []
        · exact ev_bf (by simp [hb]) (next (fun a h1 h2 h3 => (hact a h1 h2).1 hb))
        · refine ev_bt (by simp [hb]) (ev_bind (implActT_ev _) ?_)
          by_cases ht : actT (⟨(i : Int), (atoiD (cutD s [32]).2.1).1⟩ : TwoInts) = s
          · refine ev_dt ht (ev_some.2 ?_)
            by_cases ho : actOk (⟨(i : Int), (atoiD (cutD s [32]).2.1).1⟩ : TwoInts)
            · exact (readA_some ho ht).symm
            · have : s = [] := by rw [← ht]; exact actT_nil.2 ho
              rw [this, cut_nil] at hb
              exact absurd rfl hb
          · refine ev_df ht (next (fun a h1 h2 h3 => ht ?_))
            have h4 := (hact a h1 h2).2
            rw [h4, ← h2, ← h3]
  exact step 3 0 (by omega) (fun a h1 _ => h1.1)
theorem words_get : ∀ i : Fin 3, ([([99, 117, 116, 32] : List UInt8), ([98, 97, 99, 107, 32] : List UInt8), ([108, 97, 115, 116, 32] : List UInt8)] : List (List UInt8)).getD ((i.val : Nat) : Int).toNat [] = actW (i.val : Int) := by decide
theorem specReadA_ev (s : List UInt8) (hl : s.length ≤ 2000000) : Ev (fun k => spec_ReadAct.f k s) (readA s) := by
  have step : ∀ d i : Nat, i + d = 3 → (∀ a, actOk a → actT a = s → (i : Int) ≤ a.f0) → Ev (fun k => spec_ReadAct.l0 k s (⟨0, 0⟩ : TwoInts) (i : Int)) (readA s) := by
    intro d
    induction d with
    | zero =>
      intro i hi hN
      refine ev_succ (fun k => spec_ReadAct.l0_eq k _ _ _) (ev_df (by omega) (ev_some.2 ?_))
      rw [readA_none (fun a h1 h2 => by have := hN a h1 h2; have := h1.2.1; omega)]
    | succ d ih =>
      intro i hi hN
      have e3 := words_get ⟨i, by omega⟩
      simp only at e3
      have hw := actW_len (i : Int)
      have next : (∀ a, actOk a → actT a = s → a.f0 ≠ (i : Int)) → Ev (fun k => spec_ReadAct.l0 k s (⟨0, 0⟩ : TwoInts) (wr ((i : Int) + 1))) (readA s) := by
        intro hne
        rw [w_succ (by omega)]
        exact ih (i + 1) (by omega) (fun a h1 h2 => by have := hN a h1 h2; have := hne a h1 h2; omega)
      refine ev_succ (fun k => spec_ReadAct.l0_eq k _ _ _) (ev_dt (by omega) (ev_gd (by simp; omega) ?_))
      rw [e3]
      have hact : ∀ a, actOk a → actT a = s → a.f0 = (i : Int) → s.length > (actW (i : Int)).length ∧ smallV (s.drop (actW (i : Int)).length) = a.f1 := by
        intro a h1 h2 h3
        obtain ⟨m, hm, q1, q2⟩ := act_num h1
        have h4 := small3 ⟨m, hm⟩
        simp only at h4
        unfold actT at h2
        rw [if_pos h1, h3, q2] at h2
        subst h2
        have hd : 0 < (dig3 m).length := by unfold dig3; (repeat' split) <;> simp
        exact ⟨by rw [List.length_append]; omega, by rw [List.drop_left, h4, q1]⟩
      by_cases hlen : s.length > (actW (i : Int)).length
      · refine ev_dt (by omega) (ev_gd (by omega) ?_)
        rw [Int.toNat_natCast, Int.toNat_natCast, List.take_length]
        refine ev_bind (small_ev _ (by rw [List.length_drop]; omega)) (ev_bind (specActT_ev _) ?_)
        by_cases ht : actT (⟨(i : Int), smallV (s.drop (actW (i : Int)).length)⟩ : TwoInts) = s
        · refine ev_dt ht (ev_some.2 ?_)
          by_cases ho : actOk (⟨(i : Int), smallV (s.drop (actW (i : Int)).length)⟩ : TwoInts)
          · exact (readA_some ho ht).symm
          · have : s = [] := by rw [← ht]; exact actT_nil.2 ho
            rw [this] at hlen
            simp at hlen
        · refine ev_df ht (next (fun a h1 h2 h3 => ht ?_))
          have h4 := (hact a h1 h2 h3).2
          rw [h4, ← h3]
          exact h2
      · exact ev_df (by omega) (next (fun a h1 h2 h3 => hlen (hact a h1 h2 h3).1))
  exact ev_succ (fun k => spec_ReadAct.f_eq k s) (step 3 0 (by omega) (fun a h1 _ => h1.1))
/-! Journals read. -/
noncomputable def rjV : List UInt8 → List UInt8 → List TwoInts → Nat → List TwoInts × Nat
  | [], _, acc, n => (acc, n)
  | c :: r, line, acc, n => if c = 10 then (if (readA line).2 = true then rjV r [] (acc ++ [(readA line).1]) (n + line.length + 1) else (acc, n)) else rjV r (line ++ [c]) acc n
theorem rjV_cut : ∀ (r line : List UInt8) (acc : List TwoInts) (n : Nat), rjV r line acc n = if (cutD r [10]).2.2 = true then (if (readA (line ++ (cutD r [10]).1)).2 = true then rjV (cutD r [10]).2.1 [] (acc ++ [(readA (line ++ (cutD r [10]).1)).1]) (n + (line ++ (cutD r [10]).1).length + 1) else (acc, n)) else (acc, n)
  | [], line, acc, n => by rw [cut_nil]; simp [rjV]
  | c :: r, line, acc, n => by
    by_cases h : c = 10
    · subst h
      rw [cut_hit]
      simp [rjV]
    · rw [cut_miss h]
      simp only [rjV, if_neg h]
      rw [rjV_cut r (line ++ [c]) acc n]
      simp only [List.append_assoc, List.cons_append, List.nil_append]
theorem cut_drop (c : UInt8) : ∀ r : List UInt8, (cutD r [c]).2.2 = true → (cutD r [c]).2.1 = r.drop ((cutD r [c]).1.length + 1) ∧ (cutD r [c]).1.length + 1 ≤ r.length
  | [], h => by rw [cut_nil] at h; cases h
  | b :: r, h => by
    by_cases e : b = c
    · subst e; rw [cut_hit]; simp
    · rw [cut_miss e] at h ⊢
      have ih := cut_drop c r h
      exact ⟨by simpa using ih.1, by simpa using ih.2⟩
theorem implRJ_ev (s : List UInt8) (hl : s.length ≤ 2000000) : Ev (fun k => impl_ReadJournal.f k s) ((rjV s [] [] 0).1, ((rjV s [] [] 0).2 : Int)) := by
  have loop : ∀ (d i : Nat) (acc : List TwoInts), i + d = s.length → acc.length ≤ i → Ev (fun k => impl_ReadJournal.l0 k s acc (i : Int)) ((rjV (s.drop i) [] acc i).1, ((rjV (s.drop i) [] acc i).2 : Int)) := by
    intro d
    induction d using Nat.strongRecOn with
    | _ d ih =>
      intro i acc hi ha
      have hd : (s.drop i).length = d := by rw [List.length_drop]; omega
      have hcl := cut_len 10 (s.drop i)
      refine ev_succ (fun k => impl_ReadJournal.l0_eq k _ _ _) (ev_gd (by omega) ?_)
      rw [Int.toNat_natCast, Int.toNat_natCast, List.take_length]
      refine ev_bind (cut_ev (by omega) id) (ev_bind (implReadA_ev _ (by omega)) ?_)
      rw [rjV_cut]
      simp only [List.nil_append]
      cases hf : (cutD (s.drop i) [10]).2.2 with
      | false => exact ev_nt rfl (ev_some.2 (by simp))
      | true =>
        refine ev_nf rfl ?_
        cases hr : (readA (cutD (s.drop i) [10]).1).2 with
        | false => exact ev_nt rfl (ev_some.2 (by simp))
        | true =>
          obtain ⟨c1, c2⟩ := cut_drop 10 _ hf
          refine ev_nf rfl (ev_gd (by rw [limE]; simp only [List.length_cons, List.length_nil]; omega) ?_)
          rw [w64 (x := ((cutD (s.drop i) [10]).1.length : Int) + 1) (by omega) (by omega), w64 (by omega) (by omega)]
          have h := ih (d - ((cutD (s.drop i) [10]).1.length + 1)) (by omega) (i + ((cutD (s.drop i) [10]).1.length + 1)) (acc ++ [(readA (cutD (s.drop i) [10]).1).1]) (by omega) (by simp; omega)
          rw [c1, List.drop_drop]
          simp only [if_true]
          have e : ((i + ((cutD (s.drop i) [10]).1.length + 1) : Nat) : Int) = (i : Int) + (((cutD (s.drop i) [10]).1.length : Int) + 1) := by omega
          rw [← e, Nat.add_assoc]
          exact h
  have := loop s.length 0 [] (by omega) (by simp)
  exact ev_succ (fun k => impl_ReadJournal.f_eq k _) (by simpa using this)
theorem specRJ_ev (s : List UInt8) (hl : s.length ≤ 2000000) : Ev (fun k => spec_ReadJournal.f k s) ((rjV s [] [] 0).1, ((rjV s [] [] 0).2 : Int)) := by
  have loop : ∀ (d i f : Nat) (acc : List TwoInts), i + d = s.length → f ≤ i → acc.length ≤ i → Ev (fun k => spec_ReadJournal.l0 k s acc (f : Int) (i : Int)) ((rjV (s.drop i) ((s.take i).drop f) acc f).1, ((rjV (s.drop i) ((s.take i).drop f) acc f).2 : Int)) := by
    intro d
    induction d with
    | zero =>
      intro i f acc hi hf ha
      refine ev_succ (fun k => spec_ReadJournal.l0_eq k _ _ _ _) (ev_df (by omega) (ev_some.2 ?_))
      rw [List.drop_of_length_le (show s.length ≤ i by omega)]
      rfl
    | succ d ih =>
      intro i f acc hi hf ha
      have hlt : i < s.length := by omega
      have e : s.getD (i : Int).toNat 0 = s[i] := by rw [Int.toNat_natCast, List.getD_eq_getElem?_getD, List.getElem?_eq_getElem hlt]; rfl
      have hll : ((s.take i).drop f).length = i - f := by rw [List.length_drop, List.length_take]; omega
      refine ev_succ (fun k => spec_ReadJournal.l0_eq k _ _ _ _) (ev_dt (by omega) (ev_gd (by omega) ?_))
      rw [e, List.drop_eq_getElem_cons hlt, Int.toNat_natCast, Int.toNat_natCast]
      unfold rjV
      by_cases h : s[i] = 10
      · rw [if_pos h]
        refine ev_dt (by rw [h]; rfl) (ev_gd (by omega) (ev_bind (specReadA_ev _ (by omega)) ?_))
        cases hr : (readA ((s.take i).drop f)).2 with
        | false => exact ev_nt rfl (ev_some.2 (by simp))
        | true =>
          refine ev_nf rfl (ev_gd (by rw [limE]; simp only [List.length_cons, List.length_nil]; omega) ?_)
          rw [w_succ (by omega), if_pos rfl, hll, show f + (i - f) + 1 = i + 1 by omega]
          have h2 := ih (i + 1) (i + 1) (acc ++ [(readA ((s.take i).drop f)).1]) (by omega) (by omega) (by simp; omega)
          rw [List.drop_of_length_le (l := s.take (i + 1)) (by rw [List.length_take]; omega)] at h2
          exact h2
      · rw [if_neg h]
        refine ev_df (fun hh => h ?_) ?_
        · have : (s[i]).toNat = 10 := by omega
          exact UInt8.toNat_inj.1 (by rw [this]; rfl)
        · rw [w_succ (by omega)]
          have h2 := ih (i + 1) f acc (by omega) (by omega) (by omega)
          rw [← List.take_append_getElem hlt, List.drop_append_of_le_length (by rw [List.length_take]; omega)] at h2
          exact h2
  have := loop s.length 0 0 [] (by omega) (by omega) (by simp)
  exact ev_succ (fun k => spec_ReadJournal.f_eq k _) (by simpa using this)
theorem rjV_len : ∀ (r line : List UInt8) (acc : List TwoInts) (n : Nat), (rjV r line acc n).1.length ≤ acc.length + r.length
  | [], _, acc, n => by simp [rjV]
  | c :: r, line, acc, n => by
    unfold rjV
    split
    · split
      · have := rjV_len r [] (acc ++ [(readA line).1]) (n + line.length + 1)
        simp only [List.length_append, List.length_cons, List.length_nil] at this ⊢; omega
      · simp
    · have := rjV_len r (line ++ [c]) acc n
      simp only [List.length_cons]; omega
/-! A row of acts written over with numbers that follow each other, and found so. -/
def Marked (x : List TwoInts) (i : Nat) : Prop := ∀ j, j < i → x[j]? = some ⟨1 + 2 * (j : Int), 2 + 2 * (j : Int)⟩
theorem markA_ev (l : List TwoInts) (hl : l.length ≤ 1048576) : EvP (fun k => laws_markActS.f k l 1) (fun r => r.1 = 1 + 2 * (l.length : Int) ∧ r.2.length = l.length ∧ Marked r.2 l.length) := by
  have loop : ∀ (d i : Nat) (x : List TwoInts), i + d = x.length → x.length = l.length → Marked x i → EvP (fun k => laws_markActS.l0 k x (1 + 2 * (i : Int)) (i : Int)) (fun r => r.1 = 1 + 2 * (l.length : Int) ∧ r.2.length = l.length ∧ Marked r.2 l.length) := by
    intro d
    induction d with
    | zero =>
      intro i x hi hx hm
      refine evp_succ (fun k => laws_markActS.l0_eq k _ _ _) (evp_d (fun h => absurd h (by omega)) (fun _ => evp_some ⟨by simp only; omega, hx, ?_⟩))
      rw [← hx, ← hi]; exact hm
    | succ d ih =>
      intro i x hi hx hm
      have hlt : i < x.length := by omega
      refine evp_succ (fun k => laws_markActS.l0_eq k _ _ _) (evp_d (fun _ => evp_gd (by omega) (evp_gd (by omega) (evp_gd (by rw [List.length_set]; omega) (evp_gd (by rw [List.length_set]; omega) ?_)))) (fun h => absurd (by omega) h))
      rw [w_succ (by omega), w64 (x := 1 + 2 * (i : Int) + 1) (by omega) (by omega), w64 (x := 1 + 2 * (i : Int) + 1 + 1) (by omega) (by omega), show 1 + 2 * (i : Int) + 1 + 1 = 1 + 2 * ((i + 1 : Nat) : Int) by omega]
      refine ih (i + 1) _ (by simp only [List.length_set]; omega) (by simp only [List.length_set]; omega) ?_
      intro j hj
      rw [List.set_set, Int.toNat_natCast]
      by_cases e : j = i
      · subst e
        rw [List.getElem?_set_self hlt]
        simp [List.getD_eq_getElem?_getD, List.getElem?_set_self hlt, hlt]
        omega
      · rw [List.getElem?_set_ne (fun h => e h.symm)]
        exact hm j (by omega)
  exact evp_succ (fun k => laws_markActS.f_eq k _ _) (loop l.length 0 l (by omega) rfl (fun j hj => by omega))
theorem heldA_ev (x : List TwoInts) (hl : x.length ≤ 1048576) (hm : Marked x x.length) : Ev (fun k => laws_heldActS.f k x 1) (1 + 2 * (x.length : Int)) := by
  have loop : ∀ d i : Nat, i + d = x.length → Ev (fun k => laws_heldActS.l0 k x (1 + 2 * (i : Int)) (i : Int)) (1 + 2 * (x.length : Int)) := by
    intro d
    induction d with
    | zero => intro i hi; exact ev_succ (fun k => laws_heldActS.l0_eq k _ _ _) (ev_df (by omega) (ev_some.2 (by omega)))
    | succ d ih =>
      intro i hi
      have hlt : i < x.length := by omega
      have e : x.getD (i : Int).toNat (⟨0, 0⟩ : TwoInts) = ⟨1 + 2 * (i : Int), 2 + 2 * (i : Int)⟩ := by
        rw [Int.toNat_natCast, List.getD_eq_getElem?_getD, hm i hlt]; rfl
      refine ev_succ (fun k => laws_heldActS.l0_eq k _ _ _) (ev_dt (by omega) (ev_gd (by omega) ?_))
      rw [e, w_succ (by omega), w64 (x := 1 + 2 * (i : Int) + 1) (by omega) (by omega), w64 (x := 1 + 2 * (i : Int) + 1 + 1) (by omega) (by omega), show 1 + 2 * (i : Int) + 1 + 1 = 1 + 2 * ((i + 1 : Nat) : Int) by omega]
      exact ev_nf (by simp) (ev_gd (by omega) (ev_nf (by simp; omega) (ih (i + 1) (by omega))))
  exact ev_succ (fun k => laws_heldActS.f_eq k _ _) (loop x.length 0 (by omega))
/-! Rows of acts held against themselves. -/
theorem eqA_self (a : TwoInts) : Ev (fun k => laws_eqAct.f k a a) true := ev_succ (fun k => laws_eqAct.f_eq k _ _) (ev_nf (by simp) (ev_nf (by simp) (ev_some.2 rfl)))
theorem eqAS_self (a : List TwoInts) (hl : a.length ≤ 1048576) : Ev (fun k => laws_eqActS.f k a a) true := by
  have loop : ∀ d i : Nat, i + d = a.length → Ev (fun k => laws_eqActS.l0 k a a (i : Int)) true := by
    intro d
    induction d with
    | zero => intro i hi; exact ev_succ (fun k => laws_eqActS.l0_eq k _ _ _) (ev_df (by omega) (ev_some.2 rfl))
    | succ d ih =>
      intro i hi
      have hlt : i < a.length := by omega
      refine ev_succ (fun k => laws_eqActS.l0_eq k _ _ _) (ev_dt (by omega) (ev_gd (by omega) (ev_gd (by omega) ?_)))
      rw [w_succ (by omega)]
      exact ev_bind (eqA_self _) (ev_nf rfl (ih (i + 1) (by omega)))
  exact ev_succ (fun k => laws_eqActS.f_eq k _ _) (ev_nf (by simp) (loop a.length 0 (by omega)))
/-! The law. -/
theorem pure_FnExactReadJournal (s : List UInt8) (h : s.length ≤ maxLen) : ∃ k, laws_FnExactReadJournal.f k s = some true := by
  refine evp_true (evp_succ (fun k => laws_FnExactReadJournal.f_eq k s) (evp_d (fun _ => evp_some rfl) (fun hl => ?_)))
  have hs : s.length ≤ 1048576 := by omega
  have hj : (rjV s [] [] 0).1.length ≤ 1048576 := by have := rjV_len s [] [] 0; simp at this; omega
  refine evp_bindv (specRJ_ev s (by omega)) (evp_bindv (implRJ_ev s (by omega)) (evp_bindv (eqAS_self _ hj) ?_))
  refine evp_b (fun hh => by cases hh) (fun _ => evp_b (fun hh => by simp at hh) (fun _ => evp_bind (markA_ev _ hj) ?_))
  rintro ⟨m, y⟩ ⟨h1, h2, h3⟩
  simp only at h1 h2 h3
  have hy := heldA_ev y (by omega) (by rw [h2]; exact h3)
  rw [h2] at hy
  refine evp_bindv hy (evp_d (fun hh => absurd hh (by omega)) (fun _ => evp_b (fun hh => by simp [h1] at hh) (fun _ => evp_bindv (implRJ_ev s (by omega)) (evp_bindv (eqAS_self _ hj) ?_))))
  refine evp_b (fun hh => by cases hh) (fun _ => evp_b (fun hh => by simp at hh) (fun _ => evp_bindv hy (evp_d (fun hh => absurd hh (by omega)) (fun _ => evp_b (fun hh => by simp [h1] at hh) (fun _ => evp_some rfl)))))
end Go.Proofs.YtpahkabfmabneaaDoor.EPure
