/-
  The pure statement of FnExactBattleSay.
-/
import Derived.Test.YtkgpkalclblhbaaGreatDoorHalfFnExactBattleSay
namespace Go.Proofs.YtkgpkalclblhbaaGreatDoor.EPure
open Go Go.RowKit Go.Proofs.YtkgpkalclblhbaaGreatDoor.Eng
set_option linter.unusedVariables false
set_option linter.unusedSimpArgs false

theorem valid_ev (r : List Int) : Ev (fun k => spec_OrdValid.f k r) (OV r) := by
  refine ev_succ (fun k => spec_OrdValid.f_eq k r) (ev_bind (l1In_ev _ _ _) ?_)
  by_cases hl : 1 ≤ r.length ∧ r.length ≤ 60
  · refine ev_bt (by simp <;> omega) (ev_bind (end_ev r (by omega) r.length 0 (by omega) (by omega)) (ev_some.2 ?_))
    unfold OV
    rw [decide_eq_true hl, Bool.true_and, List.drop_zero]
    cases h1 : tO1 r with
    | none => simp only [eR]; exact decide_eq_false (by omega)
    | some p =>
      obtain ⟨hs, r'⟩ := p
      simp only [eR]
      cases r' with
      | nil => simp
      | cons x r' => exact decide_eq_false (by simp only [List.length_cons]; omega)
  · refine ev_bf ?_ (ev_some.2 ?_)
    · simp <;> omega
    · unfold OV; rw [decide_eq_false hl, Bool.false_and]
theorem fit_ev (r : List Int) : Ev (fun k => spec_l2Fit.f k r) (if OV r = true then (r, true) else ([], false)) := by
  refine ev_succ (fun k => spec_l2Fit.f_eq k r) (ev_bind (valid_ev r) ?_)
  cases h : OV r with
  | true => exact ev_nf rfl (ev_some.2 rfl)
  | false => exact ev_nt rfl (ev_some.2 rfl)
/-! Taken off rows. -/
def toR (acc : List Term) : Option (List Term × List Int) → List Term × List Int × Bool
  | some (x, r) => (acc ++ x, r, true)
  | none => ([], [], false)
theorem takeOrd_ev : ∀ (N : Nat) (l : List Int), l.length ≤ N → N ≤ 1000000 → Ev (fun k => impl_takeOrd.f k l) (toR [] (tO1 l)) := by
  intro N
  induction N with
  | zero =>
    intro l hl _
    obtain rfl : l = [] := List.eq_nil_of_length_eq_zero (by omega)
    exact ev_succ (fun k => impl_takeOrd.f_eq k _) (ev_dt (by simp) (ev_some.2 rfl))
  | succ N ih =>
    intro l hl hN
    have ih := fun l hl => ih l hl (by omega)
    have loop : ∀ (d i : Nat) (l : List Int) (acc : List Term), l.length ≤ N → i + d ≤ 60 → acc.length = i → (∀ t ∈ acc, size t.f1 ≤ 1000000) → Ev (fun k => impl_takeOrd.l0 k l acc ((i + d : Nat) : Int) (i : Int)) (toR acc (tO l.length d (acc.getLast?.map (·.f1)) l)) := by
      intro d
      induction d with
      | zero =>
        intro i l acc hl hi ha hs
        refine ev_succ (fun k => impl_takeOrd.l0_eq k _ _ _ _) (ev_df (by first | omega | (simp only [List.length_append, List.length_cons, List.length_nil, List.length_map, List.length_take, List.length_drop, limE]; omega) | (simp [limE] <;> omega)) (ev_some.2 ?_))
        simp [tO, toR]
      | succ d ihd =>
        intro i l acc hl hi ha hs
        refine ev_succ (fun k => impl_takeOrd.l0_eq k _ _ _ _) (ev_dt (by first | omega | (simp only [List.length_append, List.length_cons, List.length_nil, List.length_map, List.length_take, List.length_drop, limE]; omega) | (simp [limE] <;> omega)) ?_)
        cases l with
        | nil => exact ev_dt (by simp) (ev_some.2 (by simp [tO, toR]))
        | cons c l =>
          simp only [List.length_cons] at hl
          have hlim : ((c :: l).length : Int) = (l.length : Int) + 1 := by simp
          have hc : (c :: l).getD (0 : Int).toNat 0 = c := rfl
          have hd : ((c :: l).take ((c :: l).length : Int).toNat).drop (1 : Int).toNat = l := by
            rw [Int.toNat_natCast, List.take_length]; rfl
          have hT := tO_step (f := l.length) (n := d) (p := acc.getLast?.map (·.f1)) (c := c) (l := l) (Nat.le_refl _)
          rw [show tO (c :: l).length (d + 1) (acc.getLast?.map (·.f1)) (c :: l) = _ from hT]
          refine ev_df (by rw [hlim]; omega) (ev_gd (by rw [hlim]; omega) ?_)
          rw [hc, hd]
          by_cases h1 : c < 1
          · rw [if_pos (.inl h1)]; exact ev_dt h1 (ev_some.2 rfl)
          refine ev_df h1 (ev_gd (by rw [hlim]; omega) ?_)
          by_cases h2 : c > 9999
          · rw [if_pos (.inr h2)]; exact ev_dt h2 (ev_some.2 rfl)
          rw [if_neg (by omega)]
          refine ev_df h2 (ev_gd (by rw [hlim]; omega) (ev_bind (ih l (by omega)) ?_))
          cases ht : tO1 l with
          | none => exact ev_nt rfl (ev_some.2 rfl)
          | some q =>
            obtain ⟨e, r⟩ := q
            have hr := tO1_len ht
            simp only [toR, List.nil_append]
            have next : pv (acc.getLast?.map (·.f1)) e = false → Ev (fun k => impl_takeOrd.l0 k r (acc ++ [(⟨c, e⟩ : Term)]) ((i + (d + 1) : Nat) : Int) (wr ((i : Int) + 1))) (toR acc (if pv (acc.getLast?.map (·.f1)) e = true then none else match tO r.length d (some e) r with | none => none | some (x, r') => some (⟨c, e⟩ :: x, r'))) := by
              intro hp
              rw [hp, if_neg (by simp), w_succ (by omega)]
              have := ihd (i + 1) r (acc ++ [⟨c, e⟩]) (by omega) (by omega) (by simp [ha]) (fun t ht => by
                rcases List.mem_append.1 ht with ht | ht
                · exact hs t ht
                · rw [List.mem_singleton.1 ht]; show size e ≤ 1000000; omega)
              rw [show i + 1 + d = i + (d + 1) by omega, List.getLast?_append] at this
              simp only [List.getLast?_singleton, Option.some_or, Option.map_some] at this
              revert this
              cases tO r.length d (some e) r with
              | none => exact id
              | some q => intro this; simpa [toR] using this
            refine ev_nf rfl ?_
            by_cases h3 : (i : Int) > 0
            · have hne : acc ≠ [] := fun h => by rw [h] at ha; simp at ha; omega
              obtain ⟨l', s, rfl⟩ : ∃ l' s, acc = l' ++ [s] := by
                rcases List.eq_nil_or_concat acc with h | ⟨l', t, h⟩
                · exact absurd h hne
                · exact ⟨l', t, by rw [h, List.concat_eq_append]⟩
              rw [List.length_append, List.length_singleton] at ha
              have hw : wr ((i : Int) - 1) = (l'.length : Int) := by rw [w64 (by omega) (by omega)]; omega
              have hg : (l' ++ [s]).getD (l'.length : Int).toNat (⟨0, ([] : List Term)⟩ : Term) = s := by
                rw [get_at (by simp)]; simp
              refine ev_dt h3 (ev_gd (by rw [hw, List.length_append, List.length_singleton]; omega) ?_)
              rw [hw, hg]
              have hss := hs s (by simp)
              refine ev_bind (compare_ev e s.f1 (by omega) (by omega)) ?_
              have hpe : pv ((l' ++ [s]).getLast?.map (·.f1)) e = decide (cL e s.f1 ≥ 0) := by simp [pv]
              by_cases h4 : cL e s.f1 ≥ 0
              · refine ev_dt h4 (ev_some.2 ?_)
                rw [hpe, decide_eq_true h4]
                rfl
              · refine ev_df h4 (ev_gd (by rw [hlim]; omega) (ev_gd (by simp [limE]; omega) ?_))
                exact next (by rw [hpe, decide_eq_false h4])
            · obtain rfl : acc = [] := List.eq_nil_of_length_eq_zero (by omega)
              refine ev_df h3 (ev_gd (by rw [hlim]; omega) (ev_gd (by simp [limE]) ?_))
              exact next rfl
    refine ev_succ (fun k => impl_takeOrd.f_eq k _) ?_
    cases l with
    | nil => exact ev_dt (by simp) (ev_some.2 rfl)
    | cons m l =>
      have hlim : ((m :: l).length : Int) = (l.length : Int) + 1 := by simp
      have hc : (m :: l).getD (0 : Int).toNat 0 = m := rfl
      have hd : ((m :: l).take ((m :: l).length : Int).toNat).drop (1 : Int).toNat = l := by
        rw [Int.toNat_natCast, List.take_length]; rfl
      refine ev_df (by rw [hlim]; omega) (ev_gd (by rw [hlim]; omega) (ev_gd (by rw [hlim]; omega) ?_))
      rw [hc, hd]
      simp only [tO1]
      by_cases h1 : m < 0
      · rw [if_pos (.inl h1)]; exact ev_dt h1 (ev_some.2 rfl)
      refine ev_df h1 ?_
      by_cases h2 : m > 60
      · rw [if_pos (.inr h2)]; exact ev_dt h2 (ev_some.2 rfl)
      rw [if_neg (by omega)]
      refine ev_df h2 ?_
      have := loop m.toNat 0 l [] (by simp at hl; omega) (by omega) rfl (by intro t ht; cases ht)
      rw [show ((0 + m.toNat : Nat) : Int) = m by omega] at this
      exact this
/-- What a row gives: the tree of a valid row, or that it is not valid. -/
theorem ordOf_ev (l : List Int) : EvP (fun k => impl_ordOf.f k l) (fun x => x.2 = OV l ∧ (OV l = true → l = row x.1 ∧ Fit x.1)) := by
  refine evp_succ (fun k => impl_ordOf.f_eq k l) ?_
  by_cases h1 : (l.length : Int) < 1
  · have : OV l = false := by unfold OV; rw [decide_eq_false (by omega), Bool.false_and]
    refine evp_d (fun _ => evp_some ⟨this.symm, fun h => by rw [this] at h; cases h⟩) (fun h => absurd h1 h)
  refine evp_d (fun h => absurd h h1) (fun _ => ?_)
  by_cases h2 : (l.length : Int) > 60
  · have : OV l = false := by unfold OV; rw [decide_eq_false (by omega), Bool.false_and]
    refine evp_d (fun _ => evp_some ⟨this.symm, fun h => by rw [this] at h; cases h⟩) (fun h => absurd h2 h)
  refine evp_d (fun h => absurd h h2) (fun _ => evp_bindv (takeOrd_ev l.length l (Nat.le_refl _) (by omega)) ?_)
  have hd : decide (1 ≤ l.length ∧ l.length ≤ 60) = true := decide_eq_true ⟨by omega, by omega⟩
  cases ht : tO1 l with
  | none =>
    have : OV l = false := by unfold OV; rw [ht, Bool.and_false]
    exact evp_some ⟨this.symm, fun h => by rw [this] at h; cases h⟩
  | some q =>
    obtain ⟨x, r⟩ := q
    have hov : OV l = r.isEmpty := by unfold OV; rw [ht, hd, Bool.true_and]
    refine evp_some ⟨?_, fun h => ?_⟩
    · rw [hov]
      cases r with
      | nil => rfl
      | cons a r => exact decide_eq_false (by show ¬ (((a :: r).length : Nat) : Int) = 0; simp <;> omega)
    · rw [hov] at h
      obtain rfl : r = [] := List.isEmpty_iff.1 h
      obtain ⟨a1, a2, a3⟩ := tO1_sound ht
      rw [List.append_nil] at a1
      exact ⟨a1, a2, a3, by show (row x).length ≤ 60; rw [← a1]; omega⟩
theorem row_one (x : List Term) : ((row x).length : Int) = 1 ↔ x = [] := by
  rw [row_len]
  cases x with
  | nil => simp [size_nil]
  | cons t x => rw [size_cons]; have := size_pos t.f1; have := size_pos x; simp; omega
theorem map_get {α β : Type} (f : α → β) (x : List α) (i : Nat) (d : β) (h : i < x.length) : (x.map f).getD (i : Int).toNat d = f x[i] := by
  rw [get_at (by rw [List.length_map]; exact h), List.getElem_map]
/-! Rows and their trees. -/
def tr (r : List Int) : List Term := match tO1 r with
  | some (x, _) => x
  | none => []
theorem tr_row {x : List Term} (h : Fit x) : tr (row x) = x := by
  have hs := h.s
  have := tO1_complete [] h.v h.m (by omega)
  rw [List.append_nil] at this
  simp only [tr, this]
theorem tr_fit {r : List Int} (h : OV r = true) : r = row (tr r) ∧ Fit (tr r) := by
  obtain ⟨x, h1, h2, h3⟩ := OV_tree h
  have : tr r = x := by rw [h1]; exact tr_row h2
  rw [this]
  exact ⟨h1, h2⟩
theorem ordOf_tr (r : List Int) : EvP (fun k => impl_ordOf.f k r) (fun x => x.2 = OV r ∧ (OV r = true → x.1 = tr r)) :=
  evp_mono (ordOf_ev r) fun x hx => ⟨hx.1, fun h => by
    obtain ⟨h1, h2⟩ := hx.2 h
    rw [h1, tr_row h2]⟩
/-! Two rows of numbers held against each other by the reference. -/
theorem eq_step1 {a b : List Int} {i : Nat} (h1 : i < a.length) (h2 : i < b.length) : decide (a.drop i = b.drop i) = (decide (a[i] = b[i]) && decide (a.drop (i + 1) = b.drop (i + 1))) := by
  have e : (a.drop i = b.drop i) ↔ (a[i] = b[i] ∧ a.drop (i + 1) = b.drop (i + 1)) := by
    have e1 := List.drop_eq_getElem_cons h1
    have e2 := List.drop_eq_getElem_cons h2
    constructor
    · intro h
      rw [e1, e2] at h
      exact ⟨(List.cons.inj h).1, (List.cons.inj h).2⟩
    · rintro ⟨h, h'⟩
      rw [e1, e2, h, h']
  rw [← Bool.decide_and]
  exact decide_eq_decide.2 e
theorem same1_ev (a b : List Int) (ha : a.length ≤ 1000000000) : Ev (fun k => spec_l1Same.f k a b) (decide (a = b)) := by
  refine ev_succ (fun k => spec_l1Same.f_eq k _ _) ?_
  have loop : ∀ d i : Nat, i + d = a.length → i ≤ b.length → Ev (fun k => spec_l1Same.l0 k a b (i : Int)) (decide (a.drop i = b.drop i)) := by
    intro d
    induction d with
    | zero =>
      intro i hi hb
      refine ev_succ (fun k => spec_l1Same.l0_eq k _ _ _) (ev_df (by omega) (ev_some.2 ?_))
      rw [List.drop_eq_nil_of_le (by omega : a.length ≤ i)]
      by_cases h : a.length = b.length
      · rw [List.drop_eq_nil_of_le (by omega)]; simp [h]
      · rw [decide_eq_false (by omega)]
        refine (decide_eq_false (fun h2 => h ?_)).symm
        have := congrArg List.length h2
        rw [List.length_drop] at this
        simp at this
        omega
    | succ d ih =>
      intro i hi hb
      refine ev_succ (fun k => spec_l1Same.l0_eq k _ _ _) (ev_dt (by omega) ?_)
      by_cases h : i < b.length
      · refine ev_dt (by omega) (ev_gd (by omega) (ev_gd (by omega) ?_))
        rw [get_nat (by omega : i < a.length), get_nat h, eq_step1 (by omega) h, w_succ (by omega)]
        cases h : decide (a[i] = b[i]) with
        | false => exact ev_nt rfl (ev_some.2 rfl)
        | true => exact ev_nf rfl (by rw [Bool.true_and]; exact ih (i + 1) (by omega) (by omega))
      · refine ev_df (by omega) (ev_some.2 ?_)
        rw [decide_eq_false (by omega), List.drop_eq_nil_of_le (by omega : b.length ≤ i)]
        refine (decide_eq_false (fun h2 => ?_)).symm
        have := congrArg List.length h2
        rw [List.length_drop] at this
        simp at this
        omega
  exact loop a.length 0 (by omega) (by omega)
/-! Texts of ordinals: both sides. -/
theorem oget {α : Type} {l : List α} {i : Nat} (h : i < l.length) (d : α) : l.getD (i : Int).toNat d = l[i] := by
  rw [Int.toNat_natCast, List.getD_eq_getElem?_getD, List.getElem?_eq_getElem h]
  rfl
theorem row_inj {x y : List Term} (h1 : Fit x) (h2 : Fit y) (h : row x = row y) : x = y := by
  rw [← tr_row h1, h, tr_row h2]
theorem isOne_iff {x : List Term} : isOne x = true ↔ x = [⟨1, []⟩] := by
  match x with
  | [] => simp [isOne]
  | [⟨c, e⟩] =>
    show (decide (c = 1) && e.isEmpty) = true ↔ _
    rw [Bool.and_eq_true, decide_eq_true_eq, List.isEmpty_iff]
    constructor
    · rintro ⟨rfl, rfl⟩; rfl
    · intro h; simp at h; exact h
  | a :: b :: x => simp [isOne]
theorem isOm_iff {x : List Term} : isOm x = true ↔ x = [⟨1, [⟨1, []⟩]⟩] := by
  match x with
  | [] => simp [isOm]
  | [⟨c, e⟩] =>
    show (decide (c = 1) && isOne e) = true ↔ _
    rw [Bool.and_eq_true, decide_eq_true_eq, isOne_iff]
    constructor
    · rintro ⟨rfl, rfl⟩; rfl
    · intro h; simp at h; exact h
  | a :: b :: x => simp [isOm]
theorem fit_one : Fit [⟨1, []⟩] := ⟨(vL_one _).2 ⟨by show (1 : Int) ≤ 1; omega, vL_nil⟩, by rw [mL_cons, mL_nil]; show max (max 1 (mL [])) 0 ≤ 9999; rw [mL_nil]; omega, by rw [size_cons, size_nil]; show 1 + size [] + 1 ≤ 60; rw [size_nil]; omega⟩
theorem fit_om : Fit [⟨1, [⟨1, []⟩]⟩] := ⟨(vL_one _).2 ⟨by show (1 : Int) ≤ 1; omega, fit_one.v⟩, by rw [mL_cons, mL_nil]; show max (max 1 (mL [⟨1, []⟩])) 0 ≤ 9999; have := fit_one.m; omega, by rw [size_cons, size_nil]; show 1 + size [⟨1, []⟩] + 1 ≤ 60; rw [size_cons, size_nil]; show 1 + (1 + size [] + 1) + 1 ≤ 60; rw [size_nil]; omega⟩
theorem orow_one : row [⟨1, []⟩] = [1, 1, 0] := by simp [row, fL_cons, fL_nil]
theorem orow_om : row [⟨1, [⟨1, []⟩]⟩] = [1, 1, 1, 1, 0] := by simp [row, fL_cons, fL_nil]
theorem row_is_one {e : List Term} (h : Fit e) : decide (row e = [1, 1, 0]) = isOne e := by
  rw [← orow_one, Bool.eq_iff_iff, decide_eq_true_eq, isOne_iff]
  exact ⟨fun q => row_inj h fit_one q, fun q => by rw [q]⟩
theorem row_is_om {e : List Term} (h : Fit e) : decide (row e = [1, 1, 1, 1, 0]) = isOm e := by
  rw [← orow_om, Bool.eq_iff_iff, decide_eq_true_eq, isOm_iff]
  exact ⟨fun q => row_inj h fit_om q, fun q => by rw [q]⟩
theorem size_one {e : List Term} : size e = 1 ↔ e = [] := by
  cases e with
  | nil => simp [size_nil]
  | cons t x => rw [size_cons]; have := size_pos t.f1; have := size_pos x; constructor; omega; intro h; cases h
theorem fit_sub {x : List Term} (h : Fit x) {t : Term} (ht : t ∈ x) : Fit t.f1 ∧ 1 ≤ t.f0 ∧ t.f0 ≤ 9999 ∧ size t.f1 + 2 ≤ size x := by
  have hm := mL_mem ht
  have hM := h.m
  have hs := h.s
  have hv : ∀ x : List Term, vL x → t ∈ x → (1 ≤ t.f0 ∧ vL t.f1) ∧ size t.f1 + 2 ≤ size x := by
    intro x
    induction x with
    | nil => intro _ q; cases q
    | cons u x ih =>
      intro hv q
      rw [vL_cons] at hv
      rw [size_cons]
      rcases List.mem_cons.1 q with rfl | q
      · have := size_pos x; exact ⟨hv.1, by omega⟩
      · have := ih hv.2.2 q; exact ⟨this.1, by have := size_pos u.f1; omega⟩
  obtain ⟨⟨h1, h2⟩, h3⟩ := hv x h.v ht
  exact ⟨⟨h2, by omega, by omega⟩, h1, by omega, h3⟩
theorem num_ev {n : Int} (h1 : 1 ≤ n) (h2 : n ≤ 9999) : Ev (fun k => spec_l1Number.f k n) (Lib.itoa n) := by
  obtain ⟨m, rfl⟩ := Int.eq_ofNat_of_zero_le (show 0 ≤ n by omega)
  exact l1Number_ev 3 m (by simp; omega) (by omega)
theorem num_len4 {n : Int} (h1 : 1 ≤ n) (h2 : n ≤ 9999) : (Lib.itoa n).length ≤ 4 := by
  obtain ⟨m, rfl⟩ := Int.eq_ofNat_of_zero_le (show 0 ≤ n by omega)
  exact itoa_len 3 m (by simp; omega)
theorem itoaI_ev {n : Int} (h1 : 1 ≤ n) (h2 : n ≤ 9999) : Ev (fun k => strconv_Itoa.f k n) (Lib.itoa n) := by
  obtain ⟨m, rfl⟩ := Int.eq_ofNat_of_zero_le (show 0 ≤ n by omega)
  exact itoa_ev (by omega) id
def onV : List Term → Int
  | [t] => if t.f1.isEmpty then t.f0 else -1
  | _ => -1
theorem onV_pos {e : List Term} (h : Fit e) : decide (onV e > 0) = isNm e := by
  match e, h with
  | [], _ => rfl
  | [t], h =>
    have h1 := (fit_sub h (List.mem_singleton.2 rfl)).2.1
    show decide ((if t.f1.isEmpty then t.f0 else -1) > 0) = t.f1.isEmpty
    cases t.f1.isEmpty with
    | true => rw [if_pos rfl]; exact decide_eq_true (by omega)
    | false => rw [if_neg (by simp)]; rfl
  | t :: u :: x, _ => rfl
theorem ordNumber_ev {e : List Term} (h : Fit e) (hne : e ≠ []) : Ev (fun k => spec_OrdNumber.f k (row e)) (onV e) := by
  have hs := h.s
  refine ev_succ (fun k => spec_OrdNumber.f_eq k _) (ev_bind (valid_ev _) ?_)
  rw [h.ov]
  refine ev_nf rfl (ev_bind (terms_ev e (by omega)) ?_)
  match e, hne with
  | [t], _ =>
    refine ev_df (by simp) (ev_dt (by simp) (ev_gd (by simp) ?_))
    have hl : ((([t].map fun t => row t.f1).getD (0 : Int).toNat ([] : List Int)).length : Int) = (size t.f1 : Int) := rfl
    rw [hl]
    by_cases hz : t.f1 = []
    · refine ev_dt (by rw [hz, size_nil]; rfl) (ev_gd (by simp) (ev_some.2 ?_))
      show t.f0 = if t.f1.isEmpty then t.f0 else -1
      rw [hz]; rfl
    · refine ev_df (fun q => hz (size_one.1 (by omega))) (ev_some.2 ?_)
      show -1 = if t.f1.isEmpty then t.f0 else -1
      rw [if_neg (fun q => hz (List.isEmpty_iff.1 q))]
  | t :: u :: x, _ => exact ev_df (by simp <;> omega) (ev_df (by simp <;> omega) (ev_some.2 rfl))
/-- What stands ahead of a part. -/
def oB (x : List Term) (i : Nat) : List UInt8 := if i = 0 then [] else oL (x.take i) ++ [43]
theorem oB_next {x : List Term} {i : Nat} (h : i < x.length) : oB x i ++ oP x[i] = oL (x.take (i + 1)) := by
  rw [List.take_succ_eq_append_getElem h, oL_snoc]
  unfold oB
  by_cases h0 : i = 0
  · subst h0; simp
  · rw [if_neg h0, if_neg]
    intro q
    have := congrArg List.length q
    rw [List.length_take, List.length_nil] at this
    omega
theorem oL_take_len {x : List Term} (h : Fit x) (i : Nat) : (oL (x.take i)).length ≤ 700 := by
  have h1 := size_app (x.take i) (x.drop i)
  rw [List.take_append_drop] at h1
  have h2 := size_pos (x.drop i)
  have h3 := mL_app (x.take i) (x.drop i)
  rw [List.take_append_drop] at h3
  have hv := h.v
  rw [← List.take_append_drop i x, vL_app] at hv
  have hm := h.m
  have hs := h.s
  have := oL_len (x.take i) hv.1 (by omega)
  omega
theorem sOText_ev (x : List Term) : Fit x → Ev (fun k => spec_l1Text.f k (row x)) (oX x) := by
  refine tree_mem (P := fun x => Fit x → Ev (fun k => spec_l1Text.f k (row x)) (oX x)) ?_ x
  intro x ih hx
  have hs := hx.s
  have hlen := size_len x
  refine ev_succ (fun k => spec_l1Text.f_eq k _) (ev_bind (terms_ev x (by omega)) ?_)
  by_cases h0 : x = []
  · subst h0
    rw [oX_nil]
    exact ev_dt (by simp) (ev_some.2 rfl)
  · rw [oX_L h0]
    have hpos : 0 < x.length := by cases x with | nil => exact absurd rfl h0 | cons t x => simp
    refine ev_df (by simp only [List.length_map]; omega) ?_
    have loop : ∀ d i : Nat, i + d = x.length → Ev (fun k => spec_l1Text.l0 k (x.map (·.f0)) (x.map fun t => row t.f1) (oL (x.take i)) (i : Int)) (oL x) := by
      intro d
      induction d with
      | zero =>
        intro i hi
        refine ev_succ (fun k => spec_l1Text.l0_eq k _ _ _ _) (ev_df (by simp only [List.length_map]; omega) (ev_some.2 ?_))
        rw [List.take_of_length_le (by omega)]
      | succ d ihd =>
        intro i hi
        have hlt : i < x.length := by omega
        have hm : x[i] ∈ x := List.getElem_mem hlt
        obtain ⟨fe, f1, f9, _⟩ := fit_sub hx hm
        have hL := oL_take_len hx i
        have hBl : (oB x i).length ≤ 701 := by unfold oB; split <;> simp <;> omega
        have nxt := ihd (i + 1) (by omega)
        rw [← oB_next hlt] at nxt
        have a1 : (x.map (·.f0)).getD (i : Int).toNat 0 = x[i].f0 := by rw [oget (by simp; omega)]; simp
        have a2 : (x.map fun t => row t.f1).getD (i : Int).toNat ([] : List Int) = row x[i].f1 := by rw [oget (by simp; omega)]; simp
        have hn4 := num_len4 f1 f9
        have hX : (oX x[i].f1).length ≤ 660 := by have := oX_len fe.v fe.m; have := fe.s; omega
        -- the tail: an asterisk and the number
        have j1 : ∀ pre : List UInt8, x[i].f1 ≠ [] → pre.length ≤ 800 → pre ++ (if x[i].f0 > 1 then 42 :: Lib.itoa x[i].f0 else []) = oP x[i] → Ev (fun k => spec_l1Text.j1 k (x.map (·.f0)) (x.map fun t => row t.f1) (oB x i ++ pre) (i : Int)) (oL x) := by
          intro pre hne hp he
          rw [← he] at nxt
          refine ev_succ (fun k => spec_l1Text.j1_eq k _ _ _ _) (ev_gd (by simp only [List.length_map]; omega) ?_)
          rw [a1, a2, w_succ (by omega)]
          have hz : (row x[i].f1).length ≠ 1 := fun q => hne (size_one.1 q)
          have hz2 := size_pos x[i].f1
          have hz3 : (row x[i].f1).length = size x[i].f1 := rfl
          refine ev_dt (by omega) (ev_gd (by simp only [List.length_map]; omega) ?_)
          by_cases hg : x[i].f0 > 1
          · rw [if_pos hg] at nxt
            refine ev_dt hg (ev_succ (fun k => spec_l1Text.j4_eq k _ _ _ _) (ev_gd (by rw [limE]; simp; omega) (ev_gd (by simp only [List.length_map]; omega) ?_)))
            rw [a1, w_succ (by omega)]
            refine ev_bind (num_ev f1 f9) (ev_gd (by rw [limE]; simp; omega) ?_)
            simpa using nxt
          · rw [if_neg hg, List.append_nil] at nxt
            exact ev_df hg nxt
        have j0 : Ev (fun k => spec_l1Text.j0 k (x.map (·.f0)) (x.map fun t => row t.f1) (oB x i) (i : Int)) (oL x) := by
          refine ev_succ (fun k => spec_l1Text.j0_eq k _ _ _ _) (ev_gd (by simp only [List.length_map]; omega) ?_)
          rw [a1, a2]
          have hz3 : (row x[i].f1).length = size x[i].f1 := rfl
          refine ev_bind (same1_ev _ _ (by have := fe.s; omega)) (ev_gd (by simp only [List.length_map]; omega) ?_)
          rw [row_is_one fe]
          have hPe := oP_eq x[i]
          by_cases hz : x[i].f1 = []
          · refine ev_dt (by rw [hz3, hz, size_nil]; rfl) (ev_gd (by simp only [List.length_map]; omega) (ev_bind (num_ev f1 f9) (ev_gd (by rw [limE]; omega) ?_)))
            rw [if_pos (by rw [hz]; rfl)] at hPe
            refine ev_succ (fun k => spec_l1Text.j1_eq k _ _ _ _) (ev_gd (by simp only [List.length_map]; omega) ?_)
            rw [a2, w_succ (by omega), ← hPe]
            exact ev_df (by rw [hz3, hz, size_nil]; omega) nxt
          · have hem : x[i].f1.isEmpty = false := by cases he : x[i].f1.isEmpty with | false => rfl | true => exact absurd (List.isEmpty_iff.1 he) hz
            rw [hem, if_neg (by simp)] at hPe
            refine ev_df (fun q => hz (size_one.1 (by omega))) ?_
            cases ho : isOne x[i].f1 with
            | true =>
              rw [ho, if_pos rfl] at hPe
              exact ev_bt rfl (ev_gd (by rw [limE]; simp; omega) (j1 [119] hz (by simp) hPe.symm))
            | false =>
              rw [ho, if_neg (by simp)] at hPe
              have j2 : (isOm x[i].f1 || isNm x[i].f1) = true → Ev (fun k => spec_l1Text.j2 k (x.map (·.f0)) (x.map fun t => row t.f1) (oB x i) (i : Int)) (oL x) := by
                intro hb
                rw [if_pos hb] at hPe
                refine ev_succ (fun k => spec_l1Text.j2_eq k _ _ _ _) (ev_gd (by rw [limE]; simp; omega) (ev_gd (by simp only [List.length_map]; omega) ?_))
                rw [a2]
                refine ev_bind (ih _ hm fe) (ev_gd (by rw [limE]; simp; omega) ?_)
                have := j1 (119 :: 94 :: oX x[i].f1) hz (by simp; omega) hPe.symm
                simpa using this
              refine ev_bf rfl (ev_gd (by simp only [List.length_map]; omega) (ev_bind (ordNumber_ev fe hz) ?_))
              have hnm := onV_pos fe
              by_cases hp : onV x[i].f1 > 0
              · rw [decide_eq_true hp] at hnm
                exact ev_dt hp (j2 (by rw [← hnm]; simp))
              · rw [decide_eq_false hp] at hnm
                refine ev_df hp (ev_gd (by simp only [List.length_map]; omega) ?_)
                refine ev_bind (same1_ev _ _ (by have := fe.s; omega)) ?_
                rw [row_is_om fe]
                cases hw : isOm x[i].f1 with
                | true => exact ev_bt rfl (j2 (by rw [hw]; rfl))
                | false =>
                  rw [hw, ← hnm, if_neg (by simp)] at hPe
                  refine ev_bf rfl (ev_succ (fun k => spec_l1Text.j3_eq k _ _ _ _) (ev_gd (by rw [limE]; simp; omega) (ev_gd (by simp only [List.length_map]; omega) ?_)))
                  rw [a2]
                  refine ev_bind (ih _ hm fe) (ev_gd (by rw [limE]; simp; omega) (ev_gd (by rw [limE]; simp; omega) ?_))
                  have := j1 (119 :: 94 :: 40 :: (oX x[i].f1 ++ [41])) hz (by simp; omega) hPe.symm
                  simpa using this
        refine ev_succ (fun k => spec_l1Text.l0_eq k _ _ _ _) (ev_dt (by simp only [List.length_map]; omega) ?_)
        unfold oB at j0
        by_cases hi0 : i = 0
        · rw [if_pos hi0] at j0
          refine ev_df (by omega) ?_
          have : oL (x.take i) = [] := by rw [hi0]; rfl
          rw [this]; exact j0
        · rw [if_neg hi0] at j0
          exact ev_dt (by omega) (ev_gd (by rw [limE]; simp; omega) j0)
    exact loop x.length 0 (by omega)
theorem iOText_ev (x : List Term) : Fit x → Ev (fun k => impl_textOf.f k x) (oX x) := by
  refine tree_mem (P := fun x => Fit x → Ev (fun k => impl_textOf.f k x) (oX x)) ?_ x
  intro x ih hx
  have hs := hx.s
  have hlen := size_len x
  refine ev_succ (fun k => impl_textOf.f_eq k _) ?_
  by_cases h0 : x = []
  · subst h0
    rw [oX_nil]
    exact ev_dt (by simp) (ev_some.2 rfl)
  · rw [oX_L h0]
    have hpos : 0 < x.length := by cases x with | nil => exact absurd rfl h0 | cons t x => simp
    refine ev_df (by omega) ?_
    have loop : ∀ d i : Nat, i + d = x.length → Ev (fun k => impl_textOf.l0 k ((x.take i).map oP) x (x.length : Int) (i : Int)) (oL x) := by
      intro d
      induction d with
      | zero =>
        intro i hi
        refine ev_succ (fun k => impl_textOf.l0_eq k _ _ _ _) (ev_df (by omega) ?_)
        rw [List.take_of_length_le (by omega)]
        have hj : joinD (x.map oP) [43] = oL x := join_oL x
        have hl := oL_len x hx.v hx.m
        have e : (fun k => (strings_Join.f k (x.map oP) ([43] : List UInt8)).bind fun r3 => some r3) = fun k => gate (joinOk (x.map oP) [43]) (some (oL x)) := by
          funext k
          rw [strings_Join.f_eq, hj]
          cases joinOk (x.map oP) [43] <;> rfl
        rw [e]
        refine ev_gate ?_ (ev_some.2 rfl)
        unfold joinOk
        rw [hj]
        exact decide_eq_true ⟨by simp; omega, by simp; omega, by omega⟩
      | succ d ihd =>
        intro i hi
        have hlt : i < x.length := by omega
        have hm : x[i] ∈ x := List.getElem_mem hlt
        obtain ⟨fe, f1, f9, _⟩ := fit_sub hx hm
        have nxt := ihd (i + 1) (by omega)
        rw [List.take_succ_eq_append_getElem hlt, List.map_append, List.map_singleton] at nxt
        have hpl : ((x.take i).map oP).length ≤ 100 := by rw [List.length_map, List.length_take]; omega
        have hn4 := num_len4 f1 f9
        have hX : (oX x[i].f1).length ≤ 660 := by have := oX_len fe.v fe.m; have := fe.s; omega
        have hPe := oP_eq x[i]
        have j0 : ∀ pre : List UInt8, pre.length ≤ 800 → pre ++ (if x[i].f0 > 1 then 42 :: Lib.itoa x[i].f0 else []) = oP x[i] → Ev (fun k => impl_textOf.j0 k ((x.take i).map oP) x[i] pre x (x.length : Int) (i : Int)) (oL x) := by
          intro pre hp he
          rw [← he] at nxt
          have j1 : Ev (fun k => impl_textOf.j1 k ((x.take i).map oP) (pre ++ (if x[i].f0 > 1 then 42 :: Lib.itoa x[i].f0 else [])) x (x.length : Int) (i : Int)) (oL x) := by
            refine ev_succ (fun k => impl_textOf.j1_eq k _ _ _ _ _) (ev_gd (by rw [limE, List.length_singleton]; omega) ?_)
            rw [w_succ (by omega)]
            exact nxt
          refine ev_succ (fun k => impl_textOf.j0_eq k _ _ _ _ _ _) ?_
          by_cases hg : x[i].f0 > 1
          · rw [if_pos hg] at j1
            refine ev_dt hg (ev_bind (itoaI_ev f1 f9) (ev_gd (by rw [limE]; simp; omega) (ev_gd (by rw [limE]; simp; omega) ?_)))
            simpa using j1
          · rw [if_neg hg, List.append_nil] at j1
            exact ev_df hg j1
        refine ev_succ (fun k => impl_textOf.l0_eq k _ _ _ _) (ev_dt (by omega) (ev_gd (by omega) ?_))
        rw [oget hlt, w_succ (by omega)]
        refine ev_bind (ih _ hm fe) ?_
        by_cases hz : x[i].f1 = []
        · rw [if_pos (by rw [hz]; rfl)] at hPe
          refine ev_dt (by rw [hz]; rfl) (ev_bind (itoaI_ev f1 f9) (ev_gd (by rw [limE, List.length_singleton]; omega) ?_))
          rw [← hPe]; exact nxt
        · have hem : x[i].f1.isEmpty = false := by cases he : x[i].f1.isEmpty with | false => rfl | true => exact absurd (List.isEmpty_iff.1 he) hz
          rw [hem, if_neg (by simp)] at hPe
          have hl0 : ¬ ((x[i].f1.length : Int) = 0) := fun q => hz (List.length_eq_zero_iff.1 (by omega))
          refine ev_df hl0 ?_
          cases ho : isOne x[i].f1 with
          | true =>
            rw [ho, if_pos rfl] at hPe
            exact ev_dt ((oX_one fe.v).2 ho) (j0 [119] (by simp) hPe.symm)
          | false =>
            rw [ho, if_neg (by simp)] at hPe
            refine ev_df (fun q => by rw [(oX_one fe.v).1 q] at ho; cases ho) ?_
            have yes : (isOm x[i].f1 || isNm x[i].f1) = true → Ev (fun k => gate (decide (([119, 94] : List UInt8).length + (oX x[i].f1).length < lim)) <| impl_textOf.j0 k ((x.take i).map oP) x[i] (([119, 94] : List UInt8) ++ oX x[i].f1) x (x.length : Int) (i : Int)) (oL x) := by
              intro hb
              rw [if_pos hb] at hPe
              refine ev_gd (by rw [limE]; simp; omega) ?_
              exact j0 (119 :: 94 :: oX x[i].f1) (by simp; omega) hPe.symm
            have no : (isOm x[i].f1 || isNm x[i].f1) = false → Ev (fun k => gate (decide (([119, 94, 40] : List UInt8).length + (oX x[i].f1).length < lim)) <| gate (decide ((([119, 94, 40] : List UInt8) ++ oX x[i].f1).length + ([41] : List UInt8).length < lim)) <| impl_textOf.j0 k ((x.take i).map oP) x[i] ((([119, 94, 40] : List UInt8) ++ oX x[i].f1) ++ ([41] : List UInt8)) x (x.length : Int) (i : Int)) (oL x) := by
              intro hb
              rw [hb, if_neg (by simp)] at hPe
              refine ev_gd (by rw [limE]; simp; omega) (ev_gd (by rw [limE]; simp; omega) ?_)
              exact j0 (119 :: 94 :: 40 :: (oX x[i].f1 ++ [41])) (by simp; omega) hPe.symm
            cases hw : isOm x[i].f1 with
            | true => exact ev_dt ((oX_w fe.v).2 hw) (yes (by rw [hw]; rfl))
            | false =>
              refine ev_df (fun q => by rw [(oX_w fe.v).1 q] at hw; cases hw) ?_
              by_cases h1 : (x[i].f1.length : Int) = 1
              · have hl1 : x[i].f1.length = 1 := by omega
                obtain ⟨t, ht⟩ := List.length_eq_one_iff.1 hl1
                refine ev_dt h1 (ev_gd (by omega) ?_)
                have e0 : x[i].f1.getD (0 : Int).toNat (⟨0, ([] : List Term)⟩ : Term) = t := by rw [ht]; rfl
                rw [e0]
                have hnm : isNm x[i].f1 = t.f1.isEmpty := by rw [ht]; rfl
                by_cases h2 : t.f1 = []
                · exact ev_dt (by rw [h2]; rfl) (yes (by rw [hnm, h2]; simp))
                · refine ev_df (fun q => h2 (List.length_eq_zero_iff.1 (by omega))) (no ?_)
                  rw [hw, hnm]
                  cases he : t.f1.isEmpty with
                  | true => exact absurd (List.isEmpty_iff.1 he) h2
                  | false => rfl
              · refine ev_df h1 (no ?_)
                rw [hw]
                match hq : x[i].f1, h1, hz with
                | [], _, hz => exact absurd rfl hz
                | [t], h1, _ => exact absurd rfl h1
                | t :: u :: r, _, _ => rfl
    exact loop x.length 0 (by omega)
def otxtV (r : List Int) : List UInt8 := if OV r = true then oX (tr r) else []
theorem sOT_ev {x : List Term} (h : Fit x) : Ev (fun k => spec_OrdText.f k (row x)) (oX x) := by
  refine ev_succ (fun k => spec_OrdText.f_eq k _) (ev_bind (valid_ev _) ?_)
  rw [h.ov]
  exact ev_nf rfl (ev_bind (sOText_ev x h) (ev_some.2 rfl))
theorem iOT_ev {x : List Term} (h : Fit x) : Ev (fun k => impl_OrdText.f k (row x)) (oX x) := by
  obtain ⟨⟨a, p⟩, a1, a2, a3⟩ := ordOf_tr (row x)
  rw [h.ov] at a2 a3
  refine ev_succ (fun k => impl_OrdText.f_eq k _) (ev_bind a1 ?_)
  have e := a3 rfl
  rw [tr_row h] at e
  simp only at a2 e
  rw [a2, e]
  exact ev_nf rfl (ev_bind (iOText_ev x h) (ev_some.2 rfl))
/-! The ordinal of a hydra falls with each cut. -/
def hord : List Hydra → List Term
  | [] => []
  | .mk l :: x => natO [⟨1, hord l⟩] (hord x)
termination_by x => SizeOf.sizeOf x
theorem hord_nil : hord [] = [] := by rw [hord]
theorem hord_cons (b : Hydra) (x : List Hydra) : hord (b :: x) = natO [⟨1, hord b.f0⟩] (hord x) := by
  cases b
  rw [hord]
  rfl
theorem hord_v (x : List Hydra) : vL (hord x) := by
  refine hyd_ind (P := fun x => vL (hord x)) ?_ ?_ x
  · rw [hord_nil]; exact vL_nil
  · intro b x h1 h2
    rw [hord_cons]
    exact nat_v _ _ ((vL_one _).2 ⟨by show (1 : Int) ≤ 1; omega, h1⟩) h2
theorem co_hord (b : Hydra) (x : List Hydra) (e : List Term) : co (hord (b :: x)) e = (if cL (hord b.f0) e = 0 then 1 else 0) + co (hord x) e := by
  rw [hord_cons, co_nat, co, co]
  simp
theorem co_rep (n : Nat) (y x : List Hydra) (e : List Term) : co (hord (List.replicate n (.mk y) ++ x)) e = (n : Int) * (if cL (hord y) e = 0 then 1 else 0) + co (hord x) e := by
  induction n with
  | zero => simp
  | succ n ih =>
    rw [List.replicate_succ, List.cons_append, co_hord, ih]
    have e1 : (Hydra.mk y).f0 = y := rfl
    rw [e1]
    split <;> simp <;> omega
theorem lt_more {b : Hydra} {x y : List Hydra} (h : Lt (hord y) (hord x)) : Lt (hord (b :: y)) (hord (b :: x)) := by
  obtain ⟨e, h1, h2⟩ := lt_co1 _ _ (hord_v y) (hord_v x) h
  exact co_lt (hord_v _) (hord_v _) (e := e) (by rw [co_hord, co_hord]; omega) (fun f hf => by rw [co_hord, co_hord, h2 f hf])
theorem cut_falls (c : Nat) (x : List Hydra) : ∀ h {y : List Hydra} {o : Bool}, cut c x h = some (y, o) → Lt (hord y) (hord x) := by
  refine hyd_ind (P := fun x => ∀ h {y : List Hydra} {o : Bool}, cut c x h = some (y, o) → Lt (hord y) (hord x)) ?_ ?_ x
  · intro h y o hc; rw [cut_nil] at hc; cases hc
  · intro b x h1 h2 h y o hq
    cases hb : b.f0.isEmpty with
    | true =>
      have hl : b.f0 = [] := List.isEmpty_iff.1 hb
      rw [cut_leaf c h b x hb] at hq
      split at hq
      · cases hq
        refine co_lt (hord_v _) (hord_v _) (e := []) ?_ ?_
        · rw [co_hord, hl, hord_nil, if_pos cL_nn]; omega
        · intro f hf
          rw [co_hord, hl, hord_nil, if_neg (fun hc => by rw [c_zero] at hc; subst hc; exact lt_irrefl _ hf)]
          omega
      · cases hx : cut c x (h - 1) with
        | none => rw [hx] at hq; cases hq
        | some q =>
          rw [hx] at hq
          obtain ⟨y', o'⟩ := q
          cases hq
          exact lt_more (h2 _ hx)
    | false =>
      rw [cut_node c h b x hb] at hq
      cases hl : cut c b.f0 h with
      | some q =>
        rw [hl] at hq
        obtain ⟨y', o'⟩ := q
        cases hq
        have hlt := h1 _ hl
        generalize (if o' = true then c else 1) = n
        refine co_lt (hord_v _) (hord_v _) (e := hord b.f0) ?_ ?_
        · rw [co_rep, co_hord, if_pos (c_refl _), if_neg (fun hc => by rw [c_zero] at hc; rw [hc] at hlt; exact lt_irrefl _ hlt), Int.mul_zero]
          omega
        · intro f hf
          rw [co_rep, co_hord, if_neg (fun hc => by rw [c_zero] at hc; rw [hc] at hlt; exact lt_asymm hlt hf), if_neg (fun hc => by rw [c_zero] at hc; rw [hc] at hf; exact lt_irrefl _ hf), Int.mul_zero]
      | none =>
        rw [hl] at hq
        cases hx : cut c x (h - hd b.f0) with
        | none => rw [hx] at hq; cases hq
        | some q =>
          rw [hx] at hq
          obtain ⟨y', o'⟩ := q
          cases hq
          exact lt_more (h2 _ hx)
/-! Natural sums, as the code makes them. -/
theorem co_le {x : List Term} (h : vL x) (e : List Term) : co x e ≤ mL x := by
  induction x with
  | nil => exact mL_pos []
  | cons t x ih =>
    have hx := (vL_cons t x).1 h
    rw [co, mL_cons]
    by_cases hc : cL t.f1 e = 0
    · rw [if_pos hc, co_zero fun u hu he => lt_irrefl t.f1 (by have := hx.2.1 u hu; rwa [he, ← c_eq _ _ hc] at this)]
      omega
    · rw [if_neg hc]
      have := ih hx.2.2
      omega
theorem take_v {x : List Term} (h : vL x) (i : Nat) : vL (x.take i) := by
  rw [← List.take_append_drop i x, vL_app] at h
  exact h.1
theorem take_m (x : List Term) (i : Nat) : mL (x.take i) ≤ mL x := by
  have := mL_app (x.take i) (x.drop i)
  rw [List.take_append_drop] at this
  omega
theorem co_take {x e : List Term} {i : Nat} (h : i < x.length) : co (x.take (i + 1)) e = co (x.take i) e + if cL x[i].f1 e = 0 then x[i].f0 else 0 := by
  rw [← List.take_append_getElem h, co_app]
  simp only [co]
  omega
theorem natural_ev (x y : List Term) : ∀ acc : List Term, size x ≤ 1000000 → size y ≤ 1000000 → vL x → vL y → mL x ≤ 1000000000 → mL y ≤ 1000000000 → acc.length + size x + size y ≤ 100000000 → Ev (fun k => impl_natural.l0 k x y acc) (acc ++ natO x y) := by
  refine nat_ind (P := fun x y => ∀ acc : List Term, size x ≤ 1000000 → size y ≤ 1000000 → vL x → vL y → mL x ≤ 1000000000 → mL y ≤ 1000000000 → acc.length + size x + size y ≤ 100000000 → Ev (fun k => impl_natural.l0 k x y acc) (acc ++ natO x y)) ?_ ?_ ?_ ?_ ?_ x y
  · intro y acc hx hy _ _ _ _ ha
    have ly := size_len y
    rw [nat_nl]
    exact ev_succ (fun k => impl_natural.l0_eq k _ _ _) (ev_df (by simp) (ev_gd (by simp [limE]; omega) (ev_gd (by simp [limE]; omega) (ev_some.2 (by simp)))))
  · intro x acc hx hy _ _ _ _ ha
    have lx := size_len x
    rw [nat_nr]
    refine ev_succ (fun k => impl_natural.l0_eq k _ _ _) ?_
    by_cases h : (x.length : Int) > 0
    · exact ev_dt h (ev_df (by simp) (ev_gd (by simp [limE]; omega) (ev_gd (by simp [limE]; omega) (ev_some.2 (by simp)))))
    · exact ev_df h (ev_gd (by simp [limE]; omega) (ev_gd (by simp [limE]; omega) (ev_some.2 (by simp))))
  all_goals
    intro a x b y h ih acc hx hy vx vy mx my ha
    have lx := size_len (a :: x)
    have ly := size_len (b :: y)
    rw [size_cons] at hx hy
    have vx' := (vL_cons a x).1 vx
    have vy' := (vL_cons b y).1 vy
    rw [mL_cons] at mx my
    have px := size_pos x
    have py := size_pos y
    have sx := size_cons a x
    have sy := size_cons b y
    rw [List.length_cons] at lx ly
    refine ev_succ (fun k => impl_natural.l0_eq k _ _ _) (ev_dt (by simp <;> omega) (ev_dt (by simp <;> omega) (ev_gd (by simp <;> omega) (ev_gd (by simp <;> omega) ?_))))
    have g1 : (a :: x).getD (0 : Int).toNat (⟨0, ([] : List Term)⟩ : Term) = a := rfl
    have g2 : (b :: y).getD (0 : Int).toNat (⟨0, ([] : List Term)⟩ : Term) = b := rfl
    have d1 : ((a :: x).take ((a :: x).length : Int).toNat).drop (1 : Int).toNat = x := by rw [Int.toNat_natCast, List.take_length]; rfl
    have d2 : ((b :: y).take ((b :: y).length : Int).toNat).drop (1 : Int).toNat = y := by rw [Int.toNat_natCast, List.take_length]; rfl
    rw [g1, g2, d1, d2]
    refine ev_bind (compare_ev _ _ (by omega) (by omega)) ?_
  · have hc := c_gt.2 h
    refine ev_dt (by omega) (ev_gd (by simp <;> omega) (ev_gd (by simp [limE]; omega) (ev_gd (by simp <;> omega) ?_)))
    have := ih (acc ++ [a]) (by omega) (by omega) vx'.2.2 vy (by omega) (by rw [mL_cons]; omega) (by simp; omega)
    rw [nat_gt x y h]
    simpa using this
  · have hc := c_lt.2 h
    refine ev_df (by omega) (ev_dt (by omega) (ev_gd (by simp <;> omega) (ev_gd (by simp [limE]; omega) (ev_gd (by simp <;> omega) ?_))))
    have := ih (acc ++ [b]) (by omega) (by omega) vx vy'.2.2 (by rw [mL_cons]; omega) (by omega) (by simp; omega)
    rw [nat_lt x y h]
    simpa using this
  · have hc := c_zero.2 h
    refine ev_df (by omega) (ev_df (by omega) (ev_gd (by simp <;> omega) (ev_gd (by simp <;> omega) (ev_gd (by simp <;> omega) (ev_gd (by simp [limE]; omega) (ev_gd (by simp <;> omega) (ev_gd (by simp <;> omega) ?_)))))))
    rw [w64 (x := a.f0 + b.f0) (by omega) (by omega)]
    have := ih (acc ++ [⟨a.f0 + b.f0, a.f1⟩]) (by omega) (by omega) vx'.2.2 vy'.2.2 (by omega) (by omega) (by simp; omega)
    rw [nat_eq x y h]
    simpa using this
theorem nat_ev (x y : List Term) (hx : size x ≤ 1000000) (hy : size y ≤ 1000000) (vx : vL x) (vy : vL y) (mx : mL x ≤ 1000000000) (my : mL y ≤ 1000000000) : Ev (fun k => impl_natural.f k x y) (natO x y) := by
  have := natural_ev x y [] hx hy vx vy mx my (by simp; omega)
  exact ev_succ (fun k => impl_natural.f_eq k x y) this
/-! The ordinal of a hydra, both sides. -/
theorem hord_size (x : List Hydra) : size (hord x) + 1 ≤ 2 * hsize x := by
  refine hyd_ind (P := fun x => size (hord x) + 1 ≤ 2 * hsize x) ?_ ?_ x
  · rw [hord_nil, size_nil, hsize_nil]; omega
  · intro b x h1 h2
    have h3 := (nat_size [⟨1, hord b.f0⟩] (hord x)).2.2
    rw [size_cons, size_nil] at h3
    rw [hord_cons, hsize_cons]
    have e : (Term.mk 1 (hord b.f0)).f1 = hord b.f0 := rfl
    rw [e] at h3
    omega
theorem hord_m (x : List Hydra) : mL (hord x) ≤ hsize x := by
  refine hyd_ind (P := fun x => mL (hord x) ≤ hsize x) ?_ ?_ x
  · rw [hord_nil, mL_nil]; omega
  · intro b x h1 h2
    have h3 := (nat_m [⟨1, hord b.f0⟩] (hord x) ((vL_one _).2 ⟨by show (1 : Int) ≤ 1; omega, hord_v _⟩) (hord_v _)).2.2
    rw [mL_cons, mL_nil] at h3
    rw [hord_cons, hsize_cons]
    have e : (Term.mk 1 (hord b.f0)).f1 = hord b.f0 := rfl
    have e2 : (Term.mk 1 (hord b.f0)).f0 = 1 := rfl
    rw [e, e2] at h3
    have := hsize_pos b.f0
    omega
theorem co_happ (a b : List Hydra) (e : List Term) : co (hord (a ++ b)) e = co (hord a) e + co (hord b) e := by
  induction a with
  | nil => rw [hord_nil]; simp [co]
  | cons c a ih => rw [List.cons_append, co_hord, co_hord, ih]; omega
theorem hord_take {x : List Hydra} {i : Nat} (h : i < x.length) : natO (hord (x.take i)) [⟨1, hord x[i].f0⟩] = hord (x.take (i + 1)) := by
  have hv : vL [⟨1, hord x[i].f0⟩] := (vL_one _).2 ⟨by show (1 : Int) ≤ 1; omega, hord_v _⟩
  refine co_ext (nat_v _ _ (hord_v _) hv) (hord_v _) (fun e => ?_)
  rw [← List.take_append_getElem h, co_happ, co_nat, co_hord, hord_nil, co, co]
  rfl
theorem hpow_ev (x : List Term) : Ev (fun k => impl_power.f k x) [⟨1, x⟩] := ev_succ (fun k => impl_power.f_eq k x) (ev_some.2 rfl)
theorem iOrd_ev (x : List Hydra) : hsize x ≤ 100 → Ev (fun k => impl_hydra__ord.f k x) (hord x) := by
  refine hyd_mem (P := fun x => hsize x ≤ 100 → Ev (fun k => impl_hydra__ord.f k x) (hord x)) ?_ x
  intro x ih hs
  have hl := hsize_len x
  have loop : ∀ d i : Nat, i + d = x.length → Ev (fun k => impl_hydra__ord.l0 k (hord (x.take i)) x (x.length : Int) (i : Int)) (hord x) := by
    intro d
    induction d with
    | zero =>
      intro i hi
      refine ev_succ (fun k => impl_hydra__ord.l0_eq k _ _ _ _) (ev_df (by omega) (ev_some.2 ?_))
      rw [List.take_of_length_le (by omega)]
    | succ d ihd =>
      intro i hi
      have hlt : i < x.length := by omega
      have hm : x[i] ∈ x := List.getElem_mem hlt
      have hz := hsize_mem hm
      have z1 := hord_size x[i].f0
      have z2 := hord_m x[i].f0
      have z3 := hord_size (x.take i)
      have z4 := hord_m (x.take i)
      have z5 := hsize_take x i
      have hv : vL [⟨1, hord x[i].f0⟩] := (vL_one _).2 ⟨by show (1 : Int) ≤ 1; omega, hord_v _⟩
      have y1 : size [⟨1, hord x[i].f0⟩] ≤ 1000000 := by rw [size_cons, size_nil]; show 1 + size (hord x[i].f0) + 1 ≤ _; omega
      have y2 : mL [⟨1, hord x[i].f0⟩] ≤ 1000000000 := by rw [mL_cons, mL_nil]; show max (max 1 (mL (hord x[i].f0))) 0 ≤ _; omega
      refine ev_succ (fun k => impl_hydra__ord.l0_eq k _ _ _ _) (ev_dt (by omega) (ev_gd (by omega) ?_))
      rw [hget_at hlt, w_succ (by omega)]
      refine ev_bind (ih _ hm (by omega)) (ev_bind (hpow_ev _) (ev_bind (nat_ev _ _ (by omega) y1 (hord_v _) hv (by omega) y2) ?_))
      rw [hord_take hlt]
      exact ihd (i + 1) (by omega)
  have := loop x.length 0 (by omega)
  rw [List.take_zero, hord_nil] at this
  exact ev_succ (fun k => impl_hydra__ord.f_eq k _) this
/-! One power more, on rows. -/
theorem lAdd_done (x y : List Term) (hx : size x ≤ 1000000) (hy : size y ≤ 1000000) : ∀ (d i : Nat) (acc : List Term), i + d = x.length → (∀ t ∈ x.drop i, Lt t.f1 y) → acc.length ≤ i + 2 → size (acc ++ x.drop i) ≤ 1000000000 → Ev (fun k => spec_l5Add.l0 k (x.map (·.f0)) (x.map fun t => row t.f1) [row y] (acc.map (·.f0)) (acc.map fun t => row t.f1) true (i : Int)) (row (acc ++ x.drop i)) := by
  have lx := size_len x
  have hlen : ∀ acc : List Term, (acc.map (·.f0)).length = acc.length := fun acc => List.length_map _
  have hlen2 : ∀ acc : List Term, (acc.map fun t => row t.f1).length = acc.length := fun acc => List.length_map _
  intro d
  induction d with
  | zero =>
    intro i acc hi hlt ha hs
    rw [List.drop_eq_nil_of_le (by omega), List.append_nil] at hs ⊢
    exact ev_succ (fun k => spec_l5Add.l0_eq k _ _ _ _ _ _ _) (ev_df (by rw [hlen]; omega) (ev_nf rfl (ev_bind (make_ev acc hs) (ev_some.2 rfl))))
  | succ d ih =>
    intro i acc hi hlt ha hs
    have h1 : i < x.length := by omega
    have e1 : x.drop i = x[i] :: x.drop (i + 1) := List.drop_eq_getElem_cons h1
    have hm : x[i] ∈ x := List.getElem_mem h1
    have hsz : size x[i].f1 ≤ 1000000 := by have := size_mem hm; omega
    have hl := hlt x[i] (by rw [e1]; exact List.mem_cons_self)
    have hc : cL x[i].f1 y = -1 := hl
    refine ev_succ (fun k => spec_l5Add.l0_eq k _ _ _ _ _ _ _) (ev_dt (by rw [hlen]; omega) (ev_gd (by rw [hlen2]; omega) (ev_gd (by simp) ?_)))
    rw [map_get (fun t : Term => row t.f1) x i [] h1]
    refine ev_bind (scompare_ev _ y (by omega) (by omega)) ?_
    rw [hc]
    refine ev_dt (by omega) (ev_nf rfl ?_)
    refine ev_succ (fun k => spec_l5Add.j1_eq k _ _ _ _ _ _ _ _) (ev_gd (by rw [hlen]; omega) (ev_gd (by rw [hlen, limE]; simp; omega) (ev_gd (by rw [hlen2]; omega) (ev_gd (by rw [hlen2, limE]; simp; omega) (ev_df (by omega) ?_)))))
    rw [map_get (fun t : Term => t.f0) x i 0 h1, map_get (fun t : Term => row t.f1) x i [] h1, w_succ (by omega)]
    have := ih (i + 1) (acc ++ [x[i]]) (by omega) (fun t ht => hlt t (by rw [e1]; exact List.mem_cons_of_mem _ ht)) (by simp; omega) (by rw [e1] at hs; simpa using hs)
    rw [e1]
    simpa using this
theorem lAdd_step (x y : List Term) (hx : size x ≤ 1000000) {i : Nat} (h1 : i < x.length) : ∀ (acc : List Term) (b : Bool) (r : Int) (v : List Int), acc.length ≤ i + 1 → ¬ r = 0 → Ev (fun k => spec_l5Add.l0 k (x.map (·.f0)) (x.map fun t => row t.f1) [row y] ((acc ++ [x[i]]).map (·.f0)) ((acc ++ [x[i]]).map fun t => row t.f1) b ((i + 1 : Nat) : Int)) v →
          Ev (fun k => spec_l5Add.j1 k (x.map (·.f0)) (x.map fun t => row t.f1) [row y] (acc.map (·.f0)) (acc.map fun t => row t.f1) b (i : Int) r) v := by
  have lx := size_len x
  have hlen : ∀ acc : List Term, (acc.map (·.f0)).length = acc.length := fun acc => List.length_map _
  have hlen2 : ∀ acc : List Term, (acc.map fun t => row t.f1).length = acc.length := fun acc => List.length_map _
  intro acc b r v ha hr he
  refine ev_succ (fun k => spec_l5Add.j1_eq k _ _ _ _ _ _ _ _) (ev_gd (by rw [hlen]; omega) (ev_gd (by rw [hlen, limE]; simp; omega) (ev_gd (by rw [hlen2]; omega) (ev_gd (by rw [hlen2, limE]; simp; omega) (ev_df hr ?_)))))
  rw [map_get (fun t : Term => t.f0) x i 0 h1, map_get (fun t : Term => row t.f1) x i [] h1, w_succ (by omega)]
  simpa using he
theorem lAdd_sz (x y : List Term) (hx : size x ≤ 1000000) (hy : size y ≤ 1000000) {i : Nat} (h1 : i < x.length) : size (x.take i ++ [⟨1, y⟩] ++ [x[i]] ++ x.drop (i + 1)) ≤ 1000000000 := by
  have hst : size (x.take i) ≤ size x := by
    have := size_app (x.take i) (x.drop i)
    rw [List.take_append_drop] at this
    have := size_pos (x.drop i)
    omega
  have hsd : size (x.drop (i + 1)) ≤ size x := by
    have := size_app (x.take (i + 1)) (x.drop (i + 1))
    rw [List.take_append_drop] at this
    have := size_pos (x.take (i + 1))
    omega
  have hsz : size x[i].f1 ≤ 1000000 := by have := size_mem (List.getElem_mem h1); omega
  have q1 := size_app (x.take i ++ [⟨1, y⟩] ++ [x[i]]) (x.drop (i + 1))
  have q2 := size_app (x.take i ++ [⟨1, y⟩]) [x[i]]
  have q3 := size_app (x.take i) [⟨1, y⟩]
  rw [size_cons, size_nil] at q2 q3
  have e : (Term.mk 1 y).f1 = y := rfl
  rw [e] at q3
  omega
theorem lAdd_lt (x y : List Term) (hx : size x ≤ 1000000) (hy : size y ≤ 1000000) {i d : Nat} (hi : i + (d + 1) = x.length) (h1 : i < x.length) (hdv : ∀ u ∈ x.drop (i + 1), Lt u.f1 x[i].f1) (hl : Lt x[i].f1 y) : Ev (fun k => spec_l5Add.j0 k (x.map (·.f0)) (x.map fun t => row t.f1) [row y] ((x.take i).map (·.f0)) ((x.take i).map fun t => row t.f1) (i : Int) (-1)) (row (x.take i ++ ((⟨1, y⟩ : Term) :: x[i] :: x.drop (i + 1)))) := by
  have lx := size_len x
  have hlen : ∀ acc : List Term, (acc.map (·.f0)).length = acc.length := fun acc => List.length_map _
  have hlen2 : ∀ acc : List Term, (acc.map fun t => row t.f1).length = acc.length := fun acc => List.length_map _
  have htk : (x.take i).length = i := by rw [List.length_take]; omega
  have hA : i + 1 < lim := by rw [limE]; omega
  have hd := lAdd_done x y hx hy d (i + 1) (x.take i ++ [⟨1, y⟩] ++ [x[i]]) (by omega) (fun t ht => lt_trans _ _ _ (hdv t ht) hl) (by rw [List.length_append, List.length_append, htk]; show i + 1 + 1 ≤ i + 1 + 2; omega) (lAdd_sz x y hx hy h1)
  have hA2 : i + 1 + 1 < lim := by rw [limE]; omega
  have m1 : (x.take i ++ [(⟨1, y⟩ : Term)] ++ [x[i]]).map (fun t : Term => t.f0) = (x.take i).map (fun t : Term => t.f0) ++ [1] ++ [x[i].f0] := by rw [List.map_append, List.map_append]; rfl
  have m2 : (x.take i ++ [(⟨1, y⟩ : Term)] ++ [x[i]]).map (fun t : Term => row t.f1) = (x.take i).map (fun t : Term => row t.f1) ++ [row y] ++ [row x[i].f1] := by rw [List.map_append, List.map_append]; rfl
  have e : x.take i ++ [(⟨1, y⟩ : Term)] ++ [x[i]] ++ x.drop (i + 1) = x.take i ++ ((⟨1, y⟩ : Term) :: x[i] :: x.drop (i + 1)) := by rw [List.append_assoc, List.append_assoc]; rfl
  rw [m1, m2, e] at hd
  have eg : [row y].getD (0 : Int).toNat ([] : List Int) = row y := rfl
  refine ev_succ (fun k => spec_l5Add.j0_eq k _ _ _ _ _ _ _) (ev_gd (by rw [hlen, htk]; exact hA) (ev_gd ⟨Int.le_refl 0, Int.zero_lt_one⟩ (ev_gd (by rw [hlen2, htk]; exact hA) ?_)))
  rw [eg]
  refine ev_succ (fun k => spec_l5Add.j1_eq k _ _ _ _ _ _ _ _) (ev_gd (by rw [hlen]; omega) (ev_gd (by rw [List.length_append, hlen, htk]; exact hA2) (ev_gd (by rw [hlen2]; omega) (ev_gd (by rw [List.length_append, hlen2, htk]; exact hA2) (ev_df (by decide) ?_)))))
  rw [map_get (fun t : Term => t.f0) x i 0 h1, map_get (fun t : Term => row t.f1) x i [] h1, w_succ (by omega)]
  exact hd
theorem lAdd_eq (x y : List Term) (hx : size x ≤ 1000000) (hy : size y ≤ 1000000) {i d : Nat} (hi : i + (d + 1) = x.length) (h1 : i < x.length) (hdv : ∀ u ∈ x.drop (i + 1), Lt u.f1 x[i].f1) (hl : x[i].f1 = y) (hf0 : 1 ≤ x[i].f0) (hf1 : x[i].f0 ≤ 1000000000) : Ev (fun k => spec_l5Add.j1 k (x.map (·.f0)) (x.map fun t => row t.f1) [row y] ((x.take i).map (·.f0)) ((x.take i).map fun t => row t.f1) false (i : Int) 0) (row (x.take i ++ (⟨x[i].f0 + 1, x[i].f1⟩ :: x.drop (i + 1)))) := by
  have lx := size_len x
  have hlen : ∀ acc : List Term, (acc.map (·.f0)).length = acc.length := fun acc => List.length_map _
  have hlen2 : ∀ acc : List Term, (acc.map fun t => row t.f1).length = acc.length := fun acc => List.length_map _
  have htk : (x.take i).length = i := by rw [List.length_take]; omega
  have hst : size (x.take i) ≤ size x := by
    have := size_app (x.take i) (x.drop i)
    rw [List.take_append_drop] at this
    have := size_pos (x.drop i)
    omega
  have hsd : size (x.drop (i + 1)) ≤ size x := by
    have := size_app (x.take (i + 1)) (x.drop (i + 1))
    rw [List.take_append_drop] at this
    have := size_pos (x.take (i + 1))
    omega
  have hsz : size x[i].f1 ≤ 1000000 := by have := size_mem (List.getElem_mem h1); omega
  refine ev_succ (fun k => spec_l5Add.j1_eq k _ _ _ _ _ _ _ _) (ev_gd (by rw [hlen]; omega) (ev_gd (by rw [hlen, limE, htk]; simp; omega) (ev_gd (by rw [hlen2]; omega) (ev_gd (by rw [hlen2, limE, htk]; simp; omega) (ev_dt rfl ?_)))))
  rw [map_get (fun t : Term => t.f0) x i 0 h1, map_get (fun t : Term => row t.f1) x i [] h1]
  have hL : (((x.take i).map (·.f0) ++ [x[i].f0]).length : Int) = (i : Int) + 1 := by rw [List.length_append, hlen, htk]; simp
  have hw : wr ((((x.take i).map (·.f0) ++ [x[i].f0]).length : Int) - 1) = (i : Int) := by rw [hL, w64] <;> omega
  rw [hw, Int.toNat_natCast]
  have hset : ((x.take i).map (fun t : Term => t.f0) ++ [x[i].f0]).set i (wr (x[i].f0 + 1)) = (x.take i ++ [(⟨x[i].f0 + 1, x[i].f1⟩ : Term)]).map (fun t : Term => t.f0) := by
    rw [List.set_append_right _ _ (by rw [hlen, htk]; exact Nat.le_refl _), hlen, htk, Nat.sub_self, w64 (by omega) (by omega), List.map_append]
    rfl
  rw [hset, w_succ (by omega)]
  refine ev_gd (by rw [hlen]; omega) (ev_gd (by rw [hL]; omega) (ev_gd (by rw [List.length_append, hlen, htk]; simp) ?_))
  have hd := lAdd_done x y hx hy d (i + 1) (x.take i ++ [⟨x[i].f0 + 1, x[i].f1⟩]) (by omega) (fun t ht => by rw [← hl]; exact hdv t ht) (by simp; omega) (by
    have q1 := size_app (x.take i ++ [⟨x[i].f0 + 1, x[i].f1⟩]) (x.drop (i + 1))
    have q2 := size_app (x.take i) [⟨x[i].f0 + 1, x[i].f1⟩]
    rw [size_cons, size_nil] at q2
    have e : (Term.mk (x[i].f0 + 1) x[i].f1).f1 = x[i].f1 := rfl
    rw [e] at q2
    omega)
  rw [List.append_assoc] at hd
  have em : (x.take i ++ [(⟨x[i].f0 + 1, x[i].f1⟩ : Term)]).map (fun t : Term => row t.f1) = (x.take i).map (fun t : Term => row t.f1) ++ [row x[i].f1] := by rw [List.map_append]; rfl
  rw [em] at hd
  exact hd
theorem lAdd_go (x y : List Term) (hx : size x ≤ 1000000) (hy : size y ≤ 1000000) (vx : vL x) (mx : mL x ≤ 1000000000) : ∀ (d i : Nat), i + d = x.length → Ev (fun k => spec_l5Add.l0 k (x.map (·.f0)) (x.map fun t => row t.f1) [row y] ((x.take i).map (·.f0)) ((x.take i).map fun t => row t.f1) false (i : Int)) (row (x.take i ++ natO (x.drop i) [⟨1, y⟩])) := by
  have lx := size_len x
  have hlen : ∀ acc : List Term, (acc.map (·.f0)).length = acc.length := fun acc => List.length_map _
  have hlen2 : ∀ acc : List Term, (acc.map fun t => row t.f1).length = acc.length := fun acc => List.length_map _
  intro d
  induction d with
  | zero =>
    intro i hi
    have hm := make_ev (x ++ [⟨1, y⟩]) (by have := size_app x [⟨1, y⟩]; rw [size_cons, size_nil] at this; have e : (Term.mk 1 y).f1 = y := rfl; rw [e] at this; omega)
    rw [List.map_append, List.map_append] at hm
    rw [List.drop_eq_nil_of_le (by omega), nat_nl, List.take_of_length_le (by omega)]
    exact ev_succ (fun k => spec_l5Add.l0_eq k _ _ _ _ _ _ _) (ev_df (by rw [hlen]; omega) (ev_nt rfl (ev_gd (by rw [hlen, limE]; simp; omega) (ev_gd (by simp) (ev_gd (by rw [hlen2, limE]; simp; omega) (ev_bind hm (ev_some.2 rfl)))))))
  | succ d ih =>
    intro i hi
    have h1 : i < x.length := by omega
    have e1 : x.drop i = x[i] :: x.drop (i + 1) := List.drop_eq_getElem_cons h1
    have hm : x[i] ∈ x := List.getElem_mem h1
    have hsz : size x[i].f1 ≤ 1000000 := by have := size_mem hm; omega
    have hdv : vL (x.drop i) := by
      have := vx
      rw [← List.take_append_drop i x, vL_app] at this
      exact this.2.1
    rw [e1, vL_cons] at hdv
    have htk : (x.take i).length = i := by rw [List.length_take]; omega
    have hst : size (x.take i) ≤ size x := by
      have := size_app (x.take i) (x.drop i)
      rw [List.take_append_drop] at this
      have := size_pos (x.drop i)
      omega
    have hsd : size (x.drop (i + 1)) ≤ size x := by
      have := size_app (x.take (i + 1)) (x.drop (i + 1))
      rw [List.take_append_drop] at this
      have := size_pos (x.take (i + 1))
      omega
    have hf0 := (vL_mem vx hm).1
    have hf1 : x[i].f0 ≤ 1000000000 := by have := mL_mem hm; omega
    refine ev_succ (fun k => spec_l5Add.l0_eq k _ _ _ _ _ _ _) (ev_dt (by rw [hlen]; omega) (ev_gd (by rw [hlen2]; omega) (ev_gd (by simp) ?_)))
    rw [map_get (fun t : Term => row t.f1) x i [] h1]
    refine ev_bind (scompare_ev _ y (by omega) (by omega)) ?_
    have g0 := lAdd_step x y hx h1
    rw [e1]
    rcases c_cases x[i].f1 y with ⟨hc, hl⟩ | ⟨hc, hl⟩ | ⟨hc, hl⟩
    · rw [hc, nat_lt _ _ hl, nat_nr]
      exact ev_dt (by decide) (ev_nt rfl (lAdd_lt x y hx hy hi h1 hdv.2.1 hl))
    · rw [hc, nat_eq _ _ hl, nat_nr]
      exact ev_df (by decide) (lAdd_eq x y hx hy hi h1 hdv.2.1 hl hf0 hf1)
    · rw [hc, nat_gt _ _ hl]
      refine ev_df (by decide) (g0 (x.take i) false 1 _ (by rw [htk]; omega) (by decide) ?_)
      have := ih (i + 1) (by omega)
      rw [← List.take_append_getElem h1, List.append_assoc] at this
      exact this
theorem lAdd_ev (x : List Term) (y : List Term) (hx : size x ≤ 1000000) (hy : size y ≤ 1000000) (vx : vL x) (mx : mL x ≤ 1000000000) : Ev (fun k => spec_l5Add.f k (row x) (row [⟨1, y⟩])) (row (natO x [⟨1, y⟩])) := by
  have lx := size_len x
  have hy2 : size [⟨1, y⟩] ≤ 1000000000 := by rw [size_cons, size_nil]; show 1 + size y + 1 ≤ _; omega
  have hT := terms_ev x (by omega)
  have hT2 := terms_ev [⟨1, y⟩] hy2
  refine ev_succ (fun k => spec_l5Add.f_eq k _ _) (ev_bind hT (ev_bind hT2 ?_))
  exact lAdd_go x y hx hy vx mx x.length 0 (by omega)
theorem row_pow (y : List Term) : ([1, 1] : List Int) ++ row y = row [⟨1, y⟩] := by simp [row, fL_cons, fL_nil]
theorem sOrd_ev (x : List Hydra) : hsize x ≤ 60 → Ev (fun k => spec_l5Ord.f k (hrow x)) (row (hord x)) := by
  refine hyd_mem (P := fun x => hsize x ≤ 60 → Ev (fun k => spec_l5Ord.f k (hrow x)) (row (hord x))) ?_ x
  intro x ih hs
  have hl := hsize_len x
  have hbl : (brs x).length = x.length := by simp [brs]
  have loop : ∀ d i : Nat, i + d = x.length → Ev (fun k => spec_l5Ord.l0 k (brs x) (row (hord (x.take i))) (i : Int)) (row (hord x)) := by
    intro d
    induction d with
    | zero =>
      intro i hi
      refine ev_succ (fun k => spec_l5Ord.l0_eq k _ _ _) (ev_df (by omega) (ev_some.2 ?_))
      rw [List.take_of_length_le (by omega)]
    | succ d ihd =>
      intro i hi
      have hlt : i < x.length := by omega
      have hm : x[i] ∈ x := List.getElem_mem hlt
      have hz := hsize_mem hm
      have z1 := hord_size x[i].f0
      have z3 := hord_size (x.take i)
      have z4 := hord_m (x.take i)
      have z5 := hsize_take x i
      refine ev_succ (fun k => spec_l5Ord.l0_eq k _ _ _) (ev_dt (by omega) (ev_gd (by omega) ?_))
      rw [brs_at hlt, w_succ (by omega)]
      refine ev_bind (ih _ hm (by omega)) (ev_gd (by rw [row_len, limE]; show 2 + _ < _; omega) ?_)
      rw [row_pow]
      refine ev_bind (lAdd_ev _ _ (by omega) (by omega) (hord_v _) (by omega)) ?_
      rw [hord_take hlt]
      exact ihd (i + 1) (by omega)
  have := loop x.length 0 (by omega)
  rw [List.take_zero, hord_nil] at this
  exact ev_succ (fun k => spec_l5Ord.f_eq k _) (ev_bind (branches_ev x hs) this)
def hordV (r : List Int) : List Int × Bool := if HV r = true then (if mL (hord (ht r)) ≤ 9999 ∧ size (hord (ht r)) ≤ 60 then (row (hord (ht r)), true) else ([], false)) else ([], false)
theorem iHO_ev (r : List Int) : Ev (fun k => impl_HydraOrd.f k r) (hordV r) := by
  obtain ⟨x, h1, h2, h3⟩ := hydraOf_ev r
  refine ev_succ (fun k => impl_HydraOrd.f_eq k _) (ev_bind h1 ?_)
  rw [h2]
  unfold hordV
  cases hv : HV r with
  | false => exact ev_nt rfl (ev_some.2 (by simp))
  | true =>
    have hs := (ht_fit hv).2.1
    have z := hord_size (ht r)
    rw [h3 hv]
    refine ev_nf rfl (ev_bind (iOrd_ev _ (by omega)) (ev_bind (told_ev _ (by omega)) (ev_some.2 ?_)))
    simp
theorem sHO_ev (r : List Int) : Ev (fun k => spec_HydraOrd.f k r) (hordV r) := by
  refine ev_succ (fun k => spec_HydraOrd.f_eq k _) (ev_bind (hvalid_ev r) ?_)
  unfold hordV
  cases hv : HV r with
  | false => exact ev_nt rfl (ev_some.2 (by simp))
  | true =>
    obtain ⟨er, hs, _⟩ := ht_fit hv
    have ho := sOrd_ev (ht r) hs
    rw [← er] at ho
    refine ev_nf rfl (ev_bind ho (ev_bind (fit_ev _) (ev_some.2 ?_)))
    rw [OV_row (hord_v _)]
    by_cases hc : mL (hord (ht r)) ≤ 9999 ∧ size (hord (ht r)) ≤ 60
    · simp [hc]
    · simp [hc]
/-! Acts read out of texts. -/
theorem cutS_nil (c : UInt8) : cutD [] [c] = ([], [], false) := by
  have h : Lib.index [] [c] = -1 := by unfold Lib.index; simp
  unfold cutD Lib.cut
  rw [h]
  rfl
theorem cutS_hit (c : UInt8) (r : List UInt8) : cutD (c :: r) [c] = ([], r, true) := by
  have h : Lib.index (c :: r) [c] = 0 := by unfold Lib.index; simp [List.isPrefixOf]
  unfold cutD Lib.cut
  rw [h]
  rfl
theorem cutS_miss {b c : UInt8} (hb : b ≠ c) (r : List UInt8) : cutD (b :: r) [c] = (b :: (cutD r [c]).1, (cutD r [c]).2.1, (cutD r [c]).2.2) := by
  have hge := Lib.index_ge r [c]
  have hp : [c].isPrefixOf (b :: r) = false := by simp [List.isPrefixOf, Ne.symm hb]
  have h : Lib.index (b :: r) [c] = if Lib.index r [c] = -1 then -1 else Lib.index r [c] + 1 := by
    conv => lhs; unfold Lib.index
    rw [hp]
    by_cases e : Lib.index r [c] = -1 <;> simp [e]
  unfold cutD Lib.cut
  rw [h]
  by_cases e : Lib.index r [c] = -1
  · rw [if_pos e, e]
    rfl
  · rw [if_neg e, if_pos (by omega), if_pos (by omega)]
    obtain ⟨m, hm⟩ := Int.eq_ofNat_of_zero_le (show 0 ≤ Lib.index r [c] by omega)
    rw [hm]
    simp only [Int.toNat_natCast, List.length_cons, List.length_nil]
    rw [show ((m : Int) + 1).toNat = m + 1 by omega]
    rfl
theorem cutS_ev {s sep : List UInt8} (h : s.length ≤ 4000000000) (k0 : Nat → Nat) : Ev (fun k => strings_Cut.f (k0 k) s sep) (cutD s sep) :=
  ⟨0, fun k _ => by show strings_Cut.f (k0 k) _ _ = _; rw [strings_Cut.f_eq]; unfold gate strOk; rw [if_pos (decide_eq_true (by omega))]⟩
theorem atoi_ev {s : List UInt8} (h : s.length ≤ 4000000000) (k0 : Nat → Nat) : Ev (fun k => strconv_Atoi.f (k0 k) s) (atoiD s) :=
  ⟨0, fun k _ => by show strconv_Atoi.f (k0 k) _ = _; rw [strconv_Atoi.f_eq]; unfold gate strOk; rw [if_pos (decide_eq_true (by omega))]⟩
theorem cutS_len (c : UInt8) : ∀ s : List UInt8, (cutD s [c]).1.length + (cutD s [c]).2.1.length ≤ s.length
  | [] => by rw [cutS_nil]; simp
  | b :: r => by
    have ih := cutS_len c r
    by_cases h : b = c
    · subst h; rw [cutS_hit]; simp
    · rw [cutS_miss h]; simp only [List.length_cons]; omega
/-! Numbers of three digits at most. -/
def dig3 (n : Nat) : List UInt8 := if n < 10 then [UInt8.ofNat (48 + n)] else if n < 100 then [UInt8.ofNat (48 + n / 10), UInt8.ofNat (48 + n % 10)] else [UInt8.ofNat (48 + n / 100), UInt8.ofNat (48 + n / 10 % 10), UInt8.ofNat (48 + n % 10)]
theorem itoa3 {n : Nat} (h : n < 1000) : Lib.itoa (n : Int) = dig3 n := by
  unfold dig3
  split
  · exact itoa_small (by assumption)
  · rw [itoa_big (by omega)]
    split
    · rw [itoa_small (by omega)]; rfl
    · rw [itoa_big (n := n / 10) (by omega), itoa_small (n := n / 10 / 10) (by omega), Nat.div_div_eq_div_mul]; rfl
theorem atoi3 : ∀ n : Fin 1000, atoiD (dig3 n.val) = ((n.val : Int), true) := by decide +kernel
def sm : List UInt8 → Int → Int
  | [], n => n
  | c :: r, n => if (c.toNat : Int) < 48 then -1 else if (c.toNat : Int) > 57 then -1 else sm r (wr ((wr (10 * n)) + (wr (IntKind.wrap .u8 ((c.toNat : Int) - 48)))))
def smallV (s : List UInt8) : Int := if 1 ≤ s.length ∧ s.length ≤ 3 then (if s.length > 1 ∧ s.getD 0 0 = 48 then -1 else sm s 0) else -1
theorem small3 : ∀ n : Fin 1000, smallV (dig3 n.val) = (n.val : Int) := by decide +kernel
theorem act_num {a : TwoInts} (h : actOk a) : ∃ m : Nat, m < 1000 ∧ a.f1 = (m : Int) ∧ Lib.itoa a.f1 = dig3 m := by
  obtain ⟨m, hm⟩ := Int.eq_ofNat_of_zero_le h.2.2.1
  have := h.2.2.2
  exact ⟨m, by omega, hm, by rw [hm]; exact itoa3 (by omega)⟩
theorem getD_nat {α : Type} (l : List α) (i : Nat) (d : α) : l.getD (i : Int).toNat d = l.getD i d := by rw [Int.toNat_natCast]
theorem small_ev (s : List UInt8) (hl : s.length ≤ 4000000000) : Ev (fun k => spec_l10Small.f k s) (smallV s) := by
  have loop : ∀ (d i : Nat) (n : Int), i + d = s.length → Ev (fun k => spec_l10Small.l0 k s n (i : Int)) (sm (s.drop i) n) := by
    intro d
    induction d with
    | zero =>
      intro i n hi
      refine ev_succ (fun k => spec_l10Small.l0_eq k _ _ _) (ev_df (by omega) (ev_some.2 ?_))
      rw [List.drop_of_length_le (by omega)]
      rfl
    | succ d ih =>
      intro i n hi
      have hlt : i < s.length := by omega
      have e : s.getD (i : Int).toNat 0 = s[i] := by rw [getD_nat, List.getD_eq_getElem?_getD, List.getElem?_eq_getElem hlt]; rfl
      refine ev_succ (fun k => spec_l10Small.l0_eq k _ _ _) (ev_dt (by omega) (ev_gd (by omega) ?_))
      rw [List.drop_eq_getElem_cons hlt, e]
      unfold sm
      by_cases h1 : ((s[i]).toNat : Int) < 48
      · rw [if_pos h1]; exact ev_dt h1 (ev_some.2 rfl)
      · rw [if_neg h1]
        refine ev_df h1 (ev_gd (by omega) ?_)
        by_cases h2 : ((s[i]).toNat : Int) > 57
        · rw [if_pos h2]; exact ev_dt h2 (ev_some.2 rfl)
        · rw [if_neg h2]
          refine ev_df h2 (ev_gd (by omega) ?_)
          rw [w_succ (by omega)]
          exact ih (i + 1) _ (by omega)
  refine ev_succ (fun k => spec_l10Small.f_eq k _) (ev_bind (l1In_ev _ _ _) ?_)
  unfold smallV
  by_cases h : 1 ≤ s.length ∧ s.length ≤ 3
  · rw [if_pos h]
    refine ev_nf (by simp; omega) ?_
    have hl0 := loop s.length 0 0 (by omega)
    by_cases h1 : s.length > 1
    · refine ev_dt (by omega) (ev_gd (by omega) ?_)
      have e : s.getD (0 : Int).toNat 0 = s.getD 0 0 := rfl
      rw [e]
      by_cases h2 : s.getD 0 0 = 48
      · rw [if_pos ⟨h1, h2⟩]; exact ev_dt (by rw [h2]; rfl) (ev_some.2 rfl)
      · rw [if_neg (fun hh => h2 hh.2)]
        refine ev_df (fun hh => h2 ?_) hl0
        have : (s.getD 0 0).toNat = 48 := by omega
        exact UInt8.toNat_inj.1 (by rw [this]; rfl)
    · rw [if_neg (fun hh => h1 hh.1)]
      exact ev_df (by omega) hl0
  · rw [if_neg h]
    exact ev_nt (by simp; omega) (ev_some.2 rfl)
/-! What is read. -/
theorem kinds {a : TwoInts} (h : actOk a) : a.f0 = 0 ∨ a.f0 = 1 ∨ a.f0 = 2 := by have h0 := h.1; have h1 := h.2.1; omega
theorem actT_inj {a b : TwoInts} (ha : actOk a) (hb : actOk b) (h : actT a = actT b) : a = b := by
  obtain ⟨m, hm, ha1, ha2⟩ := act_num ha
  obtain ⟨n, hn, hb1, hb2⟩ := act_num hb
  unfold actT at h
  rw [if_pos ha, if_pos hb, ha2, hb2] at h
  have h1 := atoi3 ⟨m, hm⟩
  have h2 := atoi3 ⟨n, hn⟩
  simp only at h1 h2
  have fin : a.f0 = b.f0 → dig3 m = dig3 n → a = b := by
    intro e1 e2
    rw [e2, h2] at h1
    simp only [Prod.mk.injEq, and_true] at h1
    cases a; cases b
    simp only at e1 ha1 hb1
    rw [e1, ha1, hb1, h1]
  rcases kinds ha with e | e | e <;> rcases kinds hb with e' | e' | e' <;> rw [e, e'] at h <;> simp [actW] at h
  · exact fin (by rw [e, e']) h
  · exact fin (by rw [e, e']) h
  · exact fin (by rw [e, e']) h
noncomputable def readA (s : List UInt8) : TwoInts × Bool := @dite _ (∃ a, actOk a ∧ actT a = s) (Classical.propDecidable _) (fun h => (h.choose, true)) (fun _ => (⟨0, 0⟩, false))
theorem readA_some {a : TwoInts} {s : List UInt8} (h : actOk a) (hs : actT a = s) : readA s = (a, true) := by
  have hx : ∃ a, actOk a ∧ actT a = s := ⟨a, h, hs⟩
  unfold readA
  rw [dif_pos hx]
  have h2 := hx.choose_spec
  rw [actT_inj h2.1 h (h2.2.trans hs.symm)]
theorem readA_none {s : List UInt8} (h : ∀ a, actOk a → actT a ≠ s) : readA s = (⟨0, 0⟩, false) := by
  unfold readA
  rw [dif_neg (fun ⟨a, h1, h2⟩ => h a h1 h2)]
theorem readA_cases (s : List UInt8) : (∃ a, actOk a ∧ actT a = s ∧ readA s = (a, true)) ∨ ((∀ a, actOk a → actT a ≠ s) ∧ readA s = (⟨0, 0⟩, false)) := by
  by_cases h : ∃ a, actOk a ∧ actT a = s
  · obtain ⟨a, h1, h2⟩ := h
    exact .inl ⟨a, h1, h2, readA_some h1 h2⟩
  · have h' : ∀ a, actOk a → actT a ≠ s := fun a h1 h2 => h ⟨a, h1, h2⟩
    exact .inr ⟨h', readA_none h'⟩
/-- The text of an act, cut at its space. -/
theorem cutS_act {a : TwoInts} (h : actOk a) : (cutD (actT a) [32]).1 ≠ [] ∧ (cutD (actT a) [32]).2.1 = Lib.itoa a.f1 := by
  unfold actT
  rw [if_pos h]
  rcases kinds h with e | e | e <;> rw [e] <;> simp only [actW, if_true, if_false, List.cons_append, List.nil_append, Int.reduceEq]
  · rw [cutS_miss (by decide), cutS_miss (by decide), cutS_miss (by decide), cutS_hit]; simp
  · rw [cutS_miss (by decide), cutS_miss (by decide), cutS_miss (by decide), cutS_miss (by decide), cutS_hit]; simp
  · rw [cutS_miss (by decide), cutS_miss (by decide), cutS_miss (by decide), cutS_miss (by decide), cutS_hit]; simp
theorem three_get : ∀ i : Fin 3, ([0, 1, 2] : List Int).getD ((i.val : Nat) : Int).toNat 0 = (i.val : Int) := by decide
theorem implReadA_ev (s : List UInt8) (hl : s.length ≤ 2000000) : Ev (fun k => impl_ReadAct.f k s) (readA s) := by
  have hc := cutS_len 32 s
  refine ev_succ (fun k => impl_ReadAct.f_eq k s) (ev_bind (cutS_ev (by omega) id) (ev_bind (atoi_ev (by omega) id) ?_))
  have step : ∀ d i : Nat, i + d = 3 → (∀ a, actOk a → actT a = s → (i : Int) ≤ a.f0) → Ev (fun k => impl_ReadAct.l0 k s (⟨0, 0⟩ : TwoInts) (cutD s [32]).1 (atoiD (cutD s [32]).2.1).1 (atoiD (cutD s [32]).2.1).2 ([0, 1, 2] : List Int) (([0, 1, 2] : List Int).length : Int) (i : Int)) (readA s) := by
    intro d
    induction d with
    | zero =>
      intro i hi hN
      refine ev_succ (fun k => impl_ReadAct.l0_eq k _ _ _ _ _ _ _ _) (ev_df (by simp; omega) (ev_some.2 ?_))
      rw [readA_none (fun a h1 h2 => by have := hN a h1 h2; have := h1.2.1; omega)]
    | succ d ih =>
      intro i hi hN
      have e3 := three_get ⟨i, by omega⟩
      simp only at e3
      have next : (∀ a, actOk a → actT a = s → a.f0 ≠ (i : Int)) → Ev (fun k => impl_ReadAct.l0 k s (⟨0, 0⟩ : TwoInts) (cutD s [32]).1 (atoiD (cutD s [32]).2.1).1 (atoiD (cutD s [32]).2.1).2 ([0, 1, 2] : List Int) (([0, 1, 2] : List Int).length : Int) (wr ((i : Int) + 1))) (readA s) := by
        intro hne
        rw [w_succ (by omega)]
        exact ih (i + 1) (by omega) (fun a h1 h2 => by have := hN a h1 h2; have := hne a h1 h2; omega)
      refine ev_succ (fun k => impl_ReadAct.l0_eq k _ _ _ _ _ _ _ _) (ev_dt (by simp; omega) (ev_gd (by simp; omega) ?_))
      rw [e3]
      have hact : ∀ a, actOk a → actT a = s → (cutD s [32]).1 ≠ [] ∧ atoiD (cutD s [32]).2.1 = (a.f1, true) := by
        intro a h1 h2
        obtain ⟨g1, g2⟩ := cutS_act h1
        obtain ⟨m, hm, q1, q2⟩ := act_num h1
        rw [h2] at g1 g2
        have := atoi3 ⟨m, hm⟩
        simp only at this
        exact ⟨g1, by rw [g2, q2, this, q1]⟩
      cases hok : (atoiD (cutD s [32]).2.1).2 with
      | false =>
        refine ev_bf rfl ?_
        have := next (fun a h1 h2 h3 => by have := (hact a h1 h2).2; rw [this] at hok; cases hok)
        rwa [hok] at this
      | true =>
        refine ev_bt rfl ?_
        rw [hok] at next
        by_cases hb : (cutD s [32]).1 = []
        · exact ev_bf (by simp [hb]) (next (fun a h1 h2 h3 => (hact a h1 h2).1 hb))
        · refine ev_bt (by simp [hb]) (ev_bind (implActT_ev _) ?_)
          by_cases ht : actT (⟨(i : Int), (atoiD (cutD s [32]).2.1).1⟩ : TwoInts) = s
          · refine ev_dt ht (ev_some.2 ?_)
            by_cases ho : actOk (⟨(i : Int), (atoiD (cutD s [32]).2.1).1⟩ : TwoInts)
            · exact (readA_some ho ht).symm
            · have : s = [] := by rw [← ht]; exact actT_nil.2 ho
              rw [this, cutS_nil] at hb
              exact absurd rfl hb
          · refine ev_df ht (next (fun a h1 h2 h3 => ht ?_))
            have h4 := (hact a h1 h2).2
            rw [h4, ← h2, ← h3]
  exact step 3 0 (by omega) (fun a h1 _ => h1.1)
theorem words_get : ∀ i : Fin 3, ([([99, 117, 116, 32] : List UInt8), ([98, 97, 99, 107, 32] : List UInt8), ([108, 97, 115, 116, 32] : List UInt8)] : List (List UInt8)).getD ((i.val : Nat) : Int).toNat [] = actW (i.val : Int) := by decide
theorem specReadA_ev (s : List UInt8) (hl : s.length ≤ 2000000) : Ev (fun k => spec_ReadAct.f k s) (readA s) := by
  have step : ∀ d i : Nat, i + d = 3 → (∀ a, actOk a → actT a = s → (i : Int) ≤ a.f0) → Ev (fun k => spec_ReadAct.l0 k s (⟨0, 0⟩ : TwoInts) (i : Int)) (readA s) := by
    intro d
    induction d with
    | zero =>
      intro i hi hN
      refine ev_succ (fun k => spec_ReadAct.l0_eq k _ _ _) (ev_df (by omega) (ev_some.2 ?_))
      rw [readA_none (fun a h1 h2 => by have := hN a h1 h2; have := h1.2.1; omega)]
    | succ d ih =>
      intro i hi hN
      have e3 := words_get ⟨i, by omega⟩
      simp only at e3
      have hw := actW_len (i : Int)
      have next : (∀ a, actOk a → actT a = s → a.f0 ≠ (i : Int)) → Ev (fun k => spec_ReadAct.l0 k s (⟨0, 0⟩ : TwoInts) (wr ((i : Int) + 1))) (readA s) := by
        intro hne
        rw [w_succ (by omega)]
        exact ih (i + 1) (by omega) (fun a h1 h2 => by have := hN a h1 h2; have := hne a h1 h2; omega)
      refine ev_succ (fun k => spec_ReadAct.l0_eq k _ _ _) (ev_dt (by omega) (ev_gd (by simp; omega) ?_))
      rw [e3]
      have hact : ∀ a, actOk a → actT a = s → a.f0 = (i : Int) → s.length > (actW (i : Int)).length ∧ smallV (s.drop (actW (i : Int)).length) = a.f1 := by
        intro a h1 h2 h3
        obtain ⟨m, hm, q1, q2⟩ := act_num h1
        have h4 := small3 ⟨m, hm⟩
        simp only at h4
        unfold actT at h2
        rw [if_pos h1, h3, q2] at h2
        subst h2
        have hd : 0 < (dig3 m).length := by unfold dig3; (repeat' split) <;> simp
        exact ⟨by rw [List.length_append]; omega, by rw [List.drop_left, h4, q1]⟩
      by_cases hlen : s.length > (actW (i : Int)).length
      · refine ev_dt (by omega) (ev_gd (by omega) ?_)
        rw [Int.toNat_natCast, Int.toNat_natCast, List.take_length]
        refine ev_bind (small_ev _ (by rw [List.length_drop]; omega)) (ev_bind (specActT_ev _) ?_)
        by_cases ht : actT (⟨(i : Int), smallV (s.drop (actW (i : Int)).length)⟩ : TwoInts) = s
        · refine ev_dt ht (ev_some.2 ?_)
          by_cases ho : actOk (⟨(i : Int), smallV (s.drop (actW (i : Int)).length)⟩ : TwoInts)
          · exact (readA_some ho ht).symm
          · have : s = [] := by rw [← ht]; exact actT_nil.2 ho
            rw [this] at hlen
            simp at hlen
        · refine ev_df ht (next (fun a h1 h2 h3 => ht ?_))
          have h4 := (hact a h1 h2 h3).2
          rw [h4, ← h3]
          exact h2
      · exact ev_df (by omega) (next (fun a h1 h2 h3 => hlen (hact a h1 h2 h3).1))
  exact ev_succ (fun k => spec_ReadAct.f_eq k s) (step 3 0 (by omega) (fun a h1 _ => h1.1))
/-! Runs of cuts: what stays true of them. -/
theorem runL_app (c : Int) : ∀ (a b r : List Int), runL c (a ++ b) r = if (runL c a r).2 = true then runL c b (runL c a r).1 else ([], false)
  | [], b, r => by simp [runL]
  | x :: a, b, r => by
    rw [List.cons_append, runL, runL]
    split
    · exact runL_app c a b _
    · simp
theorem bval_spec {b : Battle} (h : bvalR b = true) : HV b.f0 = true ∧ b.f2.length ≤ 400 ∧ (1 ≤ b.f1 ∧ b.f1 ≤ 9) ∧ runL b.f1 b.f2 b.f0 = (b.f3, true) := by
  unfold bvalR at h
  rw [Bool.and_eq_true, decide_eq_true_eq] at h
  obtain ⟨h1, h2⟩ := h
  unfold runR at h1 h2
  split at h1
  · rename_i hc
    rw [if_pos hc] at h2
    exact ⟨hc.1, hc.2.1, hc.2.2, Prod.ext h2 h1⟩
  · cases h1
theorem runL_take (c : Int) (l r : List Int) (n : Nat) (h : (runL c l r).2 = true) : (runL c (l.take n) r).2 = true := by
  rw [← List.take_append_drop n l, runL_app] at h
  split at h
  · assumption
  · cases h
theorem runL_valid (c : Int) : ∀ (l r : List Int), HV r = true → (runL c l r).2 = true → HV (runL c l r).1 = true
  | [], r, h, _ => h
  | x :: l, r, h, h2 => by
    rw [runL] at h2 ⊢
    split at h2
    · rename_i hc
      rw [if_pos hc]
      exact runL_valid c l _ (cutR_valid hc) h2
    · cases h2
/-! Copies of rows of numbers, and rows held against each other. -/
theorem toIntS_l0 (l : List Int) (hl : l.length ≤ 1000000000) : ∀ d i : Nat, i + d = l.length → Ev (fun k => laws_toIntS.l0 k l (l.take i ++ List.replicate d 0) (i : Int)) l := by
  intro d
  induction d with
  | zero =>
    intro i hi
    refine ev_succ (fun k => laws_toIntS.l0_eq k _ _ _) (ev_df (by omega) (ev_some.2 ?_))
    rw [List.take_of_length_le (by omega)]; simp
  | succ d ih =>
    intro i hi
    have hlt : i < l.length := by omega
    have hlen : (l.take i ++ List.replicate (d + 1) (0 : Int)).length = l.length := by simp; omega
    refine ev_succ (fun k => laws_toIntS.l0_eq k _ _ _) (ev_dt (by omega) (ev_gd (by omega) (ev_gd (by rw [hlen]; omega) (ev_gd (by rw [hlen]; omega) ?_))))
    rw [get_nat hlt, w_succ (by omega), Int.toNat_natCast]
    have e : (l.take i ++ List.replicate (d + 1) (0 : Int)).set i l[i] = l.take (i + 1) ++ List.replicate d 0 := by
      rw [List.set_append_right _ _ (by simp; omega), List.length_take, Nat.min_eq_left (by omega), Nat.sub_self, List.replicate_succ, List.set_cons_zero, ← List.take_append_getElem hlt, List.append_assoc]
      rfl
    rw [e]
    exact ih (i + 1) (by omega)
theorem toIntS_ev (l : List Int) (hl : l.length ≤ 1000000000) : Ev (fun k => laws_toIntS.f k l) l := by
  refine ev_succ (fun k => laws_toIntS.f_eq k l) (ev_gd ⟨by omega, by rw [Int.toNat_natCast, limE]; omega, rfl⟩ ?_)
  have := toIntS_l0 l hl l.length 0 (by omega)
  rw [Int.toNat_natCast]
  simpa using this
theorem eqIntS_l0 (l : List Int) (hl : l.length < 9223372036854775807) : ∀ d i : Nat, i + d = l.length → Ev (fun k => laws_eqIntS.l0 k l l (i : Int)) true := by
  intro d
  induction d with
  | zero =>
    intro i hi
    exact ev_succ (fun k => laws_eqIntS.l0_eq k _ _ _) (ev_df (by omega) (ev_some.2 rfl))
  | succ d ih =>
    intro i hi
    refine ev_succ (fun k => laws_eqIntS.l0_eq k _ _ _) (ev_dt (by omega) (ev_gd (by omega) (ev_gd (by omega) (ev_nf (by simp) ?_))))
    rw [w_succ (by omega)]
    exact ih (i + 1) (by omega)
theorem eqIntS_self (l : List Int) (hl : l.length < 9223372036854775807) : Ev (fun k => laws_eqIntS.f k l l) true :=
  ev_succ (fun k => laws_eqIntS.f_eq k _ _) (ev_nf (by simp) (eqIntS_l0 l hl l.length 0 (by omega)))
/-! Rows written over with numbers that follow each other, from any number on. -/
def mkF (c : Int) (n : Nat) : List Int := (List.range n).map fun (i : Nat) => c + (i : Int)
theorem mkF_len (c : Int) (n : Nat) : (mkF c n).length = n := by simp [mkF]
theorem mkF_at {c : Int} {n i : Nat} (h : i < n) : (mkF c n)[i]'(by rw [mkF_len]; exact h) = c + (i : Int) := by simp [mkF]
theorem mkF_succ (c : Int) (n : Nat) : mkF c (n + 1) = mkF c n ++ [c + (n : Int)] := by simp [mkF, List.range_succ]
theorem markc_ev (c : Int) (h0 : 0 ≤ c) (h1 : c ≤ 1000000000) (l : List Int) (hl : l.length ≤ 1000000000) : Ev (fun k => laws_markIntS.f k l c) (c + (l.length : Int), mkF c l.length) := by
  have loop : ∀ d i : Nat, i + d = l.length → Ev (fun k => laws_markIntS.l0 k (mkF c i ++ l.drop i) (c + (i : Int)) (i : Int)) (c + (l.length : Int), mkF c l.length) := by
    intro d
    induction d with
    | zero =>
      intro i hi
      have hlen : (mkF c i ++ l.drop i).length = l.length := by rw [List.length_append, mkF_len, List.length_drop]; omega
      refine ev_succ (fun k => laws_markIntS.l0_eq k _ _ _) (ev_df (by rw [hlen]; omega) (ev_some.2 ?_))
      rw [List.drop_eq_nil_of_le (by omega), List.append_nil, show i = l.length by omega]
    | succ d ih =>
      intro i hi
      have hlen : (mkF c i ++ l.drop i).length = l.length := by rw [List.length_append, mkF_len, List.length_drop]; omega
      have hlt : i < l.length := by omega
      refine ev_succ (fun k => laws_markIntS.l0_eq k _ _ _) (ev_dt (by rw [hlen]; omega) (ev_gd (by rw [hlen]; omega) (ev_gd (by rw [hlen]; omega) ?_)))
      have e : (mkF c i ++ l.drop i).set (i : Int).toNat (c + (i : Int)) = mkF c (i + 1) ++ l.drop (i + 1) := by
        rw [Int.toNat_natCast, List.set_append_right _ _ (by rw [mkF_len]; omega), mkF_len, Nat.sub_self, List.drop_eq_getElem_cons hlt, List.set_cons_zero, mkF_succ, List.append_assoc]
        rfl
      rw [e, w_succ (by omega), w64 (by omega) (by omega)]
      have := ih (i + 1) (by omega)
      rw [show c + (i : Int) + 1 = c + ((i + 1 : Nat) : Int) by omega]
      exact this
  have := loop l.length 0 (by omega)
  refine ev_succ (fun k => laws_markIntS.f_eq k _ _) ?_
  simpa [mkF] using this
theorem heldc_ev (c : Int) (h0 : 0 ≤ c) (h1 : c ≤ 1000000000) (n : Nat) (hn : n ≤ 1000000000) : Ev (fun k => laws_heldIntS.f k (mkF c n) c) (c + (n : Int)) := by
  have loop : ∀ d i : Nat, i + d = n → Ev (fun k => laws_heldIntS.l0 k (mkF c n) (c + (i : Int)) (i : Int)) (c + (n : Int)) := by
    intro d
    induction d with
    | zero =>
      intro i hi
      refine ev_succ (fun k => laws_heldIntS.l0_eq k _ _ _) (ev_df (by rw [mkF_len]; omega) (ev_some.2 (by omega)))
    | succ d ih =>
      intro i hi
      have hlt : i < (mkF c n).length := by rw [mkF_len]; omega
      refine ev_succ (fun k => laws_heldIntS.l0_eq k _ _ _) (ev_dt (by omega) (ev_gd (by omega) (ev_nf ?_ ?_)))
      · rw [get_nat hlt, mkF_at (by omega)]; exact decide_eq_true rfl
      · rw [w_succ (by omega), w64 (by omega) (by omega), show c + (i : Int) + 1 = c + ((i + 1 : Nat) : Int) by omega]
        exact ih (i + 1) (by omega)
  have := loop n 0 (by omega)
  refine ev_succ (fun k => laws_heldIntS.f_eq k _ _) ?_
  simpa using this
/-! A battle's rows written over, and looked at again. -/
def BS (b : Battle) : Prop := b.f0.length ≤ 1048576 ∧ b.f2.length ≤ 1048576 ∧ b.f3.length ≤ 1048576
def tot (b : Battle) : Int := 1 + (b.f0.length : Int) + (b.f2.length : Int) + (b.f3.length : Int)
def mk0 (b : Battle) : List Int := mkF 1 b.f0.length
def mk2 (b : Battle) : List Int := mkF (1 + (b.f0.length : Int)) b.f2.length
def mk3 (b : Battle) : List Int := mkF (1 + (b.f0.length : Int) + (b.f2.length : Int)) b.f3.length
theorem tot_pos (b : Battle) : 1 ≤ tot b := by unfold tot; omega
theorem markB_ev (b : Battle) (h : BS b) : Ev (fun k => laws_markBattle.f k b.f0 b.f1 b.f2 b.f3 1) (tot b, mk0 b, mk2 b, mk3 b) := by
  obtain ⟨h0, h2, h3⟩ := h
  exact ev_succ (fun k => laws_markBattle.f_eq k _ _ _ _ _) (ev_bind (markc_ev 1 (by omega) (by omega) _ (by omega)) (ev_bind (markc_ev _ (by simp only; omega) (by simp only; omega) _ (by omega)) (ev_bind (markc_ev _ (by simp only; omega) (by simp only; omega) _ (by omega)) (ev_some.2 rfl))))
theorem eqBB (b : Battle) (h : BS b) : Ev (fun k => laws_eqBattle.f k b b) true :=
  ev_succ (fun k => laws_eqBattle.f_eq k _ _) (ev_bind (eqIntS_self _ (by have := h.1; omega)) (ev_nf rfl (ev_nf (by simp) (ev_bind (eqIntS_self _ (by have := h.2.1; omega)) (ev_nf rfl (ev_bind (eqIntS_self _ (by have := h.2.2; omega)) (ev_nf rfl (ev_some.2 rfl))))))))
/-! The size of a row of numbers. -/
theorem szIntS_ev (l : List Int) (n : Int) (h0 : 0 ≤ n) (h1 : n ≤ 1048576) (hl : l.length ≤ maxLen) : Ev (fun k => laws_szIntS.f k l n) (if (l.length : Int) ≤ n then n - l.length else -1) := by
  have hm : maxLen ≤ 9223372036854775807 := by decide
  refine ev_succ (fun k => laws_szIntS.f_eq k _ _) ?_
  rw [w64 (by omega) (by omega)]
  by_cases h : (l.length : Int) ≤ n
  · rw [if_pos h]; exact ev_df (by omega) (ev_some.2 rfl)
  · rw [if_neg h]; exact ev_dt (by omega) (ev_some.2 rfl)
/-! Battles copied (by their parts) and sized. -/
/-- A battle, taken apart. -/
def fl (b : Battle) : List Int × Int × List Int × List Int := (b.f0, b.f1, b.f2, b.f3)
def BatOk (b : Battle) : Prop := (b.f0.length ≤ maxLen ∧ ∀ x ∈ b.f0, (Lit.int .i64 x).wf = true) ∧ (Lit.int .i64 b.f1).wf = true ∧ (b.f2.length ≤ maxLen ∧ ∀ x ∈ b.f2, (Lit.int .i64 x).wf = true) ∧ (b.f3.length ≤ maxLen ∧ ∀ x ∈ b.f3, (Lit.int .i64 x).wf = true)
theorem szB_ev (b : Battle) (h : BatOk b) : EvP (fun k => laws_szBattle.f k b 1048576) (fun r => r ≤ 1048576 ∧ (0 ≤ r → BS b)) := by
  unfold BS
  obtain ⟨⟨h0, _⟩, _, ⟨h2, _⟩, h3, _⟩ := h
  refine evp_succ (fun k => laws_szBattle.f_eq k _ _) (evp_bindv (szIntS_ev _ _ (by omega) (by omega) h0) ?_)
  by_cases c0 : (b.f0.length : Int) ≤ 1048576
  · rw [if_pos c0]
    refine evp_d (fun h => absurd h (by omega)) (fun _ => evp_bindv (szIntS_ev _ _ (by omega) (by omega) h2) ?_)
    by_cases c2 : (b.f2.length : Int) ≤ 1048576 - b.f0.length
    · rw [if_pos c2]
      refine evp_d (fun h => absurd h (by omega)) (fun _ => evp_bindv (szIntS_ev _ _ (by omega) (by omega) h3) ?_)
      by_cases c3 : (b.f3.length : Int) ≤ 1048576 - b.f0.length - b.f2.length
      · rw [if_pos c3]
        exact evp_d (fun h => absurd h (by omega)) (fun _ => evp_some ⟨by omega, fun _ => by omega⟩)
      · rw [if_neg c3]
        exact evp_d (fun _ => evp_some ⟨by omega, fun h => by omega⟩) (fun h => absurd (by omega) h)
    · rw [if_neg c2]
      exact evp_d (fun _ => evp_some ⟨by omega, fun h => by omega⟩) (fun h => absurd (by omega) h)
  · rw [if_neg c0]
    exact evp_d (fun _ => evp_some ⟨by omega, fun h => by omega⟩) (fun h => absurd (by omega) h)
theorem toB_ev (b : Battle) (h : BS b) : Ev (fun k => laws_toBattle.f k b) (fl b) := by
  obtain ⟨h0, h2, h3⟩ := h
  exact ev_succ (fun k => laws_toBattle.f_eq k _) (ev_bind (toIntS_ev _ (by omega)) (ev_bind (toIntS_ev _ (by omega)) (ev_bind (toIntS_ev _ (by omega)) (ev_some.2 rfl))))
theorem bs_valid {b : Battle} (h : bvalR b = true) : BS b := by
  obtain ⟨h1, h2, h3, h4⟩ := bval_spec h
  have hv := runL_valid b.f1 b.f2 b.f0 h1 (by rw [h4])
  rw [h4] at hv
  have a := HV_len h1
  have c := HV_len hv
  exact ⟨by omega, by omega, by simp only at c; omega⟩
/-! One act of a battle. -/
def lasts (c : Int) : Nat → List Int → Option (List Int)
  | 0, _ => some []
  | d + 1, r => if (cutR r (wr (headsR r - 1)) c).2 = true then (lasts c d (cutR r (wr (headsR r - 1)) c).1).map (fun hs => wr (headsR r - 1) :: hs) else none
theorem lasts_run (c : Int) : ∀ (d : Nat) (r hs : List Int), lasts c d r = some hs → (runL c hs r).2 = true ∧ hs.length = d
  | 0, r, hs, h => by simp [lasts] at h; subst h; simp [runL]
  | d + 1, r, hs, h => by
    rw [lasts] at h
    split at h
    · rename_i hc
      rw [Option.map_eq_some_iff] at h
      obtain ⟨hs', h1, rfl⟩ := h
      have := lasts_run c d _ hs' h1
      rw [runL, if_pos hc]
      exact ⟨this.1, by simp [this.2]⟩
    · cases h
def wth (b : Battle) (cuts : List Int) : Battle := ⟨b.f0, b.f1, cuts, (runR b.f0 cuts b.f1).1⟩
def didV (b : Battle) (a : TwoInts) : List Int × Bool :=
  if a.f0 = 0 then (if (cutR b.f3 a.f1 b.f1).2 = true ∧ b.f2.length < 400 then (b.f2 ++ [a.f1], true) else (b.f2, false))
  else if a.f0 = 1 then (if 1 ≤ a.f1 ∧ a.f1 ≤ (b.f2.length : Int) then (b.f2.take ((b.f2.length : Int) - a.f1).toNat, true) else (b.f2, false))
  else if a.f0 = 2 then (if 1 ≤ a.f1 ∧ a.f1 ≤ 400 - (b.f2.length : Int) then (match lasts b.f1 a.f1.toNat b.f3 with
      | some hs => (b.f2 ++ hs, true)
      | none => (b.f2, false)) else (b.f2, false))
  else (b.f2, false)
def emptyB : Battle := ⟨[], 0, [], []⟩
def doV (b : Battle) (a : TwoInts) : Battle × Bool := if bvalR b = true then (wth b (didV b a).1, (didV b a).2) else (emptyB, false)
theorem didV_len {b : Battle} (h : bvalR b = true) (a : TwoInts) : (didV b a).1.length ≤ 400 := by
  obtain ⟨_, h2, _, _⟩ := bval_spec h
  unfold didV
  split
  · split
    · simp; omega
    · exact h2
  · split
    · split
      · simp; omega
      · exact h2
    · split
      · split
        · split
          · rename_i hs hl
            have := (lasts_run _ _ _ _ hl).2
            simp only [List.length_append]
            omega
          · exact h2
        · exact h2
      · exact h2
def fl5 {α : Type} (x : Battle × α) : List Int × Int × List Int × List Int × α := (x.1.f0, x.1.f1, x.1.f2, x.1.f3, x.2)
theorem iWith_ev (b : Battle) (cuts : List Int) (h : b.f0.length ≤ 1000000) (h2 : cuts.length ≤ 1000000) : Ev (fun k => impl_withCuts.f k b cuts) (fl (wth b cuts)) :=
  ev_succ (fun k => impl_withCuts.f_eq k _ _) (ev_bind (iRun_ev _ _ _) (ev_bind (cloneI_ev _ (by rw [limE]; omega)) (ev_bind (cloneI_ev _ (by rw [limE]; omega)) (ev_some.2 rfl))))
theorem sWith_ev (b : Battle) (cuts : List Int) (hv : HV b.f0 = true) (hc : 1 ≤ b.f1 ∧ b.f1 ≤ 9) (h2 : cuts.length ≤ 1000000) : Ev (fun k => spec_l10With.f k b cuts) (wth b cuts) := by
  have := HV_len hv
  have hnew : Ev (fun k => spec_BattleNew.f k b.f0 b.f1) ⟨b.f0, b.f1, [], b.f0⟩ := by
    refine ev_succ (fun k => spec_BattleNew.f_eq k _ _) (ev_bind (hvalid_ev _) ?_)
    rw [hv]
    refine ev_nf rfl (ev_bind (l1In_ev _ _ _) (ev_nf (by simp; omega) (ev_gd (by rw [limE]; simp; omega) (ev_gd (by rw [limE]; simp; omega) (ev_some.2 rfl)))))
  exact ev_succ (fun k => spec_l10With.f_eq k _ _) (ev_bind hnew (ev_gd (by rw [limE]; simp; omega) (ev_bind (sRun_ev _ _ _) (ev_some.2 rfl))))
theorem iDid_ev (b : Battle) (a : TwoInts) (h : bvalR b = true) : Ev (fun k => impl_did.f k b a) (didV b a) := by
  obtain ⟨h1, h2, h3, h4⟩ := bval_spec h
  refine ev_succ (fun k => impl_did.f_eq k _ _) ?_
  unfold didV
  by_cases k0 : a.f0 = 0
  · refine ev_dt k0 (ev_bind (iHCut_ev _ _ _) ?_)
    rw [if_pos k0]
    cases hc : (cutR b.f3 a.f1 b.f1).2 with
    | false => exact ev_bf rfl (ev_some.2 (by simp))
    | true =>
      refine ev_bt rfl ?_
      by_cases hl : b.f2.length < 400
      · rw [if_pos ⟨rfl, hl⟩]
        exact ev_dt (by omega) (ev_succ (fun k => impl_did.j0_eq k _ _) (ev_bind (cloneI_ev _ (by rw [limE]; omega)) (ev_gd (by rw [limE]; simp; omega) (ev_some.2 rfl))))
      · rw [if_neg (fun h => hl h.2)]
        exact ev_df (by omega) (ev_some.2 rfl)
  · refine ev_df k0 ?_
    rw [if_neg k0]
    by_cases k1 : a.f0 = 1
    · refine ev_dt k1 ?_
      rw [if_pos k1]
      by_cases n1 : a.f1 ≥ 1
      · refine ev_dt n1 ?_
        by_cases n2 : a.f1 ≤ (b.f2.length : Int)
        · rw [if_pos ⟨n1, n2⟩]
          refine ev_dt n2 (ev_succ (fun k => impl_did.j1_eq k _ _) ?_)
          rw [w64 (by omega) (by omega)]
          exact ev_gd (by omega) (ev_some.2 rfl)
        · rw [if_neg (fun h => n2 h.2)]
          exact ev_df n2 (ev_some.2 rfl)
      · rw [if_neg (fun h => n1 h.1)]
        exact ev_df n1 (ev_some.2 rfl)
    · refine ev_df k1 ?_
      rw [if_neg k1]
      by_cases k2 : a.f0 = 2
      · refine ev_dt k2 (ev_bind (cloneI_ev _ (by rw [limE]; omega)) ?_)
        rw [if_pos k2, w64 (x := 400 - (b.f2.length : Int)) (by omega) (by omega)]
        by_cases n1 : a.f1 < 1
        · rw [if_neg (by omega)]
          exact ev_dt n1 (ev_some.2 rfl)
        · refine ev_df n1 ?_
          by_cases n2 : a.f1 > 400 - (b.f2.length : Int)
          · rw [if_neg (by omega)]
            exact ev_dt n2 (ev_some.2 rfl)
          · rw [if_pos ⟨by omega, by omega⟩]
            refine ev_df n2 ?_
            have loop : ∀ (d i : Nat) (r cuts : List Int), (i : Int) + d = a.f1 → cuts.length ≤ 400 + i → Ev (fun k => impl_did.l0 k b cuts r a.f1 (i : Int)) (match lasts b.f1 d r with
                | some hs => (cuts ++ hs, true)
                | none => (b.f2, false)) := by
              intro d
              induction d with
              | zero =>
                intro i r cuts hi hc
                exact ev_succ (fun k => impl_did.l0_eq k _ _ _ _ _) (ev_df (by omega) (ev_some.2 (by simp [lasts])))
              | succ d ih =>
                intro i r cuts hi hc
                refine ev_succ (fun k => impl_did.l0_eq k _ _ _ _ _) (ev_dt (by omega) (ev_bind (iHeads_ev r) (ev_bind (iHCut_ev _ _ _) ?_)))
                rw [lasts]
                cases hq : (cutR r (wr (headsR r - 1)) b.f1).2 with
                | false => exact ev_nt rfl (ev_some.2 (by simp))
                | true =>
                  refine ev_nf rfl (ev_gd (by rw [limE]; simp; omega) ?_)
                  have := ih (i + 1) (cutR r (wr (headsR r - 1)) b.f1).1 (cuts ++ [wr (headsR r - 1)]) (by omega) (by simp; omega)
                  rw [if_pos rfl, w_succ (by omega)]
                  cases hl : lasts b.f1 d (cutR r (wr (headsR r - 1)) b.f1).1 with
                  | none => rw [hl] at this; exact this
                  | some hs => rw [hl] at this; simp only [List.append_assoc, List.singleton_append] at this; exact this
            have := loop a.f1.toNat 0 b.f3 b.f2 (by omega) (by omega)
            exact this
      · rw [if_neg k2]
        exact ev_df k2 (ev_some.2 rfl)
theorem iDo_ev (b : Battle) (a : TwoInts) : Ev (fun k => impl_BattleDo.f k b a) (fl5 (doV b a)) := by
  refine ev_succ (fun k => impl_BattleDo.f_eq k _ _) (ev_bind (iBV_ev b) ?_)
  unfold doV
  cases h : bvalR b with
  | false => exact ev_nt rfl (ev_some.2 rfl)
  | true =>
    have h1 := HV_len (bval_spec h).1
    have h2 := didV_len h a
    exact ev_nf rfl (ev_bind (iDid_ev b a h) (ev_bind (iWith_ev b _ (by omega) (by omega)) (ev_some.2 rfl)))
theorem run_more {b : Battle} (h : bvalR b = true) (hs : List Int) : (runR b.f0 (b.f2 ++ hs) b.f1).2 = (decide (b.f2.length + hs.length ≤ 400) && (runL b.f1 hs b.f3).2) := by
  obtain ⟨h1, h2, h3, h4⟩ := bval_spec h
  unfold runR
  by_cases hl : b.f2.length + hs.length ≤ 400
  · rw [if_pos ⟨h1, by rw [List.length_append]; exact hl, h3⟩, runL_app, h4, if_pos rfl, decide_eq_true hl, Bool.true_and]
  · rw [if_neg (fun h => hl (by rw [← List.length_append]; exact h.2.1)), decide_eq_false hl, Bool.false_and]
theorem sDo_ev (b : Battle) (a : TwoInts) : Ev (fun k => spec_BattleDo.f k b a) (doV b a) := by
  refine ev_succ (fun k => spec_BattleDo.f_eq k _ _) (ev_bind (sBV_ev b) ?_)
  unfold doV
  cases h : bvalR b with
  | false => exact ev_nt rfl (ev_some.2 rfl)
  | true =>
    obtain ⟨h1, h2, h3, h4⟩ := bval_spec h
    have hl0 := HV_len h1
    refine ev_nf rfl (ev_bind (sWith_ev b _ h1 h3 (by omega)) (ev_gd (by rw [limE]; simp; omega) ?_))
    rw [List.nil_append, if_pos rfl]
    have j0 : ∀ (w : Battle) (hs : List Int), hs.length ≤ 1000 → Ev (fun k => spec_BattleDo.j0 k b w (wth b b.f2) (b.f2 ++ hs)) (if (runR b.f0 (b.f2 ++ hs) b.f1).2 = true then (wth b (b.f2 ++ hs), true) else (wth b b.f2, false)) := by
      intro w hs hh
      refine ev_succ (fun k => spec_BattleDo.j0_eq k _ _ _ _) (ev_bind (sRun_ev _ _ _) ?_)
      cases hr : (runR b.f0 (b.f2 ++ hs) b.f1).2 with
      | false => exact ev_nt rfl (ev_some.2 (by simp))
      | true => exact ev_nf rfl (ev_bind (sWith_ev b _ h1 h3 (by rw [List.length_append]; omega)) (ev_some.2 (by simp)))
    unfold didV
    by_cases k0 : a.f0 = 0
    · refine ev_dt k0 (ev_gd (by rw [limE]; simp; omega) ?_)
      have := j0 ⟨[], 0, [], []⟩ [a.f1] (by simp)
      refine ev_eq this ?_
      rw [run_more h, if_pos k0, runL]
      cases hc : (cutR b.f3 a.f1 b.f1).2 with
      | false => simp
      | true =>
        have hr : (runL b.f1 [] (cutR b.f3 a.f1 b.f1).1).2 = true := rfl
        by_cases hl : b.f2.length < 400
        · have hd : b.f2.length + [a.f1].length ≤ 400 := by simp; omega
          have hc2 : True ∧ b.f2.length < 400 := ⟨trivial, hl⟩
          simp only [decide_eq_true hd, if_true, hr, Bool.and_true, hl, and_self]
        · have hd : ¬ b.f2.length + [a.f1].length ≤ 400 := by simp; omega
          simp only [decide_eq_false hd, Bool.false_and, Bool.false_eq_true, if_false, hl, and_false]
    · refine ev_df k0 ?_
      rw [if_neg k0]
      have bad : a.f0 ≠ 2 → Ev (fun k => spec_BattleDo.j2 k b a ⟨[], 0, [], []⟩ (wth b b.f2) b.f2) (wth b b.f2, false) := fun hk => ev_succ (fun k => spec_BattleDo.j2_eq k _ _ _ _ _) (ev_df hk (ev_some.2 rfl))
      by_cases k1 : a.f0 = 1
      · refine ev_dt k1 (ev_bind (l1In_ev _ _ _) ?_)
        rw [if_pos k1]
        by_cases n1 : 1 ≤ a.f1 ∧ a.f1 ≤ (b.f2.length : Int)
        · rw [if_pos n1]
          refine ev_bt (by simp; omega) (ev_succ (fun k => spec_BattleDo.j1_eq k _ _ _ _) ?_)
          rw [w64 (by omega) (by omega)]
          exact ev_gd (by omega) (ev_bind (sWith_ev b _ h1 h3 (by simp; omega)) (ev_some.2 rfl))
        · rw [if_neg n1]
          exact ev_bf (by simp; omega) (bad (by omega))
      · refine ev_df k1 ?_
        rw [if_neg k1]
        by_cases k2 : a.f0 = 2
        · rw [if_pos k2]
          refine ev_succ (fun k => spec_BattleDo.j2_eq k _ _ _ _ _) (ev_dt k2 (ev_bind (l1In_ev _ _ _) ?_))
          by_cases n1 : 1 ≤ a.f1 ∧ a.f1 ≤ 400
          · refine ev_bt (by simp; omega) ?_
            have loop : ∀ (d i : Nat) (r hs : List Int), (i : Int) + d = a.f1 → hs.length = i → Ev (fun k => spec_BattleDo.l0 k b a ⟨[], 0, [], []⟩ (wth b b.f2) (b.f2 ++ hs) r (i : Int)) (match lasts b.f1 d r with
                | some hs' => if (runR b.f0 (b.f2 ++ (hs ++ hs')) b.f1).2 = true then (wth b (b.f2 ++ (hs ++ hs')), true) else (wth b b.f2, false)
                | none => (wth b b.f2, false)) := by
              intro d
              induction d with
              | zero =>
                intro i r hs hi hc
                refine ev_succ (fun k => spec_BattleDo.l0_eq k _ _ _ _ _ _ _) (ev_df (by omega) ?_)
                rw [lasts]
                simp only [List.append_nil]
                exact j0 _ hs (by omega)
              | succ d ih =>
                intro i r hs hi hc
                refine ev_succ (fun k => spec_BattleDo.l0_eq k _ _ _ _ _ _ _) (ev_dt (by omega) (ev_bind (sHeads_ev r) (ev_bind (sHCut_ev _ _ _) ?_)))
                rw [lasts]
                cases hq : (cutR r (wr (headsR r - 1)) b.f1).2 with
                | false => exact ev_nt rfl (ev_some.2 (by simp))
                | true =>
                  refine ev_nf rfl (ev_gd (by rw [limE]; simp; omega) ?_)
                  have := ih (i + 1) (cutR r (wr (headsR r - 1)) b.f1).1 (hs ++ [wr (headsR r - 1)]) (by omega) (by simp; omega)
                  rw [if_pos rfl, w_succ (by omega), List.append_assoc]
                  cases hl : lasts b.f1 d (cutR r (wr (headsR r - 1)) b.f1).1 with
                  | none => rw [hl] at this; exact this
                  | some hs' => rw [hl] at this; simp only [List.append_assoc, List.singleton_append] at this; exact this
            have := loop a.f1.toNat 0 b.f3 [] (by omega) rfl
            rw [List.append_nil] at this
            refine ev_eq this ?_
            cases hl : lasts b.f1 a.f1.toNat b.f3 with
            | none => simp
            | some hs =>
              obtain ⟨r1, r2⟩ := lasts_run _ _ _ _ hl
              simp only [List.nil_append]
              rw [run_more h, r1, Bool.and_true]
              by_cases hle : a.f1 ≤ 400 - (b.f2.length : Int)
              · have hd : b.f2.length + hs.length ≤ 400 := by omega
                have hc : 1 ≤ a.f1 ∧ a.f1 ≤ 400 - (b.f2.length : Int) := ⟨n1.1, hle⟩
                simp only [if_pos hc, decide_eq_true hd, if_true]
              · have hd : ¬ b.f2.length + hs.length ≤ 400 := by omega
                have hc : ¬ (1 ≤ a.f1 ∧ a.f1 ≤ 400 - (b.f2.length : Int)) := fun h => hle h.2
                simp only [if_neg hc, decide_eq_false hd, Bool.false_eq_true, if_false]
          · refine ev_bf (by simp; omega) (ev_some.2 ?_)
            rw [if_neg (by omega)]
        · rw [if_neg k2]
          exact bad k2
/-! Acts one after the other. -/
def actsV : List TwoInts → Battle → Int → Battle × Int
  | [], b, n => (b, n)
  | a :: t, b, n => if (doV b a).2 = true then actsV t (doV b a).1 (n + 1) else actsV t b n
def brunV (b : Battle) (l : List TwoInts) : Battle × Int := if bvalR b = true ∧ l.length ≤ 40 then actsV l (wth b b.f2) 0 else (emptyB, 0)
theorem tw_at {l : List TwoInts} {i : Nat} (h : i < l.length) : l.getD (i : Int).toNat (⟨0, 0⟩ : TwoInts) = l[i] := hget_at h _
/-! What a battle stays. -/
theorem wth_valid {b : Battle} {cuts : List Int} (hv : HV b.f0 = true) (hc : 1 ≤ b.f1 ∧ b.f1 ≤ 9) (hl : cuts.length ≤ 400) (hr : (runL b.f1 cuts b.f0).2 = true) : bvalR (wth b cuts) = true := by
  unfold bvalR wth runR
  simp only
  rw [if_pos ⟨hv, hl, hc⟩, hr]
  simp
theorem wth_self {b : Battle} (h : bvalR b = true) : wth b b.f2 = b := by
  obtain ⟨h1, h2, h3, h4⟩ := bval_spec h
  unfold wth runR
  rw [if_pos ⟨h1, h2, h3⟩, h4]
theorem didV_run {b : Battle} (h : bvalR b = true) (a : TwoInts) : (runL b.f1 (didV b a).1 b.f0).2 = true := by
  obtain ⟨h1, h2, h3, h4⟩ := bval_spec h
  have h0 : (runL b.f1 b.f2 b.f0).2 = true := by rw [h4]
  have more : ∀ hs, (runL b.f1 hs b.f3).2 = true → (runL b.f1 (b.f2 ++ hs) b.f0).2 = true := by
    intro hs hh
    rw [runL_app, if_pos h0, h4]
    exact hh
  unfold didV
  split
  · split
    · rename_i hc
      exact more _ (by rw [runL, if_pos hc.1]; rfl)
    · exact h0
  · split
    · split
      · exact runL_take _ _ _ _ h0
      · exact h0
    · split
      · split
        · split
          · rename_i hs hl
            exact more _ (lasts_run _ _ _ _ hl).1
          · exact h0
        · exact h0
      · exact h0
theorem doV_valid {b : Battle} (h : bvalR b = true) (a : TwoInts) : bvalR (doV b a).1 = true := by
  obtain ⟨h1, h2, h3, h4⟩ := bval_spec h
  unfold doV
  rw [if_pos h]
  exact wth_valid h1 h3 (didV_len h a) (didV_run h a)
theorem doV_no {b : Battle} (h : bvalR b = true) {a : TwoInts} (hn : (doV b a).2 = false) : (doV b a).1 = b := by
  unfold doV at hn ⊢
  rw [if_pos h] at hn ⊢
  have hd : (didV b a).1 = b.f2 := by
    simp only at hn
    revert hn
    unfold didV
    split
    · split <;> simp
    · split
      · split <;> simp
      · split
        · split
          · split <;> simp
          · simp
        · simp
  simp only
  rw [hd, wth_self h]
/-! One line to a battle, both sides. -/
theorem hordV_fit {r : List Int} (h : (hordV r).2 = true) : HV r = true ∧ Fit (hord (ht r)) ∧ (hordV r).1 = row (hord (ht r)) := by
  unfold hordV at h ⊢
  split at h
  · rename_i hv
    rw [if_pos hv]
    split at h
    · rename_i hc
      rw [if_pos hc]
      exact ⟨hv, ⟨hord_v _, hc.1, hc.2⟩, rfl⟩
    · cases h
  · cases h
theorem bval_now {b : Battle} (h : bvalR b = true) : HV b.f3 = true := by
  obtain ⟨h1, _, _, h4⟩ := bval_spec h
  have := runL_valid b.f1 b.f2 b.f0 h1 (by rw [h4])
  rw [h4] at this
  exact this
theorem fightL_bd (c : Int) : ∀ (d : Nat) (r : List Int), d ≤ 401 → -1 ≤ fightL c d r ∧ fightL c d r ≤ 401
  | 0, r, _ => by unfold fightL; omega
  | d + 1, r, h => by
    have ih := fun r => fightL_bd c d r (by omega)
    unfold fightL
    split
    · omega
    · split
      · exact ih _
      · omega
theorem left_bd (b : Battle) : -1 ≤ leftR b ∧ leftR b ≤ 401 := by
  unfold leftR
  split
  · unfold fightR
    split
    · exact fightL_bd _ _ _ (by omega)
    · omega
  · omega
def answerV (b : Battle) (s : List UInt8) : List UInt8 :=
  if s = [104, 121, 100, 114, 97] then htxtV b.f3
  else if s = [111, 114, 100, 105, 110, 97, 108] then (if (hordV b.f3).2 = true then oX (hord (ht b.f3)) else [110, 111, 110, 101])
  else if s = [104, 101, 97, 100, 115] then Lib.itoa (headsR b.f3)
  else if s = [99, 117, 116, 115] then Lib.itoa (b.f2.length : Int)
  else if s = [108, 101, 102, 116] then (if leftR b < 0 then [109, 97, 110, 121] else Lib.itoa (leftR b))
  else if s = [100, 101, 97, 100] then (if b.f3.length = 1 then [121, 101, 115] else [110, 111])
  else [119, 104, 97, 116]
noncomputable def lineV (b : Battle) (s : List UInt8) : Battle × List UInt8 :=
  if bvalR b = true then (if (readA s).2 = true then ((doV b (readA s).1).1, if (doV b (readA s).1).2 = true then [111, 107] else [110, 111]) else (b, answerV b s)) else (emptyB, [])
theorem itoaN_ev {n : Int} (h1 : 0 ≤ n) (h2 : n ≤ 1000) : Ev (fun k => strconv_Itoa.f k n) (Lib.itoa n) := by
  obtain ⟨m, rfl⟩ := Int.eq_ofNat_of_zero_le h1
  exact itoa_ev (by omega) id
theorem numN_ev {n : Int} (h1 : 0 ≤ n) (h2 : n ≤ 1000) : Ev (fun k => spec_l1Number.f k n) (Lib.itoa n) := by
  obtain ⟨m, rfl⟩ := Int.eq_ofNat_of_zero_le h1
  exact l1Number_ev 3 m (by simp; omega) (by omega)
theorem heads_bd {r : List Int} (h : HV r = true) : 0 ≤ headsR r ∧ headsR r ≤ 60 := by
  unfold headsR
  rw [if_pos h]
  have := hd_size (ht r)
  have := (ht_fit h).2.1
  omega
theorem iAnswer_ev {b : Battle} (h : bvalR b = true) (s : List UInt8) : Ev (fun k => impl_answer.f k b s) (answerV b s) := by
  have hv := bval_now h
  obtain ⟨_, h2, _⟩ := bval_spec h
  have hb := heads_bd hv
  have hl := left_bd b
  have hn := HV_len hv
  refine ev_succ (fun k => impl_answer.f_eq k _ _) ?_
  unfold answerV
  by_cases c1 : s = [104, 121, 100, 114, 97]
  · rw [if_pos c1]; exact ev_dt c1 (ev_bind (iHText_ev _) (ev_some.2 rfl))
  rw [if_neg c1]; refine ev_df c1 ?_
  by_cases c2 : s = [111, 114, 100, 105, 110, 97, 108]
  · rw [if_pos c2]
    refine ev_dt c2 (ev_bind (iHO_ev _) ?_)
    cases ho : (hordV b.f3).2 with
    | false => exact ev_nt rfl (ev_some.2 rfl)
    | true =>
      obtain ⟨_, f2, f3⟩ := hordV_fit ho
      rw [f3]
      exact ev_nf rfl (ev_bind (iOT_ev f2) (ev_some.2 rfl))
  rw [if_neg c2]; refine ev_df c2 ?_
  by_cases c3 : s = [104, 101, 97, 100, 115]
  · rw [if_pos c3]; exact ev_dt c3 (ev_bind (iHeads_ev _) (ev_bind (itoaN_ev hb.1 (by omega)) (ev_some.2 rfl)))
  rw [if_neg c3]; refine ev_df c3 ?_
  by_cases c4 : s = [99, 117, 116, 115]
  · rw [if_pos c4]; exact ev_dt c4 (ev_bind (itoaN_ev (by omega) (by omega)) (ev_some.2 rfl))
  rw [if_neg c4]; refine ev_df c4 ?_
  by_cases c5 : s = [108, 101, 102, 116]
  · rw [if_pos c5]
    refine ev_dt c5 (ev_bind (iBL_ev b) ?_)
    by_cases hneg : leftR b < 0
    · rw [if_pos hneg]; exact ev_dt hneg (ev_some.2 rfl)
    · rw [if_neg hneg]; exact ev_df hneg (ev_bind (itoaN_ev (by omega) (by omega)) (ev_some.2 rfl))
  rw [if_neg c5]; refine ev_df c5 ?_
  by_cases c6 : s = [100, 101, 97, 100]
  · rw [if_pos c6]
    refine ev_dt c6 (ev_gd (by omega) ?_)
    by_cases h1 : b.f3.length = 1
    · rw [if_pos h1]; exact ev_dt ((HV_one hv).2 h1) (ev_some.2 rfl)
    · rw [if_neg h1]; exact ev_df (fun q => h1 ((HV_one hv).1 q)) (ev_some.2 rfl)
  rw [if_neg c6]; exact ev_df c6 (ev_some.2 rfl)
theorem iLine_ev (b : Battle) (s : List UInt8) (hs : s.length ≤ 2000000) : Ev (fun k => impl_BattleLine.f k b s) (fl5 (lineV b s)) := by
  refine ev_succ (fun k => impl_BattleLine.f_eq k _ _) (ev_bind (iBV_ev b) ?_)
  unfold lineV
  cases h : bvalR b with
  | false => exact ev_nt rfl (ev_some.2 (by simp [emptyB, fl5]))
  | true =>
    refine ev_nf rfl (ev_bind (implReadA_ev s hs) ?_)
    cases hr : (readA s).2 with
    | true =>
      refine ev_bt rfl (ev_bind (iDo_ev b _) ?_)
      cases hd : (doV b (readA s).1).2 with
      | false => exact ev_nt (by simp [fl5, hd]) (ev_some.2 (by simp [fl5]))
      | true => exact ev_nf (by simp [fl5, hd]) (ev_some.2 (by simp [fl5]))
    | false =>
      obtain ⟨h1, h2, _⟩ := bval_spec h
      have hl0 := HV_len h1
      have hw := iWith_ev b b.f2 (by omega) (by omega)
      rw [wth_self h] at hw
      exact ev_bf rfl (ev_bind hw (ev_bind (iAnswer_ev h s) (ev_some.2 (by simp [fl5, fl]))))
theorem sLine_ev (b : Battle) (s : List UInt8) (hs : s.length ≤ 2000000) : Ev (fun k => spec_BattleLine.f k b s) (lineV b s) := by
  refine ev_succ (fun k => spec_BattleLine.f_eq k _ _) (ev_bind (sBV_ev b) ?_)
  unfold lineV
  cases h : bvalR b with
  | false => exact ev_nt rfl (ev_some.2 (by simp [emptyB]))
  | true =>
    obtain ⟨h1, h2, h3, _⟩ := bval_spec h
    have hv := bval_now h
    have hb := heads_bd hv
    have hl := left_bd b
    have hw := sWith_ev b b.f2 h1 h3 (by omega)
    rw [wth_self h] at hw
    refine ev_nf rfl (ev_bind hw (ev_bind (specReadA_ev s hs) (ev_bind (sHO_ev _) (ev_bind (sBL_ev b) ?_))))
    cases hr : (readA s).2 with
    | true =>
      refine ev_bt rfl (ev_bind (sDo_ev b _) ?_)
      cases hd : (doV b (readA s).1).2 with
      | false => exact ev_nt rfl (ev_some.2 (by simp))
      | true => exact ev_nf rfl (ev_some.2 (by simp))
    | false =>
      refine ev_bf rfl ?_
      rw [if_pos rfl, if_neg (by simp)]
      unfold answerV
      by_cases c1 : s = [104, 121, 100, 114, 97]
      · rw [if_pos c1]; exact ev_dt c1 (ev_bind (sHText_ev _) (ev_some.2 rfl))
      rw [if_neg c1]; refine ev_df c1 ?_
      have j2 : s ≠ [108, 101, 102, 116] → ¬ (s = [100, 101, 97, 100] ∧ b.f3.length = 1) → Ev (fun k => spec_BattleLine.j2 k s (⟨([] : List Int), 0, ([] : List Int), ([] : List Int)⟩ : Battle) b) (b, if s = [100, 101, 97, 100] then (if b.f3.length = 1 then [121, 101, 115] else [110, 111]) else [119, 104, 97, 116]) := by
        intro _ hn
        refine ev_succ (fun k => spec_BattleLine.j2_eq k _ _ _) ?_
        by_cases c6 : s = [100, 101, 97, 100]
        · rw [if_pos c6, if_neg (fun q => hn ⟨c6, q⟩)]; exact ev_dt c6 (ev_some.2 rfl)
        · rw [if_neg c6]; exact ev_df c6 (ev_some.2 rfl)
      have j1 : (s = [108, 101, 102, 116] → ¬ leftR b < 0) → Ev (fun k => spec_BattleLine.j1 k s b (⟨([] : List Int), 0, ([] : List Int), ([] : List Int)⟩ : Battle) b (leftR b)) (b, if s = [108, 101, 102, 116] then (if leftR b < 0 then [109, 97, 110, 121] else Lib.itoa (leftR b)) else if s = [100, 101, 97, 100] then (if b.f3.length = 1 then [121, 101, 115] else [110, 111]) else [119, 104, 97, 116]) := by
        intro hn
        refine ev_succ (fun k => spec_BattleLine.j1_eq k _ _ _ _ _) ?_
        by_cases c5 : s = [108, 101, 102, 116]
        · have hneg := hn c5
          rw [if_pos c5, if_neg hneg]; exact ev_dt c5 (ev_bind (numN_ev (by omega) (by omega)) (ev_some.2 rfl))
        rw [if_neg c5]; refine ev_df c5 ?_
        by_cases c6 : s = [100, 101, 97, 100]
        · refine ev_dt c6 ?_
          by_cases h1 : b.f3.length = 1
          · rw [if_pos c6, if_pos h1]; exact ev_dt (by omega) (ev_some.2 rfl)
          · exact ev_df (by omega) (j2 c5 (fun q => h1 q.2))
        · exact ev_df c6 (j2 c5 (fun q => c6 q.1))
      have j0 : (s = [111, 114, 100, 105, 110, 97, 108] → (hordV b.f3).2 = true) → Ev (fun k => spec_BattleLine.j0 k s b (⟨([] : List Int), 0, ([] : List Int), ([] : List Int)⟩ : Battle) b (hordV b.f3).1 (leftR b)) (b, if s = [111, 114, 100, 105, 110, 97, 108] then (if (hordV b.f3).2 = true then oX (hord (ht b.f3)) else [110, 111, 110, 101]) else if s = [104, 101, 97, 100, 115] then Lib.itoa (headsR b.f3) else if s = [99, 117, 116, 115] then Lib.itoa (b.f2.length : Int) else if s = [108, 101, 102, 116] then (if leftR b < 0 then [109, 97, 110, 121] else Lib.itoa (leftR b)) else if s = [100, 101, 97, 100] then (if b.f3.length = 1 then [121, 101, 115] else [110, 111]) else [119, 104, 97, 116]) := by
        intro hn
        refine ev_succ (fun k => spec_BattleLine.j0_eq k _ _ _ _ _ _) ?_
        by_cases c2 : s = [111, 114, 100, 105, 110, 97, 108]
        · have ho := hn c2
          obtain ⟨_, f2, f3⟩ := hordV_fit ho
          rw [if_pos c2, if_pos ho, f3]
          exact ev_dt c2 (ev_bind (sOT_ev f2) (ev_some.2 rfl))
        rw [if_neg c2]; refine ev_df c2 ?_
        by_cases c3 : s = [104, 101, 97, 100, 115]
        · rw [if_pos c3]; exact ev_dt c3 (ev_bind (sHeads_ev _) (ev_bind (numN_ev hb.1 (by omega)) (ev_some.2 rfl)))
        rw [if_neg c3]; refine ev_df c3 ?_
        by_cases c4 : s = [99, 117, 116, 115]
        · rw [if_pos c4]; exact ev_dt c4 (ev_bind (numN_ev (by omega) (by omega)) (ev_some.2 rfl))
        rw [if_neg c4]; refine ev_df c4 ?_
        by_cases c5 : s = [108, 101, 102, 116]
        · refine ev_dt c5 ?_
          by_cases hneg : leftR b < 0
          · rw [if_pos c5, if_pos hneg]; exact ev_dt hneg (ev_some.2 rfl)
          · exact ev_df hneg (j1 (fun _ => hneg))
        · exact ev_df c5 (j1 (fun q => absurd q c5))
      by_cases c2 : s = [111, 114, 100, 105, 110, 97, 108]
      · refine ev_dt c2 ?_
        cases ho : (hordV b.f3).2 with
        | false => rw [if_pos c2, if_neg (by simp)]; exact ev_nt rfl (ev_some.2 rfl)
        | true =>
          have := j0 (fun _ => ho)
          rw [ho] at this
          exact ev_nf rfl this
      · exact ev_df c2 (j0 (fun q => absurd q c2))
theorem line_valid {b : Battle} (h : bvalR b = true) (s : List UInt8) : bvalR (lineV b s).1 = true := by
  unfold lineV
  rw [if_pos h]
  split
  · exact doV_valid h _
  · exact h
theorem itoa_some {n : Int} (h : 0 ≤ n) : Lib.itoa n ≠ [] := by
  obtain ⟨m, rfl⟩ := Int.eq_ofNat_of_zero_le h
  exact itoa_ne m
theorem oX_ne {x : List Term} (h : vL x) : oX x ≠ [] := by
  cases x with
  | nil => rw [oX_nil]; simp
  | cons t x =>
    rw [vL_cons] at h
    rw [oX_cons]
    have := oP_ne h.1.1
    simp [this]
theorem answer_ne {b : Battle} (h : bvalR b = true) (s : List UInt8) : answerV b s ≠ [] := by
  have hv := bval_now h
  have hb := heads_bd hv
  unfold answerV
  split
  · exact htxtV_ne hv
  split
  · split
    · rename_i ho; exact oX_ne (hordV_fit ho).2.1.v
    · simp
  split
  · exact itoa_some hb.1
  split
  · exact itoa_some (by omega)
  split
  · split
    · simp
    · exact itoa_some (by omega)
  split
  · split <;> simp
  · simp
theorem line_ne {b : Battle} (h : bvalR b = true) (s : List UInt8) : (lineV b s).2 ≠ [] := by
  unfold lineV
  rw [if_pos h]
  split
  · simp only; split <;> simp
  · exact answer_ne h s
/-! Lines to a battle, one after the other, both sides. -/
noncomputable def sayL : List (List UInt8) → Battle → List (List UInt8) → Battle × List (List UInt8)
  | [], b, acc => (b, acc)
  | s :: r, b, acc => sayL r (lineV b s).1 (acc ++ [(lineV b s).2])
noncomputable def sayV (b : Battle) (l : List (List UInt8)) : Battle × List (List UInt8) := if bvalR b = true ∧ l.length ≤ 40 then sayL l b [] else (emptyB, [])
theorem sayL_acc : ∀ (l : List (List UInt8)) (b : Battle) (acc : List (List UInt8)), sayL l b acc = ((sayL l b []).1, acc ++ (sayL l b []).2)
  | [], b, acc => by simp [sayL]
  | s :: r, b, acc => by
    rw [sayL, sayL, sayL_acc r _ (acc ++ _), sayL_acc r _ ([] ++ _)]
    simp
theorem sayL_app : ∀ (l m : List (List UInt8)) (b : Battle), sayL (l ++ m) b [] = ((sayL m (sayL l b []).1 []).1, (sayL l b []).2 ++ (sayL m (sayL l b []).1 []).2)
  | [], m, b => by simp [sayL]
  | s :: r, m, b => by
    rw [List.cons_append, sayL, sayL, sayL_acc (r ++ m), sayL_acc r, sayL_app r m]
    simp
theorem sayL_ok : ∀ (l : List (List UInt8)) (b : Battle), bvalR b = true → bvalR (sayL l b []).1 = true ∧ (∀ t ∈ (sayL l b []).2, t ≠ []) ∧ (sayL l b []).2.length = l.length
  | [], b, h => ⟨h, by simp [sayL], rfl⟩
  | s :: r, b, h => by
    rw [sayL, sayL_acc]
    obtain ⟨h1, h2, h3⟩ := sayL_ok r _ (line_valid h s)
    refine ⟨h1, fun t ht => ?_, by simp [h3]⟩
    simp only [List.nil_append, List.cons_append, List.mem_cons] at ht
    rcases ht with rfl | ht
    · exact line_ne h s
    · exact h2 t ht
theorem tget {l : List (List UInt8)} {i : Nat} (h : i < l.length) : l.getD (i : Int).toNat ([] : List UInt8) = l[i] := hget_at h _
theorem iSay_ev (b : Battle) (l : List (List UInt8)) (hl : ∀ s ∈ l, s.length ≤ 2000000) : Ev (fun k => impl_BattleSay.f k b l) (fl5 (sayV b l)) := by
  refine ev_succ (fun k => impl_BattleSay.f_eq k _ _) (ev_bind (iBV_ev b) ?_)
  unfold sayV
  cases h : bvalR b with
  | false => exact ev_nt rfl (ev_some.2 (by simp [emptyB, fl5]))
  | true =>
    refine ev_nf rfl ?_
    by_cases h4 : l.length ≤ 40
    · rw [if_pos ⟨rfl, h4⟩]
      obtain ⟨h1, h2, _⟩ := bval_spec h
      have hl0 := HV_len h1
      have hw := iWith_ev b b.f2 (by omega) (by omega)
      rw [wth_self h] at hw
      refine ev_df (by omega) (ev_bind hw ?_)
      have loop : ∀ (d i : Nat) (x : Battle) (acc : List (List UInt8)), i + d = l.length → acc.length ≤ i → Ev (fun k => impl_BattleSay.l0 k x.f0 x.f1 x.f2 x.f3 ([] : List Int) 0 ([] : List Int) ([] : List Int) acc l (l.length : Int) (i : Int)) (fl5 (sayL (l.drop i) x acc)) := by
        intro d
        induction d with
        | zero =>
          intro i x acc hi ha
          refine ev_succ (fun k => impl_BattleSay.l0_eq k _ _ _ _ _ _ _ _ _ _ _ _) (ev_df (by omega) (ev_some.2 ?_))
          rw [List.drop_eq_nil_of_le (by omega)]; rfl
        | succ d ih =>
          intro i x acc hi ha
          have hil : i < l.length := by omega
          refine ev_succ (fun k => impl_BattleSay.l0_eq k _ _ _ _ _ _ _ _ _ _ _ _) (ev_dt (by omega) (ev_gd (by omega) ?_))
          rw [tget hil, w_succ (by omega), List.drop_eq_getElem_cons hil, sayL]
          exact ev_bind (iLine_ev x _ (hl _ (List.getElem_mem hil))) (ev_gd (by rw [limE]; simp; omega) (ih (i + 1) _ _ (by omega) (by simp; omega)))
      exact loop l.length 0 b [] (by omega) (by simp)
    · rw [if_neg (fun q => h4 q.2)]
      exact ev_dt (by omega) (ev_some.2 rfl)
theorem sSay_ev (b : Battle) (l : List (List UInt8)) (hl : ∀ s ∈ l, s.length ≤ 2000000) : Ev (fun k => spec_BattleSay.f k b l) (sayV b l) := by
  refine ev_succ (fun k => spec_BattleSay.f_eq k _ _) (ev_bind (sBV_ev b) ?_)
  unfold sayV
  cases h : bvalR b with
  | false => exact ev_nt rfl (ev_some.2 (by simp [emptyB]))
  | true =>
    refine ev_nf rfl ?_
    by_cases h4 : l.length ≤ 40
    · rw [if_pos ⟨rfl, h4⟩]
      obtain ⟨h1, h2, h3, _⟩ := bval_spec h
      have hw := sWith_ev b b.f2 h1 h3 (by omega)
      rw [wth_self h] at hw
      refine ev_df (by omega) (ev_bind hw ?_)
      have loop : ∀ (d i : Nat) (x : Battle) (acc : List (List UInt8)), i + d = l.length → acc.length ≤ i → Ev (fun k => spec_BattleSay.l0 k l (⟨([] : List Int), 0, ([] : List Int), ([] : List Int)⟩ : Battle) acc x (i : Int)) (sayL (l.drop i) x acc) := by
        intro d
        induction d with
        | zero =>
          intro i x acc hi ha
          refine ev_succ (fun k => spec_BattleSay.l0_eq k _ _ _ _ _) (ev_df (by omega) (ev_some.2 ?_))
          rw [List.drop_eq_nil_of_le (by omega)]; rfl
        | succ d ih =>
          intro i x acc hi ha
          have hil : i < l.length := by omega
          refine ev_succ (fun k => spec_BattleSay.l0_eq k _ _ _ _ _) (ev_dt (by omega) (ev_gd (by omega) ?_))
          rw [tget hil, w_succ (by omega), List.drop_eq_getElem_cons hil, sayL]
          exact ev_bind (sLine_ev x _ (hl _ (List.getElem_mem hil))) (ev_gd (by rw [limE]; simp; omega) (ih (i + 1) _ _ (by omega) (by simp; omega)))
      exact loop l.length 0 b [] (by omega) (by simp)
    · rw [if_neg (fun q => h4 q.2)]
      exact ev_dt (by omega) (ev_some.2 rfl)
/-! Rows of texts: copied, sized, held against each other, marked. -/
theorem sget {l : List (List UInt8)} {i : Nat} (h : i < l.length) : l.getD (i : Int).toNat ([] : List UInt8) = l[i] := by
  rw [Int.toNat_natCast, List.getD_eq_getElem?_getD, List.getElem?_eq_getElem h]
  rfl
theorem szStringS_ev (a : List (List UInt8)) (n : Int) (h0 : 0 ≤ n) (h1 : n ≤ 1048576) (hl : a.length ≤ maxLen) (hr : ∀ r ∈ a, r.length ≤ maxLen) : EvP (fun k => laws_szStringS.f k a n) (fun r => r ≤ 1048576 ∧ (0 ≤ r → a.length ≤ 1048576 ∧ ∀ r ∈ a, r.length ≤ 1048576)) := by
  have hm : maxLen ≤ 9223372036854775807 := by decide
  refine evp_succ (fun k => laws_szStringS.f_eq k _ _) ?_
  rw [w64 (by omega) (by omega)]
  refine evp_d (fun h => evp_some ⟨by omega, fun h => by omega⟩) (fun hge => ?_)
  have loop : ∀ (d i : Nat) (n : Int), i + d = a.length → 0 ≤ n → n ≤ 1048576 → (∀ r ∈ a.take i, r.length ≤ 1048576) → EvP (fun k => laws_szStringS.l0 k a n (i : Int)) (fun r => r ≤ 1048576 ∧ (0 ≤ r → a.length ≤ 1048576 ∧ ∀ r ∈ a, r.length ≤ 1048576)) := by
    intro d
    induction d with
    | zero =>
      intro i n hi h0 h1 hall
      rw [List.take_of_length_le (by omega)] at hall
      exact evp_succ (fun k => laws_szStringS.l0_eq k _ _ _) (evp_d (fun h => absurd h (by omega)) (fun _ => evp_some ⟨h1, fun _ => ⟨by omega, hall⟩⟩))
    | succ d ih =>
      intro i n hi h0 h1 hall
      have hlt : i < a.length := by omega
      have hri := hr _ (List.getElem_mem hlt)
      refine evp_succ (fun k => laws_szStringS.l0_eq k _ _ _) (evp_d (fun _ => evp_gd (by omega) ?_) (fun h => absurd (by omega) h))
      rw [sget hlt, w_succ (by omega), w64 (by omega) (by omega)]
      refine evp_d (fun h => evp_some ⟨by omega, fun h => by omega⟩) (fun hr => ih (i + 1) _ (by omega) (by omega) (by omega) (fun x hx => ?_))
      rw [← List.take_append_getElem hlt] at hx
      rcases List.mem_append.1 hx with hx | hx
      · exact hall x hx
      · rw [List.mem_singleton.1 hx]; omega
  exact loop a.length 0 _ (by omega) (by omega) (by omega) (by simp)
theorem toStringS_ev (a : List (List UInt8)) (hl : a.length ≤ 1048576) : Ev (fun k => laws_toStringS.f k a) a := by
  have loop : ∀ d i : Nat, i + d = a.length → Ev (fun k => laws_toStringS.l0 k a (a.take i ++ List.replicate d []) (i : Int)) a := by
    intro d
    induction d with
    | zero =>
      intro i hi
      refine ev_succ (fun k => laws_toStringS.l0_eq k _ _ _) (ev_df (by omega) (ev_some.2 ?_))
      rw [List.take_of_length_le (by omega)]; simp
    | succ d ih =>
      intro i hi
      have hlt : i < a.length := by omega
      have hlen : (a.take i ++ List.replicate (d + 1) ([] : List UInt8)).length = a.length := by rw [List.length_append, List.length_take, List.length_replicate]; omega
      refine ev_succ (fun k => laws_toStringS.l0_eq k _ _ _) (ev_dt (by omega) (ev_gd (by omega) (ev_gd (by rw [hlen]; omega) (ev_gd (by rw [hlen]; omega) ?_))))
      rw [sget hlt, w_succ (by omega)]
      have e : (a.take i ++ List.replicate (d + 1) ([] : List UInt8)).set (i : Int).toNat a[i] = a.take (i + 1) ++ List.replicate d [] := by
        rw [Int.toNat_natCast, List.set_append_right _ _ (by rw [List.length_take]; omega), List.length_take, show i - min i a.length = 0 by omega, List.replicate_succ, List.set_cons_zero, ← List.take_append_getElem hlt, List.append_assoc]
        rfl
      rw [e]
      exact ih (i + 1) (by omega)
  have := loop a.length 0 (by omega)
  refine ev_succ (fun k => laws_toStringS.f_eq k a) (ev_gd ⟨by omega, by rw [Int.toNat_natCast, limE]; omega, rfl⟩ ?_)
  rw [Int.toNat_natCast]
  simpa using this
theorem eqStringS_self (l : List (List UInt8)) (hl : l.length < 9223372036854775807) : Ev (fun k => laws_eqStringS.f k l l) true := by
  have loop : ∀ d i : Nat, i + d = l.length → Ev (fun k => laws_eqStringS.l0 k l l (i : Int)) true := by
    intro d
    induction d with
    | zero => intro i hi; exact ev_succ (fun k => laws_eqStringS.l0_eq k _ _ _) (ev_df (by omega) (ev_some.2 rfl))
    | succ d ih =>
      intro i hi
      refine ev_succ (fun k => laws_eqStringS.l0_eq k _ _ _) (ev_dt (by omega) (ev_gd (by omega) (ev_gd (by omega) (ev_nf (by simp) ?_))))
      rw [w_succ (by omega)]
      exact ih (i + 1) (by omega)
  exact ev_succ (fun k => laws_eqStringS.f_eq k _ _) (ev_nf (by simp) (loop l.length 0 (by omega)))
theorem markText_ex (c : Int) (h0 : 1 ≤ c) (h1 : c ≤ 1000000000) : EvP (fun k => laws_markText.f k c) (fun _ => True) := by
  refine evp_succ (fun k => laws_markText.f_eq k _) (evp_d (fun h => absurd h (by omega)) (fun _ => ?_))
  have loop : ∀ (n : Nat) (x : Int) (acc : List UInt8), 0 ≤ x → x.toNat ≤ n → x ≤ 1000000000 → acc.length + n ≤ 2000000000 → EvP (fun k => laws_markText.l0 k x acc) (fun _ => True) := by
    intro n
    induction n with
    | zero =>
      intro x acc hx hn _ ha
      exact evp_succ (fun k => laws_markText.l0_eq k _ _) (evp_d (fun h => absurd h (by omega)) (fun _ => evp_gd (by rw [limE]; simp only [List.length_cons, List.length_nil]; omega) (evp_some trivial)))
    | succ n ih =>
      intro x acc hx hn hb ha
      refine evp_succ (fun k => laws_markText.l0_eq k _ _) (evp_d (fun hp => evp_gd (by rw [limE]; simp only [List.length_map, List.length_cons, List.length_nil]; omega) ?_) (fun _ => evp_gd (by rw [limE]; simp only [List.length_cons, List.length_nil]; omega) (evp_some trivial)))
      have e : wr (x.tdiv 10) = x / 10 := by rw [Int.tdiv_eq_ediv_of_nonneg hx, w64 (by omega) (by omega)]
      rw [e]
      exact ih _ _ (by omega) (by omega) (by omega) (by simp only [List.length_append, List.length_map, List.length_cons, List.length_nil]; omega)
  exact loop c.toNat c [] (by omega) (Nat.le_refl _) h1 (by simp; omega)
/-- The text of a mark. -/
noncomputable def mtx (c : Int) : List UInt8 := if h : 1 ≤ c ∧ c ≤ 1000000000 then (markText_ex c h.1 h.2).choose else []
theorem mtx_ev {c : Int} (h0 : 1 ≤ c) (h1 : c ≤ 1000000000) : Ev (fun k => laws_markText.f k c) (mtx c) := by
  unfold mtx
  rw [dif_pos ⟨h0, h1⟩]
  exact (markText_ex c h0 h1).choose_spec.1
noncomputable def mkS (c : Int) (n : Nat) : List (List UInt8) := (List.range n).map fun (i : Nat) => mtx (c + (i : Int))
theorem mkS_len (c : Int) (n : Nat) : (mkS c n).length = n := by simp [mkS]
theorem mkS_succ (c : Int) (n : Nat) : mkS c (n + 1) = mkS c n ++ [mtx (c + (n : Int))] := by
  unfold mkS
  rw [List.range_succ, List.map_append]
  rfl
theorem mkS_at {c : Int} {n i : Nat} (h : i < n) : (mkS c n)[i]'(by rw [mkS_len]; exact h) = mtx (c + (i : Int)) := by simp [mkS]
theorem markSS_ev (c : Int) (h0 : 1 ≤ c) (h1 : c ≤ 900000000) (l : List (List UInt8)) (hl : l.length ≤ 10000000) : Ev (fun k => laws_markStringS.f k l c) (c + (l.length : Int), mkS c l.length) := by
  have loop : ∀ d i : Nat, i + d = l.length → Ev (fun k => laws_markStringS.l0 k (mkS c i ++ l.drop i) (c + (i : Int)) (i : Int)) (c + (l.length : Int), mkS c l.length) := by
    intro d
    induction d with
    | zero =>
      intro i hi
      have hlen : (mkS c i ++ l.drop i).length = l.length := by rw [List.length_append, mkS_len, List.length_drop]; omega
      refine ev_succ (fun k => laws_markStringS.l0_eq k _ _ _) (ev_df (by rw [hlen]; omega) (ev_some.2 ?_))
      rw [List.drop_eq_nil_of_le (by omega), List.append_nil, show i = l.length by omega]
    | succ d ih =>
      intro i hi
      have hlen : (mkS c i ++ l.drop i).length = l.length := by rw [List.length_append, mkS_len, List.length_drop]; omega
      have hlt : i < l.length := by omega
      refine ev_succ (fun k => laws_markStringS.l0_eq k _ _ _) (ev_dt (by rw [hlen]; omega) (ev_bind (mtx_ev (by omega) (by omega)) (ev_gd (by rw [hlen]; omega) (ev_gd (by rw [hlen]; omega) ?_))))
      have e : (mkS c i ++ l.drop i).set (i : Int).toNat (mtx (c + (i : Int))) = mkS c (i + 1) ++ l.drop (i + 1) := by
        rw [Int.toNat_natCast, List.set_append_right _ _ (by rw [mkS_len]; omega), mkS_len, Nat.sub_self, List.drop_eq_getElem_cons hlt, List.set_cons_zero, mkS_succ, List.append_assoc]
        rfl
      rw [e, w_succ (by omega), w64 (by omega) (by omega)]
      have := ih (i + 1) (by omega)
      rw [show c + (i : Int) + 1 = c + ((i + 1 : Nat) : Int) by omega]
      exact this
  have := loop l.length 0 (by omega)
  refine ev_succ (fun k => laws_markStringS.f_eq k _ _) ?_
  simpa [mkS] using this
theorem heldSS_ev (c : Int) (h0 : 1 ≤ c) (h1 : c ≤ 900000000) (n : Nat) (hn : n ≤ 10000000) : Ev (fun k => laws_heldStringS.f k (mkS c n) c) (c + (n : Int)) := by
  have loop : ∀ d i : Nat, i + d = n → Ev (fun k => laws_heldStringS.l0 k (mkS c n) (c + (i : Int)) (i : Int)) (c + (n : Int)) := by
    intro d
    induction d with
    | zero =>
      intro i hi
      refine ev_succ (fun k => laws_heldStringS.l0_eq k _ _ _) (ev_df (by rw [mkS_len]; omega) (ev_some.2 (by omega)))
    | succ d ih =>
      intro i hi
      have hlt : i < (mkS c n).length := by rw [mkS_len]; omega
      refine ev_succ (fun k => laws_heldStringS.l0_eq k _ _ _) (ev_dt (by omega) (ev_gd (by omega) (ev_bind (mtx_ev (by omega) (by omega)) (ev_nf ?_ ?_))))
      · rw [sget hlt, mkS_at (by omega)]; exact decide_eq_true rfl
      · rw [w_succ (by omega), w64 (by omega) (by omega), show c + (i : Int) + 1 = c + ((i + 1 : Nat) : Int) by omega]
        exact ih (i + 1) (by omega)
  have := loop n 0 (by omega)
  refine ev_succ (fun k => laws_heldStringS.f_eq k _ _) ?_
  simpa using this
/-! What a battle that follows from its cuts keeps. -/
theorem bs_empty : BS emptyB := ⟨by simp [emptyB], by simp [emptyB], by simp [emptyB]⟩
theorem bs_do (b : Battle) (a : TwoInts) : BS (doV b a).1 := by
  by_cases h : bvalR b = true
  · exact bs_valid (doV_valid h a)
  · unfold doV
    rw [if_neg h]
    exact bs_empty
theorem acts_valid : ∀ (l : List TwoInts) (b : Battle) (n : Int), bvalR b = true → bvalR (actsV l b n).1 = true
  | [], b, n, h => h
  | a :: l, b, n, h => by
    rw [actsV]
    split
    · exact acts_valid l _ _ (doV_valid h a)
    · exact acts_valid l b n h
theorem bs_run (b : Battle) (l : List TwoInts) : BS (brunV b l).1 := by
  unfold brunV
  split
  · rename_i h
    rw [wth_self h.1]
    exact bs_valid (acts_valid _ _ _ h.1)
  · exact bs_empty
theorem heldB_ev (b : Battle) (c : Int) (h : BS b) : Ev (fun k => laws_heldBattle.f k (⟨mk0 b, c, mk2 b, mk3 b⟩ : Battle) 1) (tot b) := by
  obtain ⟨h0, h2, h3⟩ := h
  refine ev_succ (fun k => laws_heldBattle.f_eq k _ _) (ev_bind (heldc_ev 1 (by omega) (by omega) _ (by omega)) (ev_df (by omega) (ev_bind (heldc_ev _ (by omega) (by omega) _ (by omega)) (ev_df (by omega) (ev_bind (heldc_ev _ (by omega) (by omega) _ (by omega)) (ev_df (by omega) (ev_some.2 rfl)))))))
/-! The law. -/
theorem bs_line {b : Battle} (hb : BS b) (s : List UInt8) : BS (lineV b s).1 := by
  unfold lineV
  split
  · split
    · exact bs_do b _
    · exact hb
  · exact bs_empty
theorem bs_sayL : ∀ (l : List (List UInt8)) (b : Battle) (acc : List (List UInt8)), BS b → BS (sayL l b acc).1 ∧ (sayL l b acc).2.length = acc.length + l.length
  | [], b, acc, h => ⟨h, by simp [sayL]⟩
  | s :: r, b, acc, h => by
    rw [sayL]
    obtain ⟨h1, h2⟩ := bs_sayL r _ (acc ++ [(lineV b s).2]) (bs_line h s)
    exact ⟨h1, by rw [h2]; simp; omega⟩
theorem bs_say {b : Battle} (h : BS b) (l : List (List UInt8)) : BS (sayV b l).1 ∧ (sayV b l).2.length ≤ 40 := by
  unfold sayV
  split
  · rename_i hc
    obtain ⟨h1, h2⟩ := bs_sayL l b [] h
    exact ⟨h1, by rw [h2]; simp; omega⟩
  · exact ⟨bs_empty, by simp⟩
theorem pure_FnExactBattleSay (b : Battle) (l : List (List UInt8)) (h : BatOk b) (h2 : l.length ≤ maxLen) (h3 : ∀ s ∈ l, s.length ≤ maxLen) : ∃ k, laws_FnExactBattleSay.f k b l = some true := by
  refine evp_true (evp_succ (fun k => laws_FnExactBattleSay.f_eq k b l) (evp_bind (szB_ev b h) (fun r hr => evp_d (fun _ => evp_some rfl) (fun h0 => evp_bind (szStringS_ev l r (by omega) hr.1 h2 h3) (fun q hq => evp_d (fun _ => evp_some rfl) (fun h1 => ?_))))))
  have hl := hr.2 (by omega)
  obtain ⟨hll, hls⟩ := hq.2 (by omega)
  obtain ⟨hb, hn⟩ := bs_say hl l
  have hp := tot_pos (sayV b l).1
  have hp0 := tot_pos b
  have hb0 : tot b ≤ 100000000 := by unfold tot; obtain ⟨q1, q2, q3⟩ := hl; omega
  have hb1 : tot (sayV b l).1 ≤ 100000000 := by unfold tot; obtain ⟨q1, q2, q3⟩ := hb; omega
  refine Ev.p ?_ rfl
  have tb := toB_ev b hl
  have ts := toStringS_ev l hll
  have hs2 : ∀ s ∈ l, s.length ≤ 2000000 := fun s hs => by have := hls s hs; omega
  have sl := sSay_ev b l hs2
  have il := iSay_ev b l hs2
  have es := eqStringS_self (sayV b l).2 (by omega)
  have el := eqStringS_self l (by omega)
  have mk := markSS_ev (tot (sayV b l).1) hp (by omega) (sayV b l).2 (by omega)
  have hd := heldSS_ev (tot (sayV b l).1) hp (by omega) (sayV b l).2.length (by omega)
  refine ev_bind tb (ev_bind ts (ev_bind sl (ev_bind tb (ev_bind ts (ev_bind il (ev_bind (eqBB _ hb) (ev_nf rfl (ev_bind es (ev_nf rfl (ev_bind tb (ev_bind (eqBB b hl) (ev_nf rfl (ev_bind ts (ev_bind el (ev_nf rfl ?_)))))))))))))))
  refine ev_bind (markB_ev b hl) (ev_bind (markSS_ev (tot b) hp0 (by omega) l (by omega)) (ev_df (by simp only; omega) (ev_bind (eqBB _ hb) (ev_nf rfl (ev_bind es (ev_nf rfl ?_))))))
  refine ev_bind (markB_ev _ hb) (ev_bind mk (ev_bind (heldB_ev _ _ hb) (ev_df (by omega) (ev_bind hd (ev_df (by omega) (ev_nf (by simp) (ev_bind tb (ev_bind ts (ev_bind il (ev_bind (eqBB _ hb) (ev_nf rfl (ev_bind es (ev_nf rfl (ev_bind (heldB_ev _ _ hb) (ev_df (by omega) (ev_bind hd (ev_df (by omega) (ev_nf (by simp) (ev_some.2 rfl)))))))))))))))))))
end Go.Proofs.YtkgpkalclblhbaaGreatDoor.EPure
