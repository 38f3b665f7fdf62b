/-
  Rows of rows that nobody writes any more: made and appended.
-/
import Derived.Test.YtkgpkalclblhbaaGreatDoorS9d
namespace Go.Proofs.YtkgpkalclblhbaaGreatDoor.Eng
open Go Go.RowKit
set_option linter.unusedVariables false
set_option linter.unusedSimpArgs false

variable {P : Program} {T : Tab} {N : Nat} {w0 : World} {Mv : Mvp} {Gb Gs : BS} {hd : Nat → Value} {fp : Nat → BS} {s : St} {a : Act} {w w' : World}

/-- What a new row of such rows becomes. -/
theorem newSd_ok {d : Option Nat} {fr : Ob} {c : Bool} {x : List (List Int)} {m m' : List (Nat × Ob)} {z : Slot} (hn : newSd d fr c x m = some (true, z, m'))
    (hfr : freshOb s d = fr) (h : Inv N w0 Mv Gb Gs hd fp ⟨s.sl, modOb s.ob m⟩ a w) (hm : ∀ k, s.ob.getD k .gone = .none → (modOb s.ob m).getD k .gone = .none)
    {v : Value} {F : BS} (hF : ∀ b, F b → Free N Mv Gb Gs fp w b) (hr : SdR w (Gof Gs Gb false) hd x v F) :
    ∃ Gs' hd' fp', Inv N w0 Mv Gb Gs' hd' fp' (s.out d z m') (a.put d v) w := by
  unfold newSd at hn
  split at hn
  · rename_i d
    simp only [Option.some.injEq, Prod.mk.injEq] at hn
    obtain ⟨rfl, rfl, rfl⟩ := hn
    have hk : (modOb s.ob m).getD (4 * d) .gone = .none := hm _ (by simpa [freshOb] using hfr)
    have h1 := h.newKey (k := 4 * d) (v := v) (F := F) hk hF (ob := .sd x) rfl hr
    have h2 := h1.put (some d) (z := .ref (4 * d)) (v := v) (by
      simp only [SlotR]
      have hlt : 4 * d < (modOb s.ob m).length := by
        rcases Nat.lt_or_ge (4 * d) (modOb s.ob m).length with h | h
        · exact h
        · rw [List.getD_eq_getElem?_getD, List.getElem?_eq_none h] at hk; cases hk
      refine ⟨by rw [getD_set_self, if_pos hlt]; rfl, by simp⟩)
    exact ⟨_, _, _, h2⟩
  · cases hn
theorem newSd_true {d : Option Nat} {fr : Ob} {c : Bool} {x : List (List Int)} {m m' : List (Nat × Ob)} {z : Slot} (hn : newSd d fr c x m = some (true, z, m')) : c = true := by
  unfold newSd at hn
  split at hn
  · simp at hn; exact hn.1
  · cases hn
/-- One head tells what its row holds. -/
theorem rep_fun {G G' : BS} {x y : List Int} {u : Value} (h1 : RepC w G (.sl (.int .i64)) x [u]) (h2 : RepC w G' (.sl (.int .i64)) y [u]) : x = y := by
  have ints : ∀ {G : BS} {x : List Int} {cs : List Value}, RepL w G (.int .i64) x cs → cs = x.map (Value.int .i64) := by
    intro G x
    induction x with
    | nil => intro cs h; cases h; rfl
    | cons n x ih =>
      intro cs h
      cases h with
      | cons _ _ _ c d h1 h2 =>
        rw [ih h2, h1.of_int]
        rfl
  have inj : ∀ {x y : List Int}, x.map (Value.int .i64) = y.map (Value.int .i64) → x = y := by
    intro x
    induction x with
    | nil => intro y h; cases y with
      | nil => rfl
      | cons _ _ => simp at h
    | cons n x ih => intro y h; cases y with
      | nil => simp at h
      | cons m y => simp at h; rw [h.1, ih (by simpa using h.2)]
  rcases h1.of_sl with ⟨rfl, oa, e⟩ | ⟨b, o, cap, ds, a1, a2, a3, a4, e⟩
  · cases e
    rcases h2.of_sl with ⟨rfl, ob, e'⟩ | ⟨b', o', cap', ds', b1, b2, b3, b4, e'⟩
    · rfl
    · simp only [List.cons.injEq, and_true, Value.slice.injEq] at e'
      exact (List.eq_nil_of_length_eq_zero e'.2.1.symm).symm
  · cases e
    rcases h2.of_sl with ⟨rfl, ob, e'⟩ | ⟨b', o', cap', ds', b1, b2, b3, b4, e'⟩
    · simp only [List.cons.injEq, and_true, Value.slice.injEq] at e'
      exact List.eq_nil_of_length_eq_zero e'.2.1
    · simp only [List.cons.injEq, and_true, Value.slice.injEq, Option.some.injEq, Addr.mk.injEq] at e'
      obtain ⟨⟨rfl, rfl, _⟩, hl, _⟩ := e'
      have i1 := ints a3
      have i2 := ints b3
      have : ds = ds' := by
        apply List.ext_getElem?
        intro j
        by_cases hj : j < ds.length
        · have hj' : j < ds'.length := by rw [i1, i2] at *; simpa [hl] using hj
          have q1 := a4 j ds[j] (List.getElem?_eq_getElem hj)
          have q2 := b4 j ds'[j] (List.getElem?_eq_getElem hj')
          rw [q1] at q2
          rw [List.getElem?_eq_getElem hj, List.getElem?_eq_getElem hj', q2]
        · have hj' : ¬ j < ds'.length := by rw [i1, i2] at *; simpa [hl] using hj
          rw [List.getElem?_eq_none (by omega), List.getElem?_eq_none (by omega)]
      exact inj (i1.symm.trans (this.trans i2))
/-- Which row a head is of. -/
theorem rep_mem {G : BS} : ∀ {x : List (List Int)} {cs : List Value}, RepL w G (.sl (.int .i64)) x cs → ∀ u ∈ cs, ∃ r ∈ x, RepC w G (.sl (.int .i64)) r [u]
  | [], _, h, u, hu => by cases h; simp at hu
  | x :: xs, cs, h, u, hu => by
    cases h with
    | cons _ _ _ c d h1 h2 =>
      have hl := h1.len
      match c, hl with
      | [v], _ =>
        simp only [List.singleton_append, List.mem_cons] at hu
        rcases hu with rfl | hu
        · exact ⟨x, by simp, h1⟩
        · obtain ⟨r, hr, hr'⟩ := rep_mem h2 u hu
          exact ⟨r, by simp [hr], hr'⟩
theorem heads_apart {G G' : BS} {x y : List (List Int)} {cs ds : List Value} (hx : RepL w G (.sl (.int .i64)) x cs) (hy : RepL w G' (.sl (.int .i64)) y ds) (hap : apartR x y = true)
    (h1 : cs.Pairwise (fun u u' => u = u' → u = .slice none 0 0)) (h2 : ds.Pairwise (fun u u' => u = u' → u = .slice none 0 0)) : (cs ++ ds).Pairwise (fun u u' => u = u' → u = .slice none 0 0) := by
  refine List.pairwise_append.2 ⟨h1, h2, fun u hu u' hu' e => ?_⟩
  subst e
  obtain ⟨r, hr, r1⟩ := rep_mem hx u hu
  obtain ⟨r', hr', r2⟩ := rep_mem hy u hu'
  have e := rep_fun r1 r2
  subst e
  unfold apartR at hap
  rw [List.all_eq_true] at hap
  have := hap r hr'
  rw [List.all_eq_true] at this
  have := this r hr
  simp at this
/-- Rows of rows that nobody writes any more, one behind the other. -/
theorem append_sd (hT : TabOk P T) {t : TypeId} (ht : rowT T t = some (.sl (.int .i64))) {x y : List (List Int)} {vx vy : Value} (ty : TypeId) {Bx By : BS} (hx : SdR w (Gof Gs Gb false) hd x vx Bx) (hy : SdR w (Gof Gs Gb false) hd y vy By)
    (hB : ∀ b, Bx b → Free N Mv Gb Gs fp w b) (hB' : ∀ b, By b → Free N Mv Gb Gs fp w b) (hlim : x.length + y.length < lim) (hap : apartR x y = true) (hI : Inv N w0 Mv Gb Gs hd fp s a w) :
    ∃ v w1 F, (Builtin.append_ #[t, t] ty #[vx, vy]).run P w = .ok v w1 ∧ Inv N w0 Mv Gb Gs hd fp s a w1 ∧ (∀ b, F b → Free N Mv Gb Gs fp w1 b) ∧ SdR w1 (Gof Gs Gb false) hd (x ++ y) v F := by
  obtain ⟨eid, i, hu, hi, hs, hby, zz, hz, hzc⟩ := elem_facts hT ht
  have hlim' : x.length + y.length < 1099511627776 := hlim
  have hzs : zz.cells.size = sz (.sl (.int .i64)) := by
    have := congrArg List.length hzc
    have hzl := (zeroRep w Gs (.sl (.int .i64))).len
    simp only [Array.length_toList] at this
    omega
  have gs_lt : ∀ c, Gof Gs Gb false c → Gs c := fun c hc => hc.elim id (fun q => by cases q.1)
  rcases hy with ⟨rfl, rfl⟩ | ⟨b', o', cap', ds, rfl, k2, k3, k5, k8, k9, k6, k7⟩
  · -- nothing is appended
    have hfirst := run_firstCells_none (P := P) w i.size 0 0 0
    rcases hx with ⟨rfl, rfl⟩ | ⟨b, o, cap, cs, rfl, h2, h3, h5, h8, h9, h6, h7⟩
    · exact ⟨_, w, fun _ => False, run_append_nilnil w t ty eid i hu hi _ rfl hfirst, hI, fun _ h => h.elim, .inl ⟨rfl, rfl⟩⟩
    · have hr := run_append_fit (P := P) w t ty eid i hu hi b o x.length cap 0 (.slice none 0 0) rfl [] (by simpa using hfirst) (by simp) (by omega) (fun j hj => by omega) (fun v hv => by simp at hv)
      rw [show w.setCells b (o + x.length * i.size) [] = w from rfl] at hr
      refine ⟨_, _, Bx, hr, hI, hB, .inr ⟨b, o, cap, cs, by simp, by simpa using h2, h3, by simpa using h5, h8, h9, h6, h7⟩⟩
  · have hdl := k5.len
    have hone := k5.one
    have hfirst := run_firstCells_some (P := P) w i.size y.length ⟨b', o', none⟩ y.length cap' ds (by rw [hs]; exact hdl) (fun j v hv => by rw [Addr.add_mid]; exact k6 j v hv)
    rcases hx with ⟨rfl, rfl⟩ | ⟨b, o, cap, cs, rfl, h2, h3, h5, h8, h9, h6, h7⟩
    · by_cases hy0 : y = []
      · subst hy0
        have hds : ds = [] := List.eq_nil_of_length_eq_zero (by simpa using hdl)
        subst hds
        exact ⟨_, w, fun _ => False, run_append_nilnil w t ty eid i hu hi _ rfl hfirst, hI, fun _ h => h.elim, .inl ⟨rfl, rfl⟩⟩
      · have hpos : 0 < y.length := by cases y with | nil => exact absurd rfl hy0 | cons _ _ => simp
        have hb48 : y.length * i.bytes ≤ 281474976710656 := by
          have : y.length * i.bytes ≤ 1099511627776 * 128 := Nat.mul_le_mul (by omega) hby
          omega
        have hr := run_append_nil (P := P) w t ty eid i zz hu hi hz ⟨b', o', none⟩ y.length cap' ds (by rw [hs]; exact hdl) (fun j v hv => by rw [Addr.add_mid]; exact k6 j v hv) hpos (by omega) hb48
        have hcap := le_grownCap w y.length 0 eid
        refine ⟨_, _, fun c => c = w.heap.size, hr, (hI.drew.alloc _).1, ?_, .inr ⟨w.heap.size, 0, grownCap w y.length 0 eid, ds, by simp, by simpa using hcap, rfl, ?_, k8, k9, rangeAt_new w.drew _ _ ds ⟨_, by simp; rfl⟩, there_new w.drew _ _ _ ?_⟩⟩
        · rintro c rfl
          exact (hI.drew.alloc _).2
        · exact k5.move (fun _ h => h) (fun c hc => Below.heap_alloc w.drew _ _ (hI.gs c (gs_lt c hc)).1)
        · simp only [Array.size_append, zeroCells_size, List.size_toArray, hdl, hzs]
          rw [← Nat.add_mul]
          exact Nat.mul_le_mul_right _ (by omega)
    · have hb := hB b h3
      have hAll : ∀ u ∈ cs ++ ds, RgN hd u := fun u hu => (List.mem_append.1 hu).elim (h8 u) (k8 u)
      have hPw := heads_apart h5 k5 hap h9 k9
      by_cases hfit : x.length + y.length ≤ cap
      · have hth : w.there b (o + x.length * i.size) (y.length * i.size) := by
          rw [hs]
          intro j hj
          have := h7 (x.length * sz (.sl (.int .i64)) + j) (by
            have : (x.length + y.length) * sz (.sl (.int .i64)) ≤ cap * sz (.sl (.int .i64)) := Nat.mul_le_mul_right _ hfit
            rw [Nat.add_mul] at this
            omega)
          rwa [show o + x.length * sz (.sl (.int .i64)) + j = o + (x.length * sz (.sl (.int .i64)) + j) by omega]
        have hr := run_append_fit (P := P) w t ty eid i hu hi b o x.length cap y.length _ rfl ds hfirst (by rw [hs]; exact hdl) hfit hth hone
        have hw := hI.write hb (o + x.length * i.size) ds
        have hmv : ∀ c, c ≠ b → (w.setCells b (o + x.length * i.size) ds).heap[c]? = w.heap[c]? := fun c hc => setCells_block b ds _ w c hc
        have gb : ∀ c, Gof Gs Gb false c → c ≠ b := fun c hc e => by subst e; exact hb.gs (gs_lt _ hc)
        refine ⟨_, _, fun c => c = b, hr, hw, ?_, .inr ⟨b, o, cap, cs ++ ds, by simp, by simpa using hfit, rfl, ?_, hAll, hPw, ?_, ?_⟩⟩
        · rintro c rfl
          exact ⟨by rw [setCells_size]; exact hb.lt, hb.mine, hb.gs, hb.gb, hb.fp⟩
        · exact (h5.append k5).move (fun _ h => h) (fun c hc => hmv c (gb c hc))
        · intro j v hv
          have hcl := h5.len
          by_cases hj : j < cs.length
          · rw [List.getElem?_append_left hj] at hv
            rw [World.cell?_setCells_out b ds (o + x.length * i.size) w _ (fun _ _ => Or.inl (by simp only []; rw [hs]; omega))]
            exact h6 j v hv
          · rw [List.getElem?_append_right (by omega)] at hv
            obtain ⟨hj2, hv2⟩ := List.getElem?_eq_some_iff.1 hv
            have := World.cell?_setCells_in b ds (o + x.length * i.size) w (fun q hq => (hth q (by rw [hs]; omega)).1) (j - cs.length) hj2
            rw [show o + x.length * i.size + (j - cs.length) = o + j by rw [hs]; omega] at this
            rw [this, hv2]
        · exact there_set h7 (by rw [hdl, ← hs]; exact hth)
      · have hy0 : y ≠ [] := by rintro rfl; simp at hfit; omega
        have hfits := Go.growslice_fits (need := x.length + y.length) (old := cap) (bytes := i.bytes) (by omega) (by
          have : (x.length + y.length) * i.bytes ≤ 1099511627776 * 128 := Nat.mul_le_mul (by omega) hby
          omega)
        have hr := run_append_grow (P := P) w t ty eid i zz hu hi hz ⟨b, o, none⟩ x.length cap cs (by rw [hs]; exact h5.len) (fun j v hv => by rw [Addr.add_mid]; exact h6 j v hv)
          ⟨b', o', none⟩ y.length cap' ds (by rw [hs]; exact hdl) (fun j v hv => by rw [Addr.add_mid]; exact k6 j v hv) (by omega) (by omega) hfits
        have hcap := le_grownCap w (x.length + y.length) cap eid
        refine ⟨_, _, fun c => c = w.heap.size, hr, (hI.drew.alloc _).1, ?_, .inr ⟨w.heap.size, 0, grownCap w (x.length + y.length) cap eid, cs ++ ds, by simp, by simpa using hcap, rfl, ?_, hAll, hPw, rangeAt_new w.drew _ _ _ ⟨_, by simp; rfl⟩, there_new w.drew _ _ _ ?_⟩⟩
        · rintro c rfl
          exact (hI.drew.alloc _).2
        · exact (h5.append k5).move (fun _ h => h) (fun c hc => Below.heap_alloc w.drew _ _ (hI.gs c (gs_lt c hc)).1)
        · have h1 := h5.len
          simp only [Array.size_append, zeroCells_size, List.size_toArray, h1, hdl, hzs]
          rw [← Nat.add_mul, ← Nat.add_mul]
          exact Nat.mul_le_mul_right _ (by omega)
/-- Seen as a row of rows that nobody writes any more. -/
theorem asSd (h : Inv N w0 Mv Gb Gs hd fp s a w) {k : Nat} {x : List (List Int)} (hb : obSd (s.ob.getD k .none) = some x) : ∃ Gs' hd' fp', Inv N w0 Mv Gb Gs' hd' fp' ⟨s.sl, s.ob.set k (.sd x)⟩ a w := by
  unfold obSd at hb
  split at hb
  · rename_i x' ho
    cases hb
    rw [ob_same ho (by simp)]
    exact ⟨_, _, _, h⟩
  · rename_i x' ho
    cases hb
    exact h.toSd ho
  · cases hb
end Go.Proofs.YtkgpkalclblhbaaGreatDoor.Eng
