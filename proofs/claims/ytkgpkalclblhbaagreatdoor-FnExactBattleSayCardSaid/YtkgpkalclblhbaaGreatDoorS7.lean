/-
  One operation: addresses and what is read there.
-/
import Derived.Test.YtkgpkalclblhbaaGreatDoorS6
namespace Go.Proofs.YtkgpkalclblhbaaGreatDoor.Eng
open Go Go.RowKit
set_option linter.unusedVariables false
set_option linter.unusedSimpArgs false

variable {P : Program} {T : Tab} {N : Nat} {w0 : World} {Mv : Mvp} {Gb Gs : BS} {hd : Nat → Value} {fp : Nat → BS} {s : St} {a : Act} {w w' : World}

theorem fields_get : ∀ {fs : List Field} {off : Nat} {t : Ty} (h : FieldsOk T fs off t) (f : Nat) {u : Ty}, fieldT t f = some u → ∃ fl, fs[f]? = some fl ∧ fl.offset = off + fieldOff t f ∧ ∃ u', T.ty fl.type = some u' ∧ Same u' u
  | [], off, t, h, f, u, hu => by
    cases t <;> simp_all [FieldsOk, fieldT]
  | fl :: fs, off, t, h, f, u, hu => by
    cases t with
    | pair x y =>
      simp only [FieldsOk] at h
      cases f with
      | zero => simp [fieldT] at hu; subst hu; exact ⟨fl, by simp, by simpa [fieldOff] using h.1, h.2.1⟩
      | succ f =>
        simp only [fieldT] at hu
        obtain ⟨fl', h1, h2, h3⟩ := fields_get h.2.2 f hu
        exact ⟨fl', by simpa using h1, by simp only [fieldOff]; omega, h3⟩
    | _ => simp_all [FieldsOk]
theorem rec_facts (hT : TabOk P T) {tid : Nat} {t : Ty} (h : T.ty tid = some t) (hr : isRec t = true) : ∃ fs, P.underlying tid = some (.struct fs) ∧ FieldsOk T fs.toList 0 (under t) ∧ isAggT t = true := by
  obtain ⟨d, h1, h2⟩ := (hT.1 _ _ h).desc
  unfold DescOk at h2
  split at h2
  · simp [isRec] at hr
  · simp [isRec] at hr
  · simp [isRec] at hr
  · simp [isRec] at hr
  · simp [isRec] at hr
  · simp [isRec] at hr
  · exact ⟨_, h1, h2.2.1, h2.1⟩
  · cases h2
theorem field_rep {G : BS} : ∀ {t : Ty} {x : Den t} {cs : List Value} (h : RepC w G t x cs) (f : Nat) {r : PV}, fieldD t x f = some r → fieldT t f = some r.t ∧ RepC w G r.t r.x ((cs.drop (fieldOff t f)).take (sz r.t))
  | .pair t u, (x, y), cs, h, 0, r, hr => by
    simp only [fieldD] at hr; cases hr
    obtain ⟨c, d, rfl, h1, h2⟩ := h.of_pair
    have := h1.len
    exact ⟨rfl, by simpa [fieldOff, ← this] using h1⟩
  | .pair t u, (x, y), cs, h, f + 1, r, hr => by
    simp only [fieldD] at hr
    obtain ⟨c, d, rfl, h1, h2⟩ := h.of_pair
    obtain ⟨h3, h4⟩ := field_rep h2 f hr
    exact ⟨h3, by simp only [fieldOff]; rw [← h1.len, drop_past]; exact h4⟩
  | .int _, _, _, _, _, _, hr => by simp [fieldD] at hr
  | .bool, _, _, _, _, _, hr => by simp [fieldD] at hr
  | .str, _, _, _, _, _, hr => by simp [fieldD] at hr
  | .unit, _, _, _, _, _, hr => by simp [fieldD] at hr
  | .sl _, _, _, _, _, _, hr => by simp [fieldD] at hr
  | .ap _, _, _, _, _, _, hr => by simp [fieldD] at hr
theorem path_rep {G : BS} : ∀ (path : List Nat) {t : Ty} {x : Den t} {cs : List Value} (h : RepC w G t x cs) {r : PV}, pathD t x path = some r → pathT t path = some r.t ∧ RepC w G r.t r.x ((cs.drop (pathOff t path)).take (sz r.t))
  | [], t, x, cs, h, r, hr => by
    simp only [pathD] at hr; cases hr
    refine ⟨rfl, ?_⟩
    simp only [pathOff, List.drop_zero]
    rw [List.take_of_length_le (by rw [h.len]; exact Nat.le_refl _)]
    exact h
  | f :: fs, t, x, cs, h, r, hr => by
    simp only [pathD] at hr
    split at hr
    · rename_i p hp
      obtain ⟨h1, h2⟩ := field_rep h.un f hp
      obtain ⟨h3, h4⟩ := path_rep fs h2 hr
      refine ⟨by simp only [pathT, h1]; exact h3, ?_⟩
      simp only [pathOff, h1, Option.getD_some]
      have e : (((cs.drop (fieldOff (under t) f)).take (sz p.t)).drop (pathOff p.t fs)).take (sz r.t) = (cs.drop (fieldOff (under t) f + pathOff p.t fs)).take (sz r.t) := by
        have hl := h4.len
        rw [List.drop_take, List.take_take, List.drop_drop]
        rw [List.length_take, List.drop_take, List.length_take] at hl
        congr 1
        omega
      rw [e] at h4
      exact h4
    · cases hr

/-- A variable is read. -/
theorem run_load (hT : TabOk P T) {tid : Nat} {t : Ty} (ht : T.ty tid = some t) {G : BS} {x : Den t} {cs : List Value} {b o : Nat} (h : RepC w G t x cs) (hc : w.rangeAt b o cs) :
    ∃ v, (Instr.loadAt tid (.pointer (some ⟨b, o, none⟩))).run P w = .ok v w ∧ VRep w G t x v := by
  obtain ⟨d, hu, hdd⟩ := (hT.1 _ _ ht).desc
  obtain ⟨i, hi, hs, _, _⟩ := (hT.1 _ _ ht).info
  have plain : ∀ v, cs = [v] → isAggT t = false → (∀ fs, d ≠ .struct fs) → (∀ n e, d ≠ .array n e) → ∃ v, (Instr.loadAt tid (.pointer (some ⟨b, o, none⟩))).run P w = .ok v w ∧ VRep w G t x v := by
    intro v hv ha h1 h2
    subst hv
    refine ⟨v, ?_, ⟨_, h, by simp [ha]⟩⟩
    have h0 := hc 0 v (by simp)
    simp only [Nat.add_zero] at h0
    have hagg : (isAgg tid).run P w = .ok false w := by
      unfold isAgg
      rw [Sem.run_bind, run_underlying hu w]
      cases d <;> simp_all
    simp only [Instr.loadAt, Instr.sureAddr, loadVar, Sem.run_bind, Sem.run_pure, Result.andThen_ok, hagg, Bool.false_eq_true, if_false, Sem.run_ite, Go.run_load, h0]
  unfold DescOk at hdd
  split at hdd
  · exact plain _ h.of_int rfl (fun _ h => by cases h) (fun _ _ h => by cases h)
  · exact plain _ h.of_bool rfl (fun _ h => by cases h) (fun _ _ h => by cases h)
  · obtain ⟨q, _, hq⟩ := h.of_str
    exact plain _ hq rfl (fun _ h => by cases h) (fun _ _ h => by cases h)
  · rcases h.of_sl with ⟨_, _, hq⟩ | ⟨_, _, _, _, _, _, _, _, hq⟩
    · exact plain _ hq rfl (fun _ h => by cases h) (fun _ _ h => by cases h)
    · exact plain _ hq rfl (fun _ h => by cases h) (fun _ _ h => by cases h)
  · refine ⟨_, run_loadAt_mid w b o tid cs _ hc hu rfl (by rw [hi]; simp [hs, h.len]), ⟨_, h, by simp [isAggT]⟩⟩
  · rcases h.of_err with ⟨_, hq⟩ | ⟨_, _, _, hq⟩
    · exact plain _ hq rfl (fun _ h => by cases h) (fun _ _ h => by cases h)
    · exact plain _ hq rfl (fun _ h => by cases h) (fun _ _ h => by cases h)
  · refine ⟨_, run_loadAt_mid w b o tid cs _ hc hu rfl (by rw [hi]; simp [hs, h.len]), ⟨_, h, by simp [hdd.1]⟩⟩
  · cases hdd
theorem rangeAt_sub {b o : Nat} {cs : List Value} (h : w.rangeAt b o cs) (n k : Nat) : w.rangeAt b (o + n) ((cs.drop n).take k) := rangeAt_take (rangeAt_drop h n) k

theorem ok_toTy (hT : TabOk P T) (h : Inv N w0 Mv Gb Gs hd fp s a w) {o : Oper} {tid : Nat} {x : Operand} {tn : Bool} {p : PV} {c : Bool} {z : Slot} {m : List (Nat × Ob)} (ho : o.op = .load tid x) (hp : toTy T tid tn p = some (true, z, m))
    {b ofs : Nat} {cs : List Value} (hr : RepC w (Gof Gs Gb tn) p.t p.x cs) (hc : w.rangeAt b ofs cs) (he : a.eval x = .pointer (some ⟨b, ofs, none⟩)) : OpOk P N w0 Mv Gb s a w o z m := by
  unfold toTy at hp
  split at hp
  · rename_i t ht
    split at hp
    · rename_i y hy
      refine ok_pureE h hp (fun _ => ?_)
      obtain ⟨v, h1, h2⟩ := run_load hT ht (hr.to hy) hc
      exact ⟨v, by simp only [execOp, ho, he, Sem.run_bind, h1, Result.andThen_ok, Sem.run_pure], h2⟩
    · cases hp
  · cases hp
theorem run_load1 (hT : TabOk P T) {tid : Nat} {u : Ty} (ht : T.ty tid = some u) (ha : isAggT u = false) {b o : Nat} {v : Value} (hc : w.cell? ⟨b, o, none⟩ = some v) :
    (Instr.loadAt tid (.pointer (some ⟨b, o, none⟩))).run P w = .ok v w := by
  obtain ⟨d, hu, hdd⟩ := (hT.1 _ _ ht).desc
  have hagg : (isAgg tid).run P w = .ok false w := by
    unfold isAgg
    rw [Sem.run_bind, run_underlying hu w]
    unfold DescOk at hdd
    split at hdd <;> first | (simp; done) | (simp [isAggT] at ha; done) | (rw [hdd.1] at ha; cases ha) | cases hdd
  simp only [Instr.loadAt, Instr.sureAddr, loadVar, Sem.run_bind, Sem.run_pure, Result.andThen_ok, hagg, Bool.false_eq_true, if_false, Sem.run_ite, Go.run_load, hc]
theorem ones_off : ∀ {t : Ty} {f : Nat}, ones t = true → (fieldT t f).isSome = true → fieldOff t f = f
  | .pair a b, 0, _, _ => rfl
  | .pair a b, f + 1, h, hf => by
    simp only [ones, Bool.and_eq_true, beq_iff_eq] at h
    simp only [fieldOff, ones_off h.2 (by simpa [fieldT] using hf), h.1.1]
    omega
  | .int _, _, h, _ => by simp [ones] at h
  | .bool, _, h, _ => by simp [ones] at h
  | .str, _, h, _ => by simp [ones] at h
  | .unit, f, _, hf => by simp [fieldT] at hf
  | .sl _, _, h, _ => by simp [ones] at h
  | .ap _, _, h, _ => by simp [ones] at h
theorem ones_lt : ∀ {t : Ty} {f : Nat}, ones t = true → (fieldT t f).isSome = true → f < sz t
  | .pair a b, 0, h, _ => by simp only [ones, Bool.and_eq_true, beq_iff_eq] at h; simp only [sz]; omega
  | .pair a b, f + 1, h, hf => by
    simp only [ones, Bool.and_eq_true, beq_iff_eq] at h
    have := ones_lt h.2 (f := f) (by simpa [fieldT] using hf)
    simp only [sz]; omega
  | .int _, _, h, _ => by simp [ones] at h
  | .bool, _, h, _ => by simp [ones] at h
  | .str, _, h, _ => by simp [ones] at h
  | .unit, f, _, hf => by simp [fieldT] at hf
  | .sl _, _, h, _ => by simp [ones] at h
  | .ap _, _, h, _ => by simp [ones] at h
theorem path1_off {t : Ty} {f : Nat} (h : ones (under t) = true) (hf : (fieldT (under t) f).isSome = true) : pathOff t [f] = f := by
  simp only [pathOff, ones_off h hf, Nat.add_zero]
theorem ok_bxLoad (hT : TabOk P T) (h : Inv N w0 Mv Gb Gs hd fp s a w) {o : Oper} {tid : Nat} {x : Operand} {k : Nat} {path : List Nat} {t : Ty} {l : List Slot} {z : Slot} {m : List (Nat × Ob)} (ho : o.op = .load tid x)
    (hz : rd s none x = .ptr k path) (hob : s.ob.getD k .none = .bx t l) (hop : bxLoad T tid path t l = some (true, z, m)) : OpOk P N w0 Mv Gb s a w o z m := by
  have hx := rd_ok h none x
  rw [hz] at hx
  simp only [SlotR] at hx
  obtain ⟨b, ofs, e1, e2⟩ := hx.2 t (by rw [hob]; rfl)
  have h0 := h.obs k
  rw [hob] at h0
  obtain ⟨b', o', vs, g1, g2, g3, g4, g5, g6, g7⟩ := h0
  rw [e1] at g1
  cases g1
  unfold bxLoad at hop
  split at hop
  · split at hop
    · rename_i hc
      cases hop
      obtain ⟨fs, h1, h2, h3⟩ := rec_facts hT hc.1 hc.2.2
      obtain ⟨i, hi, hs, _⟩ := (hT.1 _ _ hc.1).info
      refine OpOk.of_put h (v := .agg vs.toArray) ?_ (by simp only [SlotR]; exact ⟨vs, rfl, g3, g4⟩)
      simp only [pathOff, Nat.add_zero] at e2
      have := run_loadAt_mid (P := P) w b ofs tid vs _ g5 h1 rfl (by rw [hi]; simp [hs, g6])
      simp only [execOp, ho, e2, Sem.run_bind, this, Result.andThen_ok, Sem.run_pure]
    · cases hop
  · rename_i f
    split at hop
    · rename_i u z' hu hl
      split at hop
      · rename_i hc
        cases hop
        obtain ⟨v, h1, h2⟩ := slotsR_get g4 f hl
        refine OpOk.of_put h (v := v) ?_ h2
        rw [path1_off hc.2.2.1 hc.2.2.2] at e2
        have := run_load1 (P := P) hT hu hc.2.1 (g5 f v h1)
        simp only [execOp, ho, e2, Sem.run_bind, this, Result.andThen_ok, Sem.run_pure]
      · cases hop
    · cases hop
  · cases hop
/-- A row that nobody writes any more, read out of a row of such rows. -/
theorem ok_sdLoad (hT : TabOk P T) (h : Inv N w0 Mv Gb Gs hd fp s a w) {o : Oper} {tid : Nat} {x : Operand} {k i : Nat} {xs : List (List Int)} {z : Slot} {m : List (Nat × Ob)} (ho : o.op = .load tid x) (hz : rd s none x = .eptr k i []) (hob : s.ob.getD k .none = .sd xs)
    (hop : sdLoad T tid i xs [] = some (true, z, m)) : OpOk P N w0 Mv Gb s a w o z m := by
  unfold sdLoad at hop
  split at hop
  · rename_i hty
    cases hop
    have hx := rd_ok h none x
    rw [hz] at hx
    simp only [SlotR] at hx
    obtain ⟨b, ofs, n, cap, e1, e2, e3⟩ := hx.2 _ (by rw [hob]; rfl)
    have h0 := h.obs k
    rw [hob] at h0
    rcases h0 with ⟨g1, _⟩ | ⟨b', o', cap', cs, g1, g2, g3, g4, g5, g6, g7, g8⟩
    · rw [e1] at g1; cases g1
    · rw [e1] at g1
      cases g1
      have h1 := g4.nth i e2
      simp only [sz, Nat.mul_one, pathOff, Nat.add_zero] at h1 e3
      have hl := g4.len
      simp only [sz, Nat.mul_one] at hl
      have hi : i < cs.length := by omega
      have hu : (cs.drop i).take 1 = [cs[i]] := by rw [List.drop_eq_getElem_cons hi]; rfl
      rw [hu] at h1
      have hcell := g7 i cs[i] (List.getElem?_eq_getElem hi)
      refine OpOk.of_put h (v := cs[i]) ?_ ?_
      · have := run_load1 (P := P) hT hty rfl hcell
        simp only [execOp, ho, e3, Sem.run_bind, this, Result.andThen_ok, Sem.run_pure]
      · simp only [SlotR]
        refine ⟨⟨[cs[i]], ?_, by simp [isAggT]⟩, g5 _ (List.getElem_mem hi)⟩
        have e : zeroD (.sl (.int .i64)) = ([] : List Int) := rfl
        rw [e] at h1
        exact h1
  · cases hop
theorem ok_load (hT : TabOk P T) (h : Inv N w0 Mv Gb Gs hd fp s a w) {own : List Nat} {o : Oper} {tid : Nat} {x : Operand} {fr : Ob} {z : Slot} {m : List (Nat × Ob)} (ho : o.op = .load tid x)
    (hop : opC T own o (views T s o) fr = some (true, z, m)) : OpOk P N w0 Mv Gb s a w o z m := by
  simp only [opC, ho, views, opnds, List.map] at hop
  have hx := rd_ok h none x
  have elem : ∀ (k i : Nat) (path : List Nat) (tn : Bool) (e : Ty) (xs : List (Den e)) (B : BS) (r : PV), rd s none x = .eptr k i path → obShape (s.ob.getD k .none) = some (false, e) → RowR w (Gof Gs Gb tn) B e xs (hd k) → pathD e (xs.getD i (zeroD e)) path = some r → toTy T tid tn r = some (true, z, m) → OpOk P N w0 Mv Gb s a w o z m := by
    intro k i path tn e xs B r hz hsh hrow hpath hty
    rw [hz] at hx
    simp only [SlotR] at hx
    obtain ⟨b, ofs, n, cap, e1, e2, e3⟩ := hx.2 e hsh
    rw [e1] at hrow
    rcases hrow with ⟨⟨_, h1⟩, _⟩ | ⟨b', o', cap', cs, g1, g2, g3, g4, g5⟩
    · cases h1; omega
    · cases g5
      have h1 := g3.nth i e2
      obtain ⟨h2, h3⟩ := path_rep path h1 hpath
      exact ok_toTy (c := true) hT h ho hty h3 (rangeAt_sub (rangeAt_sub g4 _ _) _ _) e3
  split at hop
  · rename_i k path t l hz hob
    simp only [view, viewZ] at hz hob
    rw [hz] at hob
    simp only [obOf, keyOf] at hob
    exact ok_bxLoad hT h ho hz hob hop
  · rename_i tn t y hz
    simp only [view, viewZ] at hz
    rw [hz] at hx
    simp only [SlotR] at hx
    obtain ⟨b, ofs, cs, e, h1, h2, h3⟩ := hx
    exact ok_toTy (c := true) hT h ho hop h1 h2 e
  · rename_i k path tn t y hz hob
    simp only [view, viewZ] at hz hob
    rw [hz] at hx hob
    simp only [obOf, keyOf] at hob
    simp only [SlotR] at hx
    obtain ⟨b, ofs, e1, e2⟩ := hx.2 t (by rw [hob]; rfl)
    have h0 := h.obs k
    rw [hob] at h0
    obtain ⟨b', o', cs, g1, g2, g3, g4, g5⟩ := h0
    rw [e1] at g1
    cases g1
    split at hop
    · rename_i r hr
      obtain ⟨h2, h3⟩ := path_rep path g3 hr
      exact ok_toTy (c := true) hT h ho hop h3 (rangeAt_sub g4 _ _) e2
    · cases hop
  · rename_i k i path tn nx e xs hz hob
    simp only [view, viewZ] at hz hob
    rw [hz] at hob
    simp only [obOf, keyOf] at hob
    have h0 := h.obs k
    rw [hob] at h0
    split at hop
    · rename_i r hr
      exact elem k i path tn e xs _ r hz (by rw [hob]; rfl) h0.1.row hr hop
    · cases hop
  · rename_i k i path tn nx e xs hz hob
    simp only [view, viewZ] at hz hob
    rw [hz] at hob
    simp only [obOf, keyOf] at hob
    have h0 := h.obs k
    rw [hob] at h0
    split at hop
    · rename_i r hr
      exact elem k i path tn e xs _ r hz (by rw [hob]; rfl) h0.1.row hr hop
    · cases hop
  · rename_i k i xs hz hob
    simp only [view, viewZ] at hz hob
    rw [hz] at hob
    simp only [obOf, keyOf] at hob
    exact ok_sdLoad hT h ho hz hob hop
  · rename_i k i xs hz hob
    simp only [view, viewZ] at hz hob
    rw [hz] at hob
    simp only [obOf, keyOf] at hob
    obtain ⟨Gs', hd', fp', h'⟩ := h.toSd hob
    have hlt : k < s.ob.length := ob_lt (by rw [hob]; rfl)
    unfold sdLoad at hop
    split at hop
    · rename_i hty
      cases hop
      have hr := ok_sdLoad hT h' (o := o) (tid := tid) (x := x) (k := k) (i := i) (xs := xs) (m := []) (z := .nw (xs.getD i [])) ho (by cases x <;> exact hz) (by simp only; rw [getD_set_self, if_pos hlt]) (by unfold sdLoad; rw [if_pos hty])
      exact hr
    · cases hop
  · cases hop

/-! ### Addresses -/
theorem run_indexAt {tid eid : Nat} {i : TypeInfo} (hu : P.underlying tid = some (.slice eid)) (hi : P.info? eid = some i) (b o n cap : Nat) (k : IntKind) (j : Int) (h1 : 0 ≤ j) (h2 : j < n) :
    (Instr.indexAt tid (.slice (some ⟨b, o, none⟩) n cap) (.int k j)).run P w = .ok (.pointer (some ⟨b, o + j.toNat * i.size, none⟩)) w := by
  simp [Instr.indexAt, asIntOf, run_underlying hu, sizeOf, typeInfo, hi, h1, h2, Addr.add_mid]
theorem elem_facts (hT : TabOk P T) {tid : Nat} {e : Ty} (h : rowT T tid = some e) : ∃ eid i, P.underlying tid = some (.slice eid) ∧ P.info? eid = some i ∧ i.size = sz e ∧ i.bytes ≤ 128 ∧ ∃ z, i.zero = some z ∧ z.cells.toList = zeroC e := by
  obtain ⟨eid, u, h1, h2, h3⟩ := rowT_facts hT h
  obtain ⟨i, g1, g2, g3, g4⟩ := (hT.1 _ _ h2).info
  refine ⟨eid, i, h1, g1, by rw [g2, h3.sz], g3, _, g4, ?_⟩
  have hz : (zeroV u).cells.toList = zeroC u := by
    unfold zeroV
    split
    · simp [Value.cells]
    · rename_i ha
      cases u with
      | ap j => match j with
        | 1 => rfl
        | 0 => simp [isAggT] at ha
        | 2 => simp [isAggT] at ha
        | 3 => simp [isAggT] at ha
        | 4 => simp [isAggT] at ha
        | 5 => simp [isAggT] at ha
        | _ + 6 => simp [isAggT] at ha
      | _ => first | rfl | simp [isAggT] at ha
  rw [hz]
  rcases h3 with rfl | rfl
  · rfl
  · cases e with
    | ap j => match j with
      | 0 => rfl
      | 1 => rfl
      | 2 => rfl
      | 3 => rfl
      | 4 => rfl
      | 5 => rfl
      | _ + 6 => rfl
    | _ => rfl
theorem ok_indexAddr (hT : TabOk P T) (h : Inv N w0 Mv Gb Gs hd fp s a w) {own : List Nat} {o : Oper} {tid : Nat} {x y : Operand} {fr : Ob} {z : Slot} {m : List (Nat × Ob)} (ho : o.op = .indexAddr tid x y)
    (hop : opC T own o (views T s o) fr = some (true, z, m)) : OpOk P N w0 Mv Gb s a w o z m := by
  simp only [opC, ho, views, opnds, List.map] at hop
  have hx := rd_ok h (T.ty tid) x
  split at hop
  · rename_i j hj
    obtain ⟨k, ej⟩ := view_int h _ hj
    simp only at ej
    split at hop
    · rename_i key tn nx e xs hz hob hown
      simp only [view, viewZ] at hz hob
      rw [hz] at hx hob
      simp only [obOf, keyOf] at hob
      split at hop
      · rename_i hrow
        simp only [Option.some.injEq, Prod.mk.injEq, decide_eq_true_eq] at hop
        obtain ⟨⟨j1, j2⟩, rfl, rfl⟩ := hop
        have h0 := h.obs key
        rw [hob] at h0
        simp only [SlotR] at hx
        obtain ⟨eid, i, hu, hi, hs, _⟩ := elem_facts hT hrow
        have hrw := h0.1.row
        rcases hrw with ⟨h1, h2⟩ | ⟨b, ofs, cap, cs, g1, g2, g3, g4, g5⟩
        · subst h2; simp at j2; omega
        · refine OpOk.of_put h (v := .pointer (some ⟨b, ofs + j.toNat * sz e, none⟩)) ?_ ?_
          · simp only [execOp, ho, hx.2, g5, ej, Sem.run_bind, run_indexAt hu hi b ofs xs.length cap k j j1 j2, Result.andThen_ok, Sem.run_pure, hs]
          · simp only [SlotR]
            refine ⟨by rw [hob]; rfl, fun e' he' => ?_⟩
            rw [hob] at he'
            simp only [obShape, Option.some.injEq, Prod.mk.injEq, true_and] at he'
            subst he'
            exact ⟨b, ofs, _, cap, g5, by omega, by simp [pathOff]⟩
      · cases hop
    · rename_i key tn e xs hz hob
      simp only [view, viewZ] at hz hob
      rw [hz] at hx hob
      simp only [obOf, keyOf] at hob
      split at hop
      · rename_i hrow
        simp only [Option.some.injEq, Prod.mk.injEq, decide_eq_true_eq] at hop
        obtain ⟨⟨j1, j2⟩, rfl, rfl⟩ := hop
        have h0 := h.obs key
        rw [hob] at h0
        simp only [SlotR] at hx
        obtain ⟨eid, i, hu, hi, hs, _⟩ := elem_facts hT hrow
        have hrw := OwnRow.row h0
        rcases hrw with ⟨h1, h2⟩ | ⟨b, ofs, cap, cs, g1, g2, g3, g4, g5⟩
        · subst h2; simp at j2; omega
        · refine OpOk.of_put h (v := .pointer (some ⟨b, ofs + j.toNat * sz e, none⟩)) ?_ ?_
          · simp only [execOp, ho, hx.2, g5, ej, Sem.run_bind, run_indexAt hu hi b ofs xs.length cap k j j1 j2, Result.andThen_ok, Sem.run_pure, hs]
          · simp only [SlotR]
            refine ⟨by rw [hob]; rfl, fun e' he' => ?_⟩
            rw [hob] at he'
            simp only [obShape, Option.some.injEq, Prod.mk.injEq, true_and] at he'
            subst he'
            exact ⟨b, ofs, _, cap, g5, by omega, by simp [pathOff]⟩
      · cases hop
    · rename_i key e xs hz hob
      simp only [view, viewZ] at hz hob
      rw [hz] at hx hob
      simp only [obOf, keyOf] at hob
      split at hop
      · rename_i hrow
        simp only [Option.some.injEq, Prod.mk.injEq, decide_eq_true_eq] at hop
        obtain ⟨⟨j1, j2⟩, rfl, rfl⟩ := hop
        have h0 := h.obs key
        rw [hob] at h0
        simp only [SlotR] at hx
        obtain ⟨eid, i, hu, hi, hs, _⟩ := elem_facts hT hrow
        have hrw := h0
        rcases hrw with ⟨h1, h2⟩ | ⟨G, b, ofs, cap, cs, g5, g1, g2, g3, g4, _⟩
        · subst h2; simp at j2; omega
        · refine OpOk.of_put h (v := .pointer (some ⟨b, ofs + j.toNat * sz e, none⟩)) ?_ ?_
          · simp only [execOp, ho, hx.2, g5, ej, Sem.run_bind, run_indexAt hu hi b ofs xs.length cap k j j1 j2, Result.andThen_ok, Sem.run_pure, hs]
          · simp only [SlotR]
            refine ⟨by rw [hob]; rfl, fun e' he' => ?_⟩
            rw [hob] at he'
            simp only [obShape, Option.some.injEq, Prod.mk.injEq, true_and] at he'
            subst he'
            exact ⟨b, ofs, _, cap, g5, by omega, by simp [pathOff]⟩
      · cases hop
    · rename_i key xs hz hob
      simp only [view, viewZ] at hz hob
      rw [hz] at hx hob
      simp only [obOf, keyOf] at hob
      split at hop
      · rename_i hrow
        simp only [Option.some.injEq, Prod.mk.injEq, decide_eq_true_eq] at hop
        obtain ⟨⟨j1, j2⟩, rfl, rfl⟩ := hop
        have h0 := h.obs key
        rw [hob] at h0
        simp only [SlotR] at hx
        obtain ⟨eid, i, hu, hi, hs, _⟩ := elem_facts hT hrow
        rcases h0 with ⟨h1, h2⟩ | ⟨b, ofs, cap, cs, g5, _⟩
        · subst h2; simp at j2; omega
        · refine OpOk.of_put h (v := .pointer (some ⟨b, ofs + j.toNat * sz (.sl (.int .i64)), none⟩)) ?_ ?_
          · simp only [execOp, ho, hx.2, g5, ej, Sem.run_bind, run_indexAt hu hi b ofs xs.length cap k j j1 j2, Result.andThen_ok, Sem.run_pure, hs]
          · simp only [SlotR]
            refine ⟨by rw [hob]; rfl, fun e' he' => ?_⟩
            rw [hob] at he'
            simp only [obShape, Option.some.injEq, Prod.mk.injEq, true_and] at he'
            subst he'
            exact ⟨b, ofs, _, cap, g5, by omega, by simp [pathOff]⟩
      · cases hop
    · rename_i hown _ _ _
      split at hop
      · rename_i tn e xs hp
        split at hop
        · rename_i hrow
          simp only [Option.some.injEq, Prod.mk.injEq, decide_eq_true_eq] at hop
          obtain ⟨⟨j1, j2⟩, rfl, rfl⟩ := hop
          obtain ⟨eid, i, hu, hi, hs, _⟩ := elem_facts hT hrow
          have hv := ((view_data h _ hp).2 hown).row
          simp only at hv
          rcases hv with ⟨h1, h2⟩ | ⟨b, ofs, cap, cs, g1, g2, g3, g4, g5⟩
          · subst h2; simp at j2; omega
          · refine OpOk.of_put h (v := .pointer (some ⟨b, ofs + j.toNat * sz e, none⟩)) ?_ ?_
            · simp only [execOp, ho, g5, ej, Sem.run_bind, run_indexAt hu hi b ofs xs.length cap k j j1 j2, Result.andThen_ok, Sem.run_pure, hs]
            · have hn := g3.nth j.toNat (by omega)
              have hr := rangeAt_sub g4 (j.toNat * sz e) (sz e)
              simp only [SlotR]
              exact ⟨b, _, _, rfl, hn, hr, g2⟩
        · cases hop
      · cases hop
    · cases hop
  · cases hop
end Go.Proofs.YtkgpkalclblhbaaGreatDoor.Eng
