/-
  One operation: parts of records and of rows.
-/
import Derived.Test.YtkgpkalclblhbaaGreatDoorS7
namespace Go.Proofs.YtkgpkalclblhbaaGreatDoor.Eng
open Go Go.RowKit
set_option linter.unusedVariables false
set_option linter.unusedSimpArgs false

variable {P : Program} {T : Tab} {N : Nat} {w0 : World} {Mv : Mvp} {Gb Gs : BS} {hd : Nat → Value} {fp : Nat → BS} {s : St} {a : Act} {w w' : World}

theorem pathT_snoc : ∀ (path : List Nat) (t u v : Ty) (f : Nat), pathT t path = some u → fieldT (under u) f = some v → pathOff t (path ++ [f]) = pathOff t path + fieldOff (under u) f
  | [], t, u, v, f, h, h2 => by simp only [pathT] at h; cases h; simp [pathOff]
  | g :: gs, t, u, v, f, h, h2 => by
    simp only [pathT] at h
    split at h
    · rename_i q hq
      have := pathT_snoc gs q u v f h h2
      simp only [List.cons_append, pathOff, hq, Option.getD_some, this]
      omega
    · cases h
theorem run_fieldAt (hT : TabOk P T) {tid : Nat} {t u : Ty} (ht : T.ty tid = some t) (hr : isRec t = true) {f : Nat} (hf : fieldT (under t) f = some u) (hu : sz0 u = false) (b o : Nat) :
    (Instr.fieldAt tid (.pointer (some ⟨b, o, none⟩)) f).run P w = .ok (.pointer (some ⟨b, o + fieldOff (under t) f, none⟩)) w := by
  obtain ⟨fs, h1, h2, _⟩ := rec_facts hT ht hr
  obtain ⟨fl, h3, h4, u', h5, h6⟩ := fields_get h2 f hf
  obtain ⟨i, h7, h8, _⟩ := (hT.1 _ _ h5).info
  have h9 : i.size ≠ 0 := by rw [h8, h6.sz]; simpa [sz0] using hu
  have h3' : fs[f]? = some fl := by simpa using h3
  simp [Instr.fieldAt, run_underlying h1, h3', Instr.sureAddr, fieldPlace, sizeOf, typeInfo, h7, h9, Addr.add_mid, h4]
theorem ok_fieldAddr (hT : TabOk P T) (h : Inv N w0 Mv Gb Gs hd fp s a w) {own : List Nat} {o : Oper} {tid f : Nat} {x : Operand} {fr : Ob} {z : Slot} {m : List (Nat × Ob)} (ho : o.op = .fieldAddr tid x f)
    (hop : opC T own o (views T s o) fr = some (true, z, m)) : OpOk P N w0 Mv Gb s a w o z m := by
  simp only [opC, ho, views, opnds, List.map] at hop
  have hx := rd_ok h none x
  have fin : ∀ {t u : Ty} {b ofs : Nat}, T.ty tid = some t → isRec t = true → fieldT (under t) f = some u → sz0 u = false → a.eval x = .pointer (some ⟨b, ofs, none⟩) →
      (execOp a.eval o).run P w = .ok (.value (.pointer (some ⟨b, ofs + fieldOff (under t) f, none⟩))) w := by
    intro t u b ofs h1 h2 h3 h4 e
    simp only [execOp, ho, e, Sem.run_bind, run_fieldAt hT h1 h2 h3 h4, Result.andThen_ok, Sem.run_pure]
  split at hop
  · rename_i tn t y hz
    simp only [view, viewZ] at hz
    rw [hz] at hx
    simp only [SlotR] at hx
    obtain ⟨b, ofs, cs, e, h1, h2, h3⟩ := hx
    split at hop
    · rename_i hc
      split at hop
      · rename_i r hr
        split at hop
        · cases hop
        · rename_i h0
          cases hop
          obtain ⟨g1, g2⟩ := field_rep h1.un f hr
          refine OpOk.of_put h (fin hc.1 hc.2 g1 (by simpa using h0) e) ?_
          simp only [SlotR]
          exact ⟨b, _, _, rfl, g2, rangeAt_sub h2 _ _, h3⟩
      · cases hop
    · cases hop
  · rename_i k path hz
    simp only [view, viewZ] at hz hop
    rw [hz] at hx hop
    simp only [obOf, keyOf] at hop
    split at hop
    · rename_i tn t y hob
      split at hop
      · rename_i u hu
        split at hop
        · rename_i hc
          cases hop
          obtain ⟨c1, c2, c3⟩ := hc
          simp only [fieldOkT] at c3
          split at c3
          · rename_i v hv
            have hx' := hx
            simp only [SlotR] at hx'
            obtain ⟨b, ofs, e1, e2⟩ := hx'.2 t (by rw [hob]; rfl)
            refine OpOk.of_put h (fin c1 c2 hv (by simpa using c3) e2) ?_
            simp only [SlotR]
            refine ⟨hx'.1, fun t' ht' => ?_⟩
            rw [hob] at ht'
            simp only [obShape, Option.some.injEq, Prod.mk.injEq, true_and] at ht'
            subst ht'
            exact ⟨b, ofs, e1, by rw [pathT_snoc path t u v f hu hv, Nat.add_assoc]⟩
          · cases c3
        · cases hop
      · cases hop
    · rename_i t y hob
      split at hop
      · rename_i u hu
        split at hop
        · rename_i hc
          cases hop
          obtain ⟨c1, c2, c3⟩ := hc
          simp only [fieldOkT] at c3
          split at c3
          · rename_i v hv
            have hx' := hx
            simp only [SlotR] at hx'
            obtain ⟨b, ofs, e1, e2⟩ := hx'.2 t (by rw [hob]; rfl)
            refine OpOk.of_put h (fin c1 c2 hv (by simpa using c3) e2) ?_
            simp only [SlotR]
            refine ⟨hx'.1, fun t' ht' => ?_⟩
            rw [hob] at ht'
            simp only [obShape, Option.some.injEq, Prod.mk.injEq, true_and] at ht'
            subst ht'
            exact ⟨b, ofs, e1, by rw [pathT_snoc path t u v f hu hv, Nat.add_assoc]⟩
          · cases c3
        · cases hop
      · cases hop
    · cases hop
  · rename_i k i path hz
    simp only [view, viewZ] at hz hop
    rw [hz] at hx hop
    simp only [obOf, keyOf] at hop
    split at hop
    · rename_i e he
      have hsh : obShape (s.ob.getD k .none) = some (false, e) := by
        unfold obShapeT at he
        split at he <;> first | (cases he; done) | (rename_i hh; cases he; rw [hh]; rfl)
      split at hop
      · rename_i u hu
        split at hop
        · rename_i hc
          cases hop
          obtain ⟨c1, c2, c3⟩ := hc
          simp only [fieldOkT] at c3
          split at c3
          · rename_i v hv
            have hx' := hx
            simp only [SlotR] at hx'
            obtain ⟨b, ofs, n, cap, e1, e2, e3⟩ := hx'.2 e hsh
            refine OpOk.of_put h (fin c1 c2 hv (by simpa using c3) e3) ?_
            simp only [SlotR]
            refine ⟨hx'.1, fun t' ht' => ?_⟩
            rw [hsh] at ht'
            simp only [Option.some.injEq, Prod.mk.injEq, true_and] at ht'
            subst ht'
            exact ⟨b, ofs, n, cap, e1, e2, by rw [pathT_snoc path e u v f hu hv, Nat.add_assoc (ofs + i * sz e)]⟩
          · cases c3
        · cases hop
      · cases hop
    · cases hop
  · cases hop

theorem isAgg_run (hT : TabOk P T) {tid : Nat} {t : Ty} (ht : T.ty tid = some t) : (isAgg tid).run P w = .ok (isAggT t) w := by
  obtain ⟨d, hu, hdd⟩ := (hT.1 _ _ ht).desc
  unfold isAgg
  rw [Sem.run_bind, run_underlying hu w]
  unfold DescOk at hdd
  split at hdd
  · simp [isAggT]
  · simp [isAggT]
  · simp [isAggT]
  · simp [isAggT]
  · simp [isAggT]
  · simp [isAggT]
  · simp [hdd.1]
  · cases hdd
/-- A part of a record that is held as a value. -/
theorem part_run (hT : TabOk P T) {tid : Nat} {u t : Ty} (ht : T.ty tid = some u) (hs : Same u t) {G : BS} {x : Den t} {cs : List Value} {off : Nat} (hr : RepC w G t x ((cs.drop off).take (sz t))) (hrec : t ≠ .ap 1 ∨ True) :
    ∃ v, (part tid cs.toArray off).run P w = .ok v w ∧ v.cells.toList = (cs.drop off).take (sz t) ∧ (isAggT u = true → v = .agg ((cs.drop off).take (sz t)).toArray) ∧ (isAggT u = false → ∃ y, (cs.drop off).take (sz t) = [y] ∧ v = y) := by
  obtain ⟨i, hi, h8, _⟩ := (hT.1 _ _ ht).info
  have hl := hr.len
  have ho := hr.one
  cases ha : isAggT u with
  | true =>
    refine ⟨.agg ((cs.drop off).take (sz t)).toArray, ?_, by simp [Value.cells], fun _ => rfl, (fun h => by cases h)⟩
    unfold part
    simp only [Sem.run_bind, isAgg_run hT ht, ha, Result.andThen_ok, if_true, Sem.run_ite, sizeOf, typeInfo, run_program, hi, Sem.run_pure, h8, hs.sz]
    congr 2
    apply Array.ext'
    simp [List.drop_take]
  | false =>
    have h1 : sz t = 1 := by
      rw [← hs.sz]
      obtain ⟨d, hu, hdd⟩ := (hT.1 _ _ ht).desc
      unfold DescOk at hdd
      split at hdd
      · rfl
      · rfl
      · rfl
      · rfl
      · simp [isAggT] at ha
      · rfl
      · rw [hdd.1] at ha; cases ha
      · cases hdd
    rw [h1] at hl ho ⊢
    obtain ⟨y, hy⟩ := List.length_eq_one_iff.1 hl
    refine ⟨y, ?_, ?_, (fun h => by cases h), fun _ => ⟨y, hy, rfl⟩⟩
    · unfold part
      have hq : cs[off]? = some y := by
        have : ((cs.drop off).take 1)[0]? = some y := by rw [hy]; rfl
        simpa [List.getElem?_take, List.getElem?_drop] using this
      simp only [Sem.run_bind, isAgg_run hT ht, ha, Result.andThen_ok, Bool.false_eq_true, if_false, Sem.run_ite, List.getElem?_toArray, hq, Sem.run_pure]
    · rw [hy]
      have := ho y (by rw [hy]; simp)
      cases y <;> simp_all [Value.cells, Value.oneCell']
theorem ones_T : ∀ {t : Ty} {f : Nat} {u : Ty}, ones t = true → fieldT t f = some u → sz u = 1 ∧ isAggT u = false
  | .pair a b, 0, u, h, hf => by
    simp only [ones, Bool.and_eq_true, beq_iff_eq, Bool.not_eq_true'] at h
    simp only [fieldT] at hf; cases hf
    exact h.1
  | .pair a b, f + 1, u, h, hf => by
    simp only [ones, Bool.and_eq_true] at h
    exact ones_T h.2 (f := f) (by simpa [fieldT] using hf)
  | .int _, _, _, h, _ => by simp [ones] at h
  | .bool, _, _, h, _ => by simp [ones] at h
  | .str, _, _, h, _ => by simp [ones] at h
  | .unit, f, _, _, hf => by simp [fieldT] at hf
  | .sl _, _, _, h, _ => by simp [ones] at h
  | .ap _, _, _, h, _ => by simp [ones] at h
theorem ok_field (hT : TabOk P T) (h : Inv N w0 Mv Gb Gs hd fp s a w) {own : List Nat} {o : Oper} {tid f : Nat} {x : Operand} {fr : Ob} {z : Slot} {m : List (Nat × Ob)} (ho : o.op = .field tid x f)
    (hop : opC T own o (views T s o) fr = some (true, z, m)) : OpOk P N w0 Mv Gb s a w o z m := by
  simp only [opC, ho, views, opnds, List.map] at hop
  split at hop
  · rename_i t l hz
    simp only [view, viewZ] at hz
    have hx := rd_ok h (T.ty tid) x
    rw [hz] at hx
    simp only [SlotR] at hx
    obtain ⟨vs, e, g1, g2⟩ := hx
    unfold aggField at hop
    split at hop
    · rename_i z' hl
      split at hop
      · rename_i hc
        cases hop
        obtain ⟨v, k1, k2⟩ := slotsR_get g2 f hl
        obtain ⟨fs, h1, h2, h2a⟩ := rec_facts hT hc.1 hc.2.1
        obtain ⟨u, hu⟩ := Option.isSome_iff_exists.1 hc.2.2.2
        obtain ⟨fl, h3, h4, u', h5, h6⟩ := fields_get h2 f hu
        have h3' : fs[f]? = some fl := by simpa using h3
        have hou := ones_T hc.2.2.1 hu
        have hag : isAggT u' = false := by
          rcases h6 with rfl | e6
          · exact hou.2
          · rw [e6, ← agg_under u (.inr trivial)]; exact hou.2
        refine OpOk.of_put h (v := v) ?_ k2
        simp only [execOp, ho, e, Instr.field, Sem.run_bind, run_underlying h1, Result.andThen_ok, h3', asAgg, Sem.run_pure, h4, Nat.zero_add, part, isAgg_run hT h5, hag, Bool.false_eq_true, if_false, Sem.run_ite, List.getElem?_toArray, ones_off hc.2.2.1 hc.2.2.2, k1]
      · cases hop
    · cases hop
  · rename_i hnz
    split at hop
    · rename_i tn t y hp
      split at hop
      · rename_i hc
        split at hop
        · rename_i r hr
          refine ok_pureE h hop (fun _ => ?_)
          obtain ⟨fs, h1, h2, h2a⟩ := rec_facts hT hc.1 hc.2
          have hv : VRep w (Gof Gs Gb tn) t y (a.eval x) := by
            refine (view_data h _ hp).2 ?_
            simp only [view, viewZ] at hnz hp ⊢
            cases hzz : rd s (T.ty tid) x with
            | agg t' l' => exact absurd hzz (hnz t' l')
            | ref k =>
              rw [hzz] at hp
              simp only [dataV, data1, obOf, keyOf] at hp
              split at hp <;> first | (cases hp; have := hc.2; simp [isRec] at this; done) | cases hp
            | vw k lo hi =>
              rw [hzz] at hp
              simp only [dataV, data1, obOf, keyOf] at hp
              split at hp <;> first | (cases hp; have := hc.2; simp [isRec] at this; done) | cases hp
            | _ => simp [isOwn, own1]
          obtain ⟨cs, g1, g2⟩ := hv
          rw [if_pos h2a] at g2
          obtain ⟨g3, g4⟩ := field_rep g1.un f hr
          obtain ⟨fl, h3, h4, u', h5, h6⟩ := fields_get h2 f g3
          have h3' : fs[f]? = some fl := by simpa using h3
          obtain ⟨v, k1, k2, k3, k4⟩ := part_run (w := w) hT h5 h6 g4 (.inr trivial)
          refine ⟨v, ?_, ?_⟩
          · simp only [execOp, ho, g2, Instr.field, Sem.run_bind, run_underlying h1, Result.andThen_ok, h3', asAgg, Sem.run_pure, h4, Nat.zero_add, k1]
          · refine ⟨_, g4, ?_⟩
            have hag : isAggT u' = isAggT r.t := by
              rcases h6 with rfl | e
              · rfl
              · have := (hT.1 _ _ h5).desc
                rw [e]
                cases hrt : r.t with
                | ap j => match j with
                  | 0 => rfl
                  | 1 => rfl
                  | 2 => rfl
                  | 3 => rfl
                  | 4 => rfl
                  | 5 => rfl
                  | _ + 6 => rfl
                | _ => rfl
            cases hb : isAggT r.t with
            | true => rw [k3 (by rw [hag, hb])]; simp
            | false => obtain ⟨q, q1, q2⟩ := k4 (by rw [hag, hb]); rw [q2, q1]; simp
        · cases hop
      · cases hop
    · cases hop
theorem ok_index (hT : TabOk P T) (h : Inv N w0 Mv Gb Gs hd fp s a w) {own : List Nat} {o : Oper} {tid : Nat} {x y : Operand} {fr : Ob} {z : Slot} {m : List (Nat × Ob)} (ho : o.op = .index tid x y)
    (hop : opC T own o (views T s o) fr = some (true, z, m)) : OpOk P N w0 Mv Gb s a w o z m := by
  simp only [opC, ho, views, opnds, List.map] at hop
  split at hop
  · rename_i i tn xs hi hp
    split at hop
    · rename_i hty
      obtain ⟨k, ej⟩ := view_int h _ hi
      obtain ⟨q, q1, e1⟩ := data_str h _ hp
      simp only at ej e1
      have hu := desc_str hT hty
      refine ok_pureE h hop (fun hc => ?_)
      subst q1
      simp only [decide_eq_true_eq] at hc
      have hlt : i.toNat < q.size := by have : q.data.toList.length = q.size := rfl; omega
      refine ⟨.int .u8 (q[i.toNat].toNat : Int), ?_, ?_⟩
      · simp [execOp, ho, ej, e1, Instr.index, asIntOf, run_underlying hu, hc.1, hlt]
      · have : q.data.toList.getD i.toNat 0 = q[i.toNat] := by
          have h2 : i.toNat < q.data.toList.length := hlt
          rw [List.getD_eq_getElem?_getD, List.getElem?_eq_getElem h2]
          rfl
        rw [this]
        exact VRep.int _ _
    · cases hop
  · cases hop
end Go.Proofs.YtkgpkalclblhbaaGreatDoor.Eng
