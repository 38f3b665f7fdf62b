/-
  One operation: records put together, variables, stores; and all operations.
-/
import Derived.Test.YtgibeillafnieaaS13
namespace Go.Proofs.Ytgibeillafnieaa.Eng
open Go Go.RowKit
set_option linter.unusedVariables false
set_option linter.unusedSimpArgs false

variable {P : Program} {T : Tab} {N : Nat} {w0 : World} {Mv : Mvp} {Gb Gs : BS} {hd : Nat → Value} {fp : Nat → BS} {s : St} {a : Act} {w w' : World}

/-- Where the parts of a record lie. -/
theorem places_run (hT : TabOk P T) {fs : Array Field} {off : Nat} {t : Ty} (h : FieldsOk T fs.toList off t) : ∃ pl : Array (Nat × Nat), (fs.mapM fun f => (do pure (f.offset, ← sizeOf f.type) : Sem (Nat × Nat))).run P w = .ok pl w ∧
    ∀ i u, fieldT t i = some u → pl[i]? = some (off + fieldOff t i, sz u) := by
  have key : ∀ (l : List Field) (off : Nat) (t : Ty), FieldsOk T l off t → ∃ pl : List (Nat × Nat), (l.mapM fun f => (do pure (f.offset, ← sizeOf f.type) : Sem (Nat × Nat))).run P w = .ok pl w ∧ ∀ i u, fieldT t i = some u → pl[i]? = some (off + fieldOff t i, sz u) := by
    intro l
    induction l with
    | nil =>
      intro off t h
      refine ⟨[], by simp, fun i u hu => ?_⟩
      cases t <;> simp_all [FieldsOk, fieldT]
    | cons f l ih =>
      intro off t h
      cases t with
      | pair x y =>
        simp only [FieldsOk] at h
        obtain ⟨h1, ⟨u', h2, h3⟩, h4⟩ := h
        obtain ⟨pl, h5, h6⟩ := ih _ _ h4
        obtain ⟨i, hi, hs, _⟩ := (hT _ _ h2).info
        refine ⟨(f.offset, sz x) :: pl, ?_, fun j u hu => ?_⟩
        · simp only [List.mapM_cons, Sem.run_bind, sizeOf, typeInfo, run_program, hi, Result.andThen_ok, Sem.run_pure, hs, h3.sz]
          simp only [sizeOf, typeInfo] at h5
          rw [h5]
          rfl
        · cases j with
          | zero => simp only [fieldT] at hu; cases hu; simp [fieldOff, h1]
          | succ j => simp only [fieldT] at hu; have := h6 j u hu; simp only [fieldOff, List.getElem?_cons_succ, this]; congr 2; omega
      | _ => simp [FieldsOk] at h
  obtain ⟨pl, h1, h2⟩ := key fs.toList off t h
  refine ⟨pl.toArray, ?_, fun i u hu => by simpa using h2 i u hu⟩
  rw [Array.mapM_eq_mapM_toList, Sem.run_map, h1]
  rfl
theorem fillD_ok {t : Ty} : ∀ (is : List Nat) (l : List (Option Ty × Operand)) (x : Den t) (tn0 : Bool) {tn : Bool} {y : Den t} (c : Array Value) (place : Nat → Option (Nat × Nat)) (hpl : ∀ i u, fieldT t i = some u → place i = some (fieldOff t i, sz u))
    (hl : ∀ o ∈ l, ∀ tn p, dataV (view s o) = some (tn, p) → VRep w (Gof Gs Gb tn) p.t p.x (a.eval o.2)), RepC w (Gof Gs Gb tn0) t x c.toList → fillD t x tn0 is (l.map (view s)) = some (tn, y) →
    ∃ c', Instr.fill place c (List.zip is (l.map fun o => a.eval o.2)) = some c' ∧ RepC w (Gof Gs Gb tn) t y c'.toList
  | [], [], x, tn0, tn, y, c, place, hpl, hl, hr, h => by
    simp only [List.map_nil, fillD, Option.some.injEq, Prod.mk.injEq] at h
    obtain ⟨rfl, rfl⟩ := h
    exact ⟨c, rfl, hr⟩
  | [], o :: l, x, tn0, tn, y, c, place, hpl, hl, hr, h => by simp [fillD] at h
  | i :: is, [], x, tn0, tn, y, c, place, hpl, hl, hr, h => by simp [fillD] at h
  | i :: is, o :: l, x, tn0, tn, y, c, place, hpl, hl, hr, h => by
    simp only [List.map_cons, fillD] at h
    split at h
    · rename_i u b p hu hp
      split at h
      · rename_i q hq
        split at h
        · rename_i x' hx'
          have hv := (hl o (by simp) b p hp).cells.to hq
          have hv' := hv.move (w' := w) (G' := Gof Gs Gb (tn0 || b)) Gof_or.2 (fun _ _ => rfl)
          have hr' := hr.move (w' := w) (G' := Gof Gs Gb (tn0 || b)) Gof_or.1 (fun _ _ => rfl)
          obtain ⟨h1, h2⟩ := set_rep hr' i (p := ⟨u, q⟩) hx' hu rfl hv'
          obtain ⟨c1, h3, h4⟩ := fill_cons place c i (a.eval o.2) (List.zip is (l.map fun o => a.eval o.2)) (hpl i u hu) (by have := hv.len; simpa using this) (by simpa using h1)
          rw [← h3] at h2
          obtain ⟨c2, h5, h6⟩ := fillD_ok is l x' (tn0 || b) c1 place hpl (fun o ho => hl o (by simp [ho])) h2 h
          exact ⟨c2, by simp only [List.map_cons, List.zip_cons_cons]; rw [h4]; exact h5, h6⟩
        · cases h
      · cases h
    · cases h
theorem ok_build (hT : TabOk P T) (h : Inv N w0 Mv Gb Gs hd fp s a w) {own : List Nat} {o : Oper} {tid : Nat} {parts : Array (Nat × Operand)} {fr : Ob} {z : Slot} {m : List (Nat × Ob)} (ho : o.op = .build tid parts)
    (hop : opC T own o (views T s o) fr = some (true, z, m)) : OpOk P N w0 Mv Gb s a w o z m := by
  simp only [opC, ho] at hop
  split at hop
  · rename_i t ht
    have hops : opnds T o = parts.toList.map fun p => (fieldT (under t) p.1, p.2) := by simp only [opnds, ho, ht]
    split at hop
    · rename_i hc
      simp only [Bool.and_eq_true] at hc
      split at hop
      · rename_i tn y hf
        simp only [Option.some.injEq, Prod.mk.injEq, true_and] at hop
        obtain ⟨rfl, rfl⟩ := hop
        simp only [views, hops] at hf ⊢
        obtain ⟨Gs', fp', h1, h2, h3, h4, h5⟩ := pub_data h (parts.toList.map fun p => (fieldT (under t) p.1, p.2))
        obtain ⟨fs, g1, g2, g3⟩ := rec_facts hT ht hc.1
        obtain ⟨i, hi, hs, hby, hz⟩ := (hT _ _ ht).info
        obtain ⟨pl, p1, p2⟩ := places_run (P := P) (w := w) hT g2
        have hzc : (zeroV t).cells.toList = zeroC t := by unfold zeroV; rw [if_pos g3]; simp [Value.cells]
        obtain ⟨c', f1, f2⟩ := fillD_ok (Gs := Gs') (Gb := Gb) (a := a) (w := w) _ _ (unD t (zeroD t)) false (zeroV t).cells (pl[·]?) (fun i u hu => by simpa using p2 i u hu) h3 (by rw [hzc]; exact (zeroRep w _ t).un) hf
        have hpl : (parts.map fun (p : Nat × Operand) => (p.1, a.eval p.2)).toList = List.zip (parts.toList.map (·.1)) ((parts.toList.map fun p => (fieldT (under t) p.1, p.2)).map fun o => a.eval o.2) := by
          simp only [Array.toList_map, List.map_map]
          rw [List.zip_map']
          rfl
        have hrun : (execOp a.eval o).run P w = .ok (.value (.agg c')) w := by
          simp only [execOp, ho, Sem.run_bind, Instr.build, zeroValue, typeInfo, run_program, hi, hz, run_underlying g1, Result.andThen_ok, Sem.run_pure]
          rw [p1]
          simp only [Result.andThen_ok]
          rw [hpl, f1]
          rfl
        refine ⟨_, w, _, _, _, .inl hrun, h1.put o.dst (mkVal_ok ?_)⟩
        exact ⟨c'.toList, f2.fo, by rw [if_pos g3]⟩
      · cases hop
    · cases hop
  · cases hop
theorem ok_alloc (hT : TabOk P T) (h : Inv N w0 Mv Gb Gs hd fp s a w) {own : List Nat} {o : Oper} {tid : Nat} {z : Slot} {m : List (Nat × Ob)} (ho : o.op = .alloc tid)
    (hop : opC T own o (views T s o) (freshOb s o.dst) = some (true, z, m)) : OpOk P N w0 Mv Gb s a w o z m := by
  simp only [opC, ho, views, opnds, List.map] at hop
  split at hop
  · rename_i t d ht hd' hfr
    simp only [Option.some.injEq, Prod.mk.injEq, true_and] at hop
    obtain ⟨rfl, rfl⟩ := hop
    obtain ⟨i, hi, hs, hby, hz⟩ := (hT _ _ ht).info
    have hzc := (VRep.cells (w := w) (G := Gof Gs Gb false) (t := t) (x := zeroD t) (v := zeroV t) ⟨_, zeroRep _ _ _, rfl⟩)
    have hrun : (execOp a.eval o).run P w = .ok (.value (.pointer (some ⟨w.heap.size, 0, none⟩))) (w.alloc (.cells (zeroV t).cells tid)) := by
      simp only [execOp, ho, Sem.run_bind, Instr.alloc, zeroValue, typeInfo, run_program, hi, hz, Result.andThen_ok, Sem.run_pure, newVar, newRow]
      rfl
    have hA := h.alloc (.cells (zeroV t).cells tid)
    have hk : s.ob.getD (4 * d) .gone = .none := by rw [hd'] at hfr; simpa [freshOb] using hfr
    have hmv : ∀ b, Gof Gs Gb false b → (w.alloc (.cells (zeroV t).cells tid)).heap[b]? = w.heap[b]? := fun b hb => Below.heap_alloc w _ _ (by
      rcases hb with hb | hb
      · exact (h.gs b hb).1
      · cases hb.1)
    have h1 := hA.1.newKey (k := 4 * d) (v := .pointer (some ⟨w.heap.size, 0, none⟩)) hk (F := fun c => c = w.heap.size) (by rintro c rfl; exact hA.2) (ob := .box false t (zeroD t)) rfl
      ⟨w.heap.size, 0, _, rfl, rfl, hzc.move (fun _ h => h) hmv, rangeAt_new w _ _ _ ⟨[], by simp⟩, there_new w _ _ _ (by have := hzc.len; simp at this; omega)⟩
    have hfin := h1.put (some d) (z := .ptr (4 * d) []) (v := .pointer (some ⟨w.heap.size, 0, none⟩)) (by
     simp only [SlotR]
     have hlt : 4 * d < s.ob.length := by
      rcases Nat.lt_or_ge (4 * d) s.ob.length with h | h
      · exact h
      · rw [List.getD_eq_getElem?_getD, List.getElem?_eq_none h] at hk; cases hk
     rw [getD_set_self, if_pos hlt]
     refine ⟨rfl, fun t' ht' => ⟨w.heap.size, 0, by simp, ?_⟩⟩
     simp only [obShape, Option.some.injEq, Prod.mk.injEq, true_and] at ht'
     subst ht'; simp [pathOff])
    unfold OpOk
    rw [hd']
    exact ⟨_, _, _, _, _, .inl hrun, hfin⟩
  · cases hop
theorem ok_box (hT : TabOk P T) (h : Inv N w0 Mv Gb Gs hd fp s a w) {own : List Nat} {o : Oper} {tid : Nat} {x : Operand} {z : Slot} {m : List (Nat × Ob)} (ho : o.op = .box tid x)
    (hop : opC T own o (views T s o) (freshOb s o.dst) = some (true, z, m)) : OpOk P N w0 Mv Gb s a w o z m := by
  simp only [opC, ho, views, opnds, List.map] at hop
  split at hop
  · rename_i t d tn p ht hd' hp hfr
    split at hop
    · rename_i y hy
      simp only [Option.some.injEq, Prod.mk.injEq, true_and] at hop
      obtain ⟨rfl, rfl⟩ := hop
      obtain ⟨Gs', fp', h1, h2, h3, h4, h5⟩ := pub_data h [(T.ty tid, x)]
      have hv := (h3 (T.ty tid, x) (by simp) tn p hp).cells.to hy
      have hm : pubM (view s (T.ty tid, x)) = ([(T.ty tid, x)].map (view s)).flatMap pubM := by simp
      have hA := h1.alloc (.cells (a.eval x).cells tid)
      have hk : (pubS s [(T.ty tid, x)]).ob.getD (4 * d) .gone = .none := by rw [h4]; rw [hd'] at hfr; simpa [freshOb] using hfr
      have hrun : (execOp a.eval o).run P w = .ok (.value (.pointer (some ⟨w.heap.size, 0, none⟩))) (w.alloc (.cells (a.eval x).cells tid)) := by
        simp only [execOp, ho, Sem.run_bind, Instr.box, Result.andThen_ok, Sem.run_pure, newVar, newRow]
        rfl
      have hmv : ∀ b, Gof Gs' Gb tn b → (w.alloc (.cells (a.eval x).cells tid)).heap[b]? = w.heap[b]? := fun b hb => Below.heap_alloc w _ _ (by
        rcases hb with hb | hb
        · exact (h1.gs b hb).1
        · have := (h1.gb b hb.2).1; have := h1.le; have := h1.ev.size; omega)
      have hv' : RepC (w.alloc (.cells (a.eval x).cells tid)) (Gof Gs' Gb (tn && !flat t)) t y (a.eval x).cells.toList := by
        cases hf : flat t with
        | true => exact hv.anyw hf _ _
        | false => simpa using hv.move (fun _ h => h) hmv
      have h6 := hA.1.newKey (k := 4 * d) (v := .pointer (some ⟨w.heap.size, 0, none⟩)) hk (F := fun c => c = w.heap.size) (by rintro c rfl; exact hA.2) (ob := .box (tn && !flat t) t y) rfl
        ⟨w.heap.size, 0, _, rfl, rfl, hv', rangeAt_new w _ _ _ ⟨[], by simp⟩, there_new w _ _ _ (by have := hv.len; simp at this; omega)⟩
      have hfin := h6.put (some d) (z := .ptr (4 * d) []) (v := .pointer (some ⟨w.heap.size, 0, none⟩)) (by
       simp only [SlotR]
       have hlt : 4 * d < (pubS s [(T.ty tid, x)]).ob.length := by
        rcases Nat.lt_or_ge (4 * d) (pubS s [(T.ty tid, x)]).ob.length with h | h
        · exact h
        · rw [List.getD_eq_getElem?_getD, List.getElem?_eq_none h] at hk; cases hk
       rw [getD_set_self, if_pos hlt]
       refine ⟨rfl, fun t' ht' => ⟨w.heap.size, 0, by simp, ?_⟩⟩
       simp only [obShape, Option.some.injEq, Prod.mk.injEq, true_and] at ht'
       subst ht'; simp [pathOff])
      unfold OpOk
      rw [hd', hm]
      exact ⟨_, _, _, _, _, .inl hrun, hfin⟩
    · cases hop
  · cases hop
theorem run_storeAny (hT : TabOk P T) {tid : Nat} {u : Ty} (ht : T.ty tid = some u) {b o : Nat} {v : Value} (hs : v.cells.size = sz u) (h1 : ∀ x ∈ v.cells.toList, x.oneCell' = true) (hth : w.there b o (sz u)) :
    (Instr.storeAt tid (.pointer (some ⟨b, o, none⟩)) v).run P w = .ok () (w.setCells b o v.cells.toList) := by
  obtain ⟨i, hi, hsz, _⟩ := (hT _ _ ht).info
  have := run_storeCells_cells (P := P) b o v.cells.toList 0 w (fun j hj => by simpa using (hth j (by simp at hj; omega)).1) (fun j hj => by simpa using (hth j (by simp at hj; omega)).2) h1
  simp only [Nat.add_zero] at this
  simp [Instr.storeAt, Instr.sureAddr, storeVar, sizeOf, typeInfo, hi, hs, hsz, this]
/-- A place of a row that is written. -/
theorem row_write {G1 G2 : BS} {fpk : BS} {e u : Ty} {xs : List (Den e)} {cells : List Value} {tn tb : Bool} {q : Den u} {b ofs n cap i : Nat} {path : List Nat} {y' : Den e}
    (h0 : OwnRow w (Gof G1 G2 tn) e xs (.slice (some ⟨b, ofs, none⟩) n cap) fpk) (hi : i < xs.length) (hv : RepC w (Gof G1 G2 tb) u q cells) (hy' : putD e (xs.getD i (zeroD e)) path ⟨u, q⟩ = some y') (hfr : fpk b → ¬ G1 b ∧ ¬ G2 b) :
    fpk b ∧ w.there b (ofs + (i * sz e + pathOff e path)) (sz u) ∧ OwnRow (w.setCells b (ofs + (i * sz e + pathOff e path)) cells) (Gof G1 G2 ((tn || tb) && !flat e)) e (xs.set i y') (.slice (some ⟨b, ofs, none⟩) n cap) fpk := by
  rcases h0 with ⟨g1, _⟩ | ⟨b', ofs', cap', cs, g1, g2, g3, g4, g5, g6⟩
  · cases g1
  · cases g1
    have helem := g4.nth i hi
    have g4' := g4.move (w' := w) (G' := Gof G1 G2 (tn || tb)) Gof_or.1 (fun _ _ => rfl)
    have helem' := helem.move (w' := w) (G' := Gof G1 G2 (tn || tb)) Gof_or.1 (fun _ _ => rfl)
    have hv' := hv.move (w' := w) (G' := Gof G1 G2 (tn || tb)) Gof_or.2 (fun _ _ => rfl)
    obtain ⟨r1, r2⟩ := put_rep path helem' (p := ⟨u, q⟩) hy' hv'
    simp only at r1
    have hcl := g4.len
    have hel := helem.len
    have hile : i * sz e + sz e ≤ xs.length * sz e := by
      have : (i + 1) * sz e ≤ xs.length * sz e := Nat.mul_le_mul_right _ hi
      rw [Nat.add_mul, Nat.one_mul] at this; exact this
    have hcap : xs.length * sz e ≤ cap * sz e := Nat.mul_le_mul_right _ g2
    have hdl : cells.length = sz u := hv.len
    have hth : w.there b (ofs + (i * sz e + pathOff e path)) (sz u) := there_sub g6 (by omega)
    have hset := RepL.set g4' i hi r2
    have hcs : cs.take (i * sz e) ++ ((((cs.drop (i * sz e)).take (sz e)).take (pathOff e path) ++ (cells ++ ((cs.drop (i * sz e)).take (sz e)).drop (pathOff e path + sz u))) ++ cs.drop ((i + 1) * sz e)) =
        cs.take (i * sz e + pathOff e path) ++ (cells ++ cs.drop (i * sz e + pathOff e path + cells.length)) := by
      rw [Nat.add_mul, Nat.one_mul]
      apply List.ext_getElem?
      intro j
      simp only [List.getElem?_append, List.getElem?_take, List.getElem?_drop, List.length_append, List.length_take, List.length_drop]
      repeat' split
      all_goals first
        | rfl
        | omega
        | (congr 1; omega)
        | (rw [List.getElem?_eq_none (by omega), List.getElem?_eq_none (by omega)])
        | (rw [List.getElem?_eq_none (by omega)])
        | (symm; rw [List.getElem?_eq_none (by omega)])
    rw [hcs] at hset
    have hmv : ∀ c, Gof G1 G2 (tn || tb) c → (w.setCells b (ofs + (i * sz e + pathOff e path)) cells).heap[c]? = w.heap[c]? := fun c hc => setCells_block b _ _ w c (fun e => by
      subst e; exact hc.elim (hfr g3).1 (fun q => (hfr g3).2 q.2))
    have hnew : RepL (w.setCells b (ofs + (i * sz e + pathOff e path)) cells) (Gof G1 G2 ((tn || tb) && !flat e)) e (xs.set i y') (cs.take (i * sz e + pathOff e path) ++ (cells ++ cs.drop (i * sz e + pathOff e path + cells.length))) := by
      cases hf : flat e with
      | true => exact hset.anyw hf _ _
      | false => simpa using hset.move (fun _ h => h) hmv
    have hrg := rangeAt_set g5 (off := i * sz e + pathOff e path) (ds := cells) (by omega) (by rw [hdl]; exact hth)
    exact ⟨g3, hth, .inr ⟨b, ofs, cap, _, by simp, by simpa using g2, g3, hnew, hrg, there_set g6 (by rw [hdl]; exact hth)⟩⟩
theorem ok_store (hT : TabOk P T) (h : Inv N w0 Mv Gb Gs hd fp s a w) {own : List Nat} {o : Oper} {tid : Nat} {p x : Operand} {fr : Ob} {z : Slot} {m : List (Nat × Ob)} (ho : o.op = .store tid p x)
    (hop : opC T own o (views T s o) fr = some (true, z, m)) : OpOk P N w0 Mv Gb s a w o z m := by
  simp only [opC, ho, views, opnds, List.map] at hop
  split at hop
  · rename_i u tb pv hty hp
    split at hop
    · rename_i q hq
      obtain ⟨Gs', fp', h1, h2, h3, h4, h5⟩ := pub_data h [(T.ty tid, x)]
      have hv := (h3 (T.ty tid, x) (by simp) tb pv hp).cells.to hq
      have hm : pubM (view s (T.ty tid, x)) = ([(T.ty tid, x)].map (view s)).flatMap pubM := by simp
      have hp1 := rd_ok h1 none p
      have hrd : rd (pubS s [(T.ty tid, x)]) none p = rd s none p := rfl
      have hone := hv.one
      have hvs : (a.eval x).cells.size = sz u := by have := hv.len; simpa using this
      have run : ∀ b ofs, a.eval p = .pointer (some ⟨b, ofs, none⟩) → w.there b ofs (sz u) → (execOp a.eval o).run P w = .ok .skip (w.setCells b ofs (a.eval x).cells.toList) := by
        intro b ofs e hth
        simp only [execOp, ho, e, Sem.run_bind, run_storeAny hT hty hvs hone hth, Result.andThen_ok, Sem.run_pure]
      have nopub : ∀ {k : Nat} {ob : Ob}, s.ob.getD k .none = ob → (∀ tn nx e x, ob ≠ .sl tn nx e x) → (pubS s [(T.ty tid, x)]).ob.getD k .none = ob ∧ fp' k = fp k := by
        intro k ob h6 h7
        rcases h5 k with h8 | ⟨t1, t2, t3, t4, h8, _⟩
        · exact ⟨h8.1.trans h6, h8.2⟩
        · exact absurd (h6 ▸ h8) (h7 _ _ _ _)
      split at hop
      · rename_i k path tn t y hz hob
        simp only [view] at hz hob
        rw [hz] at hob
        simp only [obOf, keyOf] at hob
        split at hop
        · rename_i y' hy'
          simp only [Option.some.injEq, Prod.mk.injEq, true_and] at hop
          obtain ⟨rfl, rfl⟩ := hop
          obtain ⟨n1, n2⟩ := nopub hob (by intro _ _ _ _ h; cases h)
          rw [hrd, hz] at hp1
          simp only [SlotR] at hp1
          obtain ⟨b, ofs, e1, e2⟩ := hp1.2 t (by rw [n1]; rfl)
          have h0 := h1.obs k
          rw [n1] at h0
          obtain ⟨b', ofs', cs, g1, g2, g3, g4, g5⟩ := h0
          rw [e1] at g1
          cases g1
          have g3' := g3.move (w' := w) (G' := Gof Gs' Gb (tn || tb)) Gof_or.1 (fun _ _ => rfl)
          have hv' := hv.move (w' := w) (G' := Gof Gs' Gb (tn || tb)) Gof_or.2 (fun _ _ => rfl)
          obtain ⟨r1, r2⟩ := put_rep path g3' (p := ⟨u, q⟩) hy' hv'
          simp only at r1
          have hcl := g3.len
          have hth : w.there b (ofs + pathOff t path) (sz u) := there_sub g5 (by omega)
          have hdl : (a.eval x).cells.toList.length = sz u := hv.len
          have hmv : ∀ c, Gof Gs' Gb (tn || tb) c → (w.setCells b (ofs + pathOff t path) (a.eval x).cells.toList).heap[c]? = w.heap[c]? := fun c hc => setCells_block b _ _ w c (fun e => by
            subst e; exact hc.elim (h1.own k c g2).2.2.1 (fun q => (h1.own k c g2).2.2.2 q.2))
          have hnew : RepC (w.setCells b (ofs + pathOff t path) (a.eval x).cells.toList) (Gof Gs' Gb ((tn || tb) && !flat t)) t y' (cs.take (pathOff t path) ++ ((a.eval x).cells.toList ++ cs.drop (pathOff t path + sz u))) := by
            cases hf : flat t with
            | true => exact r2.anyw hf _ _
            | false => simpa using r2.move (fun _ h => h) hmv
          have hst := h1.store (k := k) (b := b) g2 (ob := .box ((tn || tb) && !flat t) t y') (by rw [n1]; rfl) (fun _ => rfl) (by rw [n1]; rfl) rfl (ofs + pathOff t path) (a.eval x).cells.toList
            ⟨b, ofs, _, e1, g2, hnew, by rw [← hdl]; exact rangeAt_set g4 (by omega) (by rw [hdl]; exact hth), there_set g5 (by rw [hdl]; exact hth)⟩
          have hfin := hst.put o.dst (z := .und) (v := undef) (by simp only [SlotR])
          unfold OpOk
          rw [hm]
          exact ⟨undef, _, _, _, _, .inr ⟨run _ _ e2 hth, rfl⟩, hfin⟩
        · cases hop
      · rename_i k i path tn nx e xs hz hob
        simp only [view] at hz hob
        rw [hz] at hob
        simp only [obOf, keyOf] at hob
        split at hop
        · cases hop
        · rename_i hne
          split at hop
          · rename_i y' hy'
            simp only [Option.some.injEq, Prod.mk.injEq, decide_eq_true_eq] at hop
            obtain ⟨hi, rfl, rfl⟩ := hop
            obtain ⟨n1, n2⟩ : (pubS s [(T.ty tid, x)]).ob.getD k .none = .sl tn nx e xs ∧ fp' k = fp k := by
              rcases h5 k with h8 | ⟨t1, t2, t3, t4, h8, h9⟩
              · exact ⟨h8.1.trans hob, h8.2⟩
              · exfalso
                have hpm : (pubS s [(T.ty tid, x)]).ob.getD k .none = s.ob.getD k .none := by
                  simp only [pubS, List.map_cons, List.map_nil, List.flatMap_cons, List.flatMap_nil, List.append_nil]
                  unfold pubM
                  simp only [view] at hne ⊢
                  split
                  · rename_i j _ _ _ _ hj _
                    simp only [modOb]
                    rw [getD_set_ne' _ _ _ (fun e => by subst e; rw [hj] at hne; exact hne rfl)]
                  · rename_i j _ _ _ _ _ _ hj _
                    simp only [modOb]
                    rw [getD_set_ne' _ _ _ (fun e => by subst e; rw [hj] at hne; exact hne rfl)]
                  · rfl
                rw [hpm, h8] at h9
                cases h9
            rw [hrd, hz] at hp1
            simp only [SlotR] at hp1
            obtain ⟨b, ofs, n, cap, e1, e2, e3⟩ := hp1.2 e (by rw [n1]; rfl)
            have h0 := h1.obs k
            rw [n1] at h0
            have h00 : OwnRow w (Gof Gs' Gb tn) e xs (.slice (some ⟨b, ofs, none⟩) n cap) (fp' k) := by rw [← e1]; exact h0.1
            obtain ⟨w1, w2, w3⟩ := row_write h00 hi hv hy' (fun hb => ⟨(h1.own k b hb).2.2.1, (h1.own k b hb).2.2.2⟩)
            have hst := h1.store (k := k) (b := b) w1 (ob := .sl ((tn || tb) && !flat e) nx e (xs.set i y')) (by rw [n1]; rfl) (fun h => by rw [n1] at h; cases h) (by rw [n1]; rfl) rfl (ofs + (i * sz e + pathOff e path)) (a.eval x).cells.toList
              ⟨by rw [e1]; exact w3, fun hnx hx => by
              have : xs = [] := by
                have := congrArg List.length hx
                simp at this
                exact this
              subst this; simp at hi⟩
            have hfin := hst.put o.dst (z := .und) (v := undef) (by simp only [SlotR])
            unfold OpOk
            rw [hm]
            exact ⟨undef, _, _, _, _, .inr ⟨run _ _ (by rw [e3, Nat.add_assoc]) w2, rfl⟩, hfin⟩
          · cases hop
      · rename_i k i path tn e xs hz hob
        simp only [view] at hz hob
        rw [hz] at hob
        simp only [obOf, keyOf] at hob
        split at hop
        · cases hop
        · rename_i hne
          split at hop
          · rename_i y' hy'
            simp only [Option.some.injEq, Prod.mk.injEq, decide_eq_true_eq] at hop
            obtain ⟨hi, rfl, rfl⟩ := hop
            obtain ⟨n1, n2⟩ := nopub hob (by intro _ _ _ _ hh; cases hh)
            rw [hrd, hz] at hp1
            simp only [SlotR] at hp1
            obtain ⟨b, ofs, n, cap, e1, e2, e3⟩ := hp1.2 e (by rw [n1]; rfl)
            have h0 := h1.obs k
            rw [n1] at h0
            have h00 : OwnRow w (Gof Gs' Gb tn) e xs (.slice (some ⟨b, ofs, none⟩) n cap) (fp' k) := by rw [← e1]; exact h0
            obtain ⟨w1, w2, w3⟩ := row_write h00 hi hv hy' (fun hb => ⟨(h1.own k b hb).2.2.1, (h1.own k b hb).2.2.2⟩)
            have hst := h1.store (k := k) (b := b) w1 (ob := .io ((tn || tb) && !flat e) e (xs.set i y')) (by rw [n1]; rfl) (fun _ => rfl) (by rw [n1]; rfl) rfl (ofs + (i * sz e + pathOff e path)) (a.eval x).cells.toList
              (by rw [e1]; exact w3)
            have hfin := hst.put o.dst (z := .und) (v := undef) (by simp only [SlotR])
            unfold OpOk
            rw [hm]
            exact ⟨undef, _, _, _, _, .inr ⟨run _ _ (by rw [e3, Nat.add_assoc]) w2, rfl⟩, hfin⟩
          · cases hop
      · cases hop
    · cases hop
  · cases hop
end Go.Proofs.Ytgibeillafnieaa.Eng
