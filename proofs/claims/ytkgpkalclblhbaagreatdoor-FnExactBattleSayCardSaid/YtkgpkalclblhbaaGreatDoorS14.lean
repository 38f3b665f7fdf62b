/-
  One operation: records put together, variables, stores; and all operations.
-/
import Derived.Test.YtkgpkalclblhbaaGreatDoorS13
namespace Go.Proofs.YtkgpkalclblhbaaGreatDoor.Eng
open Go Go.RowKit
set_option linter.unusedVariables false
set_option linter.unusedSimpArgs false

variable {P : Program} {T : Tab} {N : Nat} {w0 : World} {Mv : Mvp} {Gb Gs : BS} {hd : Nat → Value} {fp : Nat → BS} {s : St} {a : Act} {w w' : World}

/-- Where the parts of a record lie. -/
theorem places_run (hT : TabOk P T) {fs : Array Field} {off : Nat} {t : Ty} (h : FieldsOk T fs.toList off t) : ∃ pl : Array (Nat × Nat), (fs.mapM fun f => (do pure (f.offset, ← sizeOf f.type) : Sem (Nat × Nat))).run P w = .ok pl w ∧
    ∀ i u, fieldT t i = some u → pl[i]? = some (off + fieldOff t i, sz u) := by
  have key : ∀ (l : List Field) (off : Nat) (t : Ty), FieldsOk T l off t → ∃ pl : List (Nat × Nat), (l.mapM fun f => (do pure (f.offset, ← sizeOf f.type) : Sem (Nat × Nat))).run P w = .ok pl w ∧ ∀ i u, fieldT t i = some u → pl[i]? = some (off + fieldOff t i, sz u) := by
    intro l
    induction l with
    | nil =>
      intro off t h
      refine ⟨[], by simp, fun i u hu => ?_⟩
      cases t <;> simp_all [FieldsOk, fieldT]
    | cons f l ih =>
      intro off t h
      cases t with
      | pair x y =>
        simp only [FieldsOk] at h
        obtain ⟨h1, ⟨u', h2, h3⟩, h4⟩ := h
        obtain ⟨pl, h5, h6⟩ := ih _ _ h4
        obtain ⟨i, hi, hs, _⟩ := (hT.1 _ _ h2).info
        refine ⟨(f.offset, sz x) :: pl, ?_, fun j u hu => ?_⟩
        · simp only [List.mapM_cons, Sem.run_bind, sizeOf, typeInfo, run_program, hi, Result.andThen_ok, Sem.run_pure, hs, h3.sz]
          simp only [sizeOf, typeInfo] at h5
          rw [h5]
          rfl
        · cases j with
          | zero => simp only [fieldT] at hu; cases hu; simp [fieldOff, h1]
          | succ j => simp only [fieldT] at hu; have := h6 j u hu; simp only [fieldOff, List.getElem?_cons_succ, this]; congr 2; omega
      | _ => simp [FieldsOk] at h
  obtain ⟨pl, h1, h2⟩ := key fs.toList off t h
  refine ⟨pl.toArray, ?_, fun i u hu => by simpa using h2 i u hu⟩
  rw [Array.mapM_eq_mapM_toList, Sem.run_map, h1]
  rfl
theorem fillD_ok {t : Ty} : ∀ (is : List Nat) (l : List (Option Ty × Operand)) (x : Den t) (tn0 : Bool) {tn : Bool} {y : Den t} (c : Array Value) (place : Nat → Option (Nat × Nat)) (hpl : ∀ i u, fieldT t i = some u → place i = some (fieldOff t i, sz u))
    (hl : ∀ o ∈ l, ∀ tn p, dataV (view s o) = some (tn, p) → VRep w (Gof Gs Gb tn) p.t p.x (a.eval o.2)), RepC w (Gof Gs Gb tn0) t x c.toList → fillD t x tn0 is (l.map (view s)) = some (tn, y) →
    ∃ c', Instr.fill place c (List.zip is (l.map fun o => a.eval o.2)) = some c' ∧ RepC w (Gof Gs Gb tn) t y c'.toList
  | [], [], x, tn0, tn, y, c, place, hpl, hl, hr, h => by
    simp only [List.map_nil, fillD, Option.some.injEq, Prod.mk.injEq] at h
    obtain ⟨rfl, rfl⟩ := h
    exact ⟨c, rfl, hr⟩
  | [], o :: l, x, tn0, tn, y, c, place, hpl, hl, hr, h => by simp [fillD] at h
  | i :: is, [], x, tn0, tn, y, c, place, hpl, hl, hr, h => by simp [fillD] at h
  | i :: is, o :: l, x, tn0, tn, y, c, place, hpl, hl, hr, h => by
    simp only [List.map_cons, fillD] at h
    split at h
    · rename_i u b p hu hp
      split at h
      · rename_i q hq
        split at h
        · rename_i x' hx'
          have hv := (hl o (by simp) b p hp).cells.to hq
          have hv' := hv.move (w' := w) (G' := Gof Gs Gb (tn0 || b)) Gof_or.2 (fun _ _ => rfl)
          have hr' := hr.move (w' := w) (G' := Gof Gs Gb (tn0 || b)) Gof_or.1 (fun _ _ => rfl)
          obtain ⟨h1, h2⟩ := set_rep hr' i (p := ⟨u, q⟩) hx' hu rfl hv'
          obtain ⟨c1, h3, h4⟩ := fill_cons place c i (a.eval o.2) (List.zip is (l.map fun o => a.eval o.2)) (hpl i u hu) (by have := hv.len; simpa using this) (by simpa using h1)
          rw [← h3] at h2
          obtain ⟨c2, h5, h6⟩ := fillD_ok is l x' (tn0 || b) c1 place hpl (fun o ho => hl o (by simp [ho])) h2 h
          exact ⟨c2, by simp only [List.map_cons, List.zip_cons_cons]; rw [h4]; exact h5, h6⟩
        · cases h
      · cases h
    · cases h
/-! ### Records told by their parts -/
theorem slotsR_len {ob : List Ob} : ∀ {l : List Slot} {vs : List Value}, SlotsR w Gs Gb hd ob l vs → vs.length = l.length
  | [], vs, h => by simp only [SlotsR] at h; subst h; rfl
  | z :: l, vs, h => by
    simp only [SlotsR] at h
    obtain ⟨v, r, rfl, _, h2⟩ := h
    simp [slotsR_len h2]
theorem slotsR_set {ob : List Ob} : ∀ {l : List Slot} {vs : List Value} (i : Nat) {z : Slot} {v : Value}, SlotsR w Gs Gb hd ob l vs → SlotR w Gs Gb hd ob z v → SlotsR w Gs Gb hd ob (l.set i z) (vs.set i v)
  | [], vs, i, z, v, h, _ => by simp only [SlotsR] at h; subst h; simp [SlotsR]
  | y :: l, vs, 0, z, v, h, hz => by
    simp only [SlotsR] at h
    obtain ⟨u, r, rfl, _, h2⟩ := h
    simp only [List.set_cons_zero, SlotsR]
    exact ⟨v, r, rfl, hz, h2⟩
  | y :: l, vs, i + 1, z, v, h, hz => by
    simp only [SlotsR] at h
    obtain ⟨u, r, rfl, h1, h2⟩ := h
    simp only [List.set_cons_succ, SlotsR]
    exact ⟨u, _, rfl, h1, slotsR_set i h2 hz⟩
theorem set_eq {α : Type} (l : List α) (i : Nat) (v : α) (h : i < l.length) : l.set i v = l.take i ++ ([v] ++ l.drop (i + 1)) := by
  rw [List.set_eq_take_append_cons_drop, if_pos h]; rfl
theorem one_cells {v : Value} (h : v.oneCell' = true) : v.cells.toList = [v] := by cases v <;> simp_all [Value.cells, Value.oneCell']
theorem fldOk_ok (h : Inv N w0 Mv Gb Gs hd fp s a w) (o : Option Ty × Operand) {z : Slot} (hz : fldOk (view s o) = some z) : SlotR w Gs Gb hd s.ob z (a.eval o.2) ∧ (a.eval o.2).oneCell' = true := by
  have hx := rd_ok h o.1 o.2
  unfold fldOk at hz
  simp only [view, viewZ] at hz
  split at hz
  · rename_i tn u x hr
    rw [hr] at hx
    split at hz
    · rename_i hc
      cases hz
      refine ⟨hx, ?_⟩
      simp only [SlotR] at hx
      exact (hx.cell hc.1 hc.2).2
    · cases hz
  · rename_i e hr
    rw [hr] at hx
    cases hz
    refine ⟨hx, ?_⟩
    simp only [SlotR] at hx
    rw [hx]; rfl
  · rename_i k tn nx e x hr hob
    rw [hr] at hx hob
    simp only [obOf, keyOf] at hob
    cases hz
    refine ⟨hx, ?_⟩
    simp only [SlotR] at hx
    have h0 := h.obs k
    rw [hob] at h0
    obtain ⟨q1, q2, q3, _⟩ := h0.1.row.len
    rw [hx.2, q3]; rfl
  · rename_i k tn nx e x hr hob
    rw [hr] at hx hob
    simp only [obOf, keyOf] at hob
    cases hz
    refine ⟨hx, ?_⟩
    simp only [SlotR] at hx
    have h0 := h.obs k
    rw [hob] at h0
    obtain ⟨q1, q2, q3, _⟩ := h0.1.row.len
    rw [hx.2, q3]; rfl
  · cases hz
theorem one_cell_list {t : Ty} (h : sz t = 1) {G : BS} {x : Den t} {cs : List Value} (hr : RepC w G t x cs) : ∃ y, cs = [y] := List.length_eq_one_iff.1 (by rw [hr.len, h])
theorem zeroF_ok {ob : List Ob} : ∀ (t : Ty), ones t = true → SlotsR w Gs Gb hd ob (zeroF t) (zeroC t) ∧ ∀ u ∈ zeroC t, u.oneCell' = true
  | .pair a b, h => by
    simp only [ones, Bool.and_eq_true, beq_iff_eq, Bool.not_eq_true'] at h
    obtain ⟨h1, h2⟩ := zeroF_ok b h.2
    have hz := zeroRep w (Gof Gs Gb false) a
    obtain ⟨y, hy⟩ := one_cell_list h.1.1 hz
    have hone := hz.one
    refine ⟨?_, fun u hu => ?_⟩
    · have key : zeroF (.pair a b) = (match a with | .sl e => .nil e | a => .val false a (zeroD a)) :: zeroF b := by cases a <;> rfl
      rw [key]
      simp only [zeroC, hy, List.singleton_append, SlotsR]
      refine ⟨y, _, rfl, ?_, h1⟩
      have hv : VRep w (Gof Gs Gb false) a (zeroD a) y := ⟨_, hz, by rw [if_neg (by simp [h.1.2]), hy]; rfl⟩
      split
      · simp only [SlotR]; simp [zeroC] at hy; exact hy.symm
      · simp only [SlotR]; exact hv
    · simp only [zeroC] at hu
      rcases List.mem_append.1 hu with hu | hu
      · exact hone u hu
      · exact h2 u hu
  | .unit, _ => ⟨by simp [zeroF, zeroC, SlotsR], fun u hu => by simp [zeroC] at hu⟩
  | .int _, h => by simp [ones] at h
  | .bool, h => by simp [ones] at h
  | .str, h => by simp [ones] at h
  | .sl _, h => by simp [ones] at h
  | .ap _, h => by simp [ones] at h
theorem zeroC_under (t : Ty) : zeroC (under t) = zeroC t := by
  cases t with
  | ap j => match j with
    | 0 => rfl
    | 1 => rfl
    | 2 => rfl
    | 3 => rfl
    | 4 => rfl
    | 5 => rfl
    | _ + 6 => rfl
  | _ => rfl
theorem fieldsOf_ok {ob : List Ob} {tn : Bool} : ∀ (t : Ty) (x : Den t) (cs : List Value), ones t = true → RepC w (Gof Gs Gb tn) t x cs → SlotsR w Gs Gb hd ob (fieldsOf tn t x) cs
  | .pair a b, (x, y), cs, h, hr => by
    simp only [ones, Bool.and_eq_true, beq_iff_eq, Bool.not_eq_true'] at h
    obtain ⟨c, d, rfl, h1, h2⟩ := hr.of_pair
    obtain ⟨v, rfl⟩ := one_cell_list h.1.1 h1
    simp only [fieldsOf, List.singleton_append, SlotsR]
    exact ⟨v, d, rfl, mkVal_ok ⟨_, h1, by rw [if_neg (by simp [h.1.2])]; rfl⟩, fieldsOf_ok b y d h.2 h2⟩
  | .unit, x, cs, _, hr => by cases hr; simp [fieldsOf, SlotsR]
  | .int _, _, _, h, _ => by simp [ones] at h
  | .bool, _, _, h, _ => by simp [ones] at h
  | .str, _, _, h, _ => by simp [ones] at h
  | .sl _, _, _, h, _ => by simp [ones] at h
  | .ap _, _, _, h, _ => by simp [ones] at h
theorem toAgg_ok {ob : List Ob} {z : Slot} {v : Value} (hz : SlotR w Gs Gb hd ob z v) {t : Ty} {l : List Slot} (h : toAgg z = some (t, l)) : ∃ vs : List Value, v = .agg vs.toArray ∧ (∀ u ∈ vs, u.oneCell' = true) ∧ SlotsR w Gs Gb hd ob l vs := by
  unfold toAgg at h
  split at h
  · cases h; simpa only [SlotR] using hz
  · rename_i tn t' x
    split at h
    · rename_i hc
      cases h
      simp only [Bool.and_eq_true] at hc
      simp only [SlotR] at hz
      obtain ⟨cs, h1, h2⟩ := hz
      rw [if_pos hc.1] at h2
      exact ⟨cs, h2, h1.one, fieldsOf_ok _ _ _ hc.2 h1.un⟩
    · cases h
  · cases h
theorem ones_some : ∀ {t : Ty} {f : Nat}, ones t = true → f < sz t → ∃ u, fieldT t f = some u
  | .pair a b, 0, _, _ => ⟨a, rfl⟩
  | .pair a b, f + 1, h, hf => by
    simp only [ones, Bool.and_eq_true, beq_iff_eq] at h
    simp only [sz] at hf
    exact ones_some (t := b) (f := f) h.2 (by omega)
  | .unit, f, _, hf => by simp [sz] at hf
  | .int _, _, h, _ => by simp [ones] at h
  | .bool, _, h, _ => by simp [ones] at h
  | .str, _, h, _ => by simp [ones] at h
  | .sl _, _, h, _ => by simp [ones] at h
  | .ap _, _, h, _ => by simp [ones] at h
theorem setFields_ok (h : Inv N w0 Mv Gb Gs hd fp s a w) {place : Nat → Option (Nat × Nat)} : ∀ (is : List Nat) (l0 : List (Option Ty × Operand)) (l : List Slot) {l' : List Slot} (c : Array Value), (∀ i, i < l.length → place i = some (i, 1)) →
    SlotsR w Gs Gb hd s.ob l c.toList → (∀ u ∈ c.toList, u.oneCell' = true) → setFields l is (l0.map (view s)) = some l' →
    ∃ c', Instr.fill place c (List.zip is (l0.map fun o => a.eval o.2)) = some c' ∧ SlotsR w Gs Gb hd s.ob l' c'.toList ∧ ∀ u ∈ c'.toList, u.oneCell' = true
  | [], [], l, l', c, _, hs, ho, hf => by
    simp only [List.map_nil, setFields, Option.some.injEq] at hf
    subst hf
    exact ⟨c, rfl, hs, ho⟩
  | [], o :: l0, l, l', c, _, _, _, hf => by simp [setFields] at hf
  | i :: is, [], l, l', c, _, _, _, hf => by simp [setFields] at hf
  | i :: is, o :: l0, l, l', c, hp, hs, ho, hf => by
    simp only [List.map_cons, setFields] at hf
    split at hf
    · rename_i z hz
      split at hf
      · rename_i hi
        obtain ⟨k1, k2⟩ := fldOk_ok h o hz
        have hcl := slotsR_len hs
        have hcell := one_cells k2
        have hcs : (a.eval o.2).cells.size = 1 := by have := congrArg List.length hcell; simpa using this
        obtain ⟨c1, e1, e2⟩ := fill_cons place c i (a.eval o.2) (List.zip is (l0.map fun o => a.eval o.2)) (hp i hi) hcs (by simp at hcl; omega)
        rw [hcell, ← set_eq _ _ _ (by simp at hcl ⊢; omega)] at e1
        obtain ⟨c2, e3, e4, e5⟩ := setFields_ok h is l0 (l.set i z) c1 (fun j hj => hp j (by simpa using hj)) (by rw [e1]; exact slotsR_set i hs k1) (fun u hu => by
          rw [e1] at hu
          rcases List.mem_or_eq_of_mem_set hu with hu | rfl
          · exact ho u hu
          · exact k2) hf
        exact ⟨c2, by simp only [List.map_cons, List.zip_cons_cons]; rw [e2]; exact e3, e4, e5⟩
      · cases hf
    · cases hf
theorem ok_build (hT : TabOk P T) (h : Inv N w0 Mv Gb Gs hd fp s a w) {own : List Nat} {o : Oper} {tid : Nat} {parts : Array (Nat × Operand)} {fr : Ob} {z : Slot} {m : List (Nat × Ob)} (ho : o.op = .build tid parts)
    (hop : opC T own o (views T s o) fr = some (true, z, m)) : OpOk P N w0 Mv Gb s a w o z m := by
  simp only [opC, ho] at hop
  split at hop
  · rename_i t ht
    have hops : opnds T o = parts.toList.map fun p => (fieldT (under t) p.1, p.2) := by simp only [opnds, ho, ht]
    split at hop
    · rename_i hc
      simp only [Bool.and_eq_true] at hc
      split at hop
      · unfold aggBuild at hop
        split at hop
        · rename_i hag
          split at hop
          · rename_i l hf
            cases hop
            simp only [views, hops] at hf
            obtain ⟨fs, g1, g2, g3⟩ := rec_facts hT ht hc.1
            obtain ⟨i, hi, hs, hby, hz⟩ := (hT.1 _ _ ht).info
            obtain ⟨pl, p1, p2⟩ := places_run (P := P) (w := w) hT g2
            have hzc : (zeroV t).cells.toList = zeroC (under t) := by unfold zeroV; rw [if_pos g3, zeroC_under]; simp [Value.cells]
            obtain ⟨q1, q2⟩ := zeroF_ok (w := w) (Gs := Gs) (Gb := Gb) (hd := hd) (ob := s.ob) (under t) hag.2
            have hzl : (zeroF (under t)).length = sz (under t) := by rw [← slotsR_len q1, (zeroRep w (Gof Gs Gb false) (under t)).len]
            obtain ⟨c', f1, f2, f3⟩ := setFields_ok h (place := (pl[·]?)) _ _ (zeroF (under t)) (zeroV t).cells (fun j hj => by
              rw [hzl] at hj
              obtain ⟨u, hu⟩ := ones_some hag.2 hj
              have := p2 j u hu
              rw [ones_off hag.2 (by rw [hu]; rfl), (ones_T hag.2 hu).1] at this
              simpa using this) (by rw [hzc]; exact q1) (by rw [hzc]; exact q2) hf
            have hpl : (parts.map fun (p : Nat × Operand) => (p.1, a.eval p.2)).toList = List.zip (parts.toList.map (·.1)) ((parts.toList.map fun p => (fieldT (under t) p.1, p.2)).map fun o => a.eval o.2) := by
              simp only [Array.toList_map, List.map_map]
              rw [List.zip_map']
              rfl
            have hrun : (execOp a.eval o).run P w = .ok (.value (.agg c')) w := by
              simp only [execOp, ho, Sem.run_bind, Instr.build, zeroValue, typeInfo, run_program, hi, hz, run_underlying g1, Result.andThen_ok, Sem.run_pure]
              rw [p1]
              simp only [Result.andThen_ok]
              rw [hpl, f1]
              rfl
            exact OpOk.of_put h hrun (by simp only [SlotR]; exact ⟨c'.toList, by simp, f3, f2⟩)
          · cases hop
        · cases hop
      split at hop
      · rename_i tn y hf
        simp only [Option.some.injEq, Prod.mk.injEq, true_and] at hop
        obtain ⟨rfl, rfl⟩ := hop
        simp only [views, hops] at hf ⊢
        obtain ⟨Gs', fp', h1, h2, h3, h4, h5⟩ := pub_data h (parts.toList.map fun p => (fieldT (under t) p.1, p.2))
        obtain ⟨fs, g1, g2, g3⟩ := rec_facts hT ht hc.1
        obtain ⟨i, hi, hs, hby, hz⟩ := (hT.1 _ _ ht).info
        obtain ⟨pl, p1, p2⟩ := places_run (P := P) (w := w) hT g2
        have hzc : (zeroV t).cells.toList = zeroC t := by unfold zeroV; rw [if_pos g3]; simp [Value.cells]
        obtain ⟨c', f1, f2⟩ := fillD_ok (Gs := Gs') (Gb := Gb) (a := a) (w := w) _ _ (unD t (zeroD t)) false (zeroV t).cells (pl[·]?) (fun i u hu => by simpa using p2 i u hu) h3 (by rw [hzc]; exact (zeroRep w _ t).un) hf
        have hpl : (parts.map fun (p : Nat × Operand) => (p.1, a.eval p.2)).toList = List.zip (parts.toList.map (·.1)) ((parts.toList.map fun p => (fieldT (under t) p.1, p.2)).map fun o => a.eval o.2) := by
          simp only [Array.toList_map, List.map_map]
          rw [List.zip_map']
          rfl
        have hrun : (execOp a.eval o).run P w = .ok (.value (.agg c')) w := by
          simp only [execOp, ho, Sem.run_bind, Instr.build, zeroValue, typeInfo, run_program, hi, hz, run_underlying g1, Result.andThen_ok, Sem.run_pure]
          rw [p1]
          simp only [Result.andThen_ok]
          rw [hpl, f1]
          rfl
        refine ⟨_, w, _, _, _, .inl hrun, h1.put o.dst (mkVal_ok ?_)⟩
        exact ⟨c'.toList, f2.fo, by rw [if_pos g3]⟩
      · cases hop
    · cases hop
  · cases hop
theorem ok_newBx {o : Oper} {d : Nat} {t : Ty} {l : List Slot} {w1 : World} {b : Nat} {vs : List Value} (hd' : o.dst = some d) (hk : s.ob.getD (4 * d) .gone = .none) (h1 : Inv N w0 Mv Gb Gs hd fp s a w1) (hF : Free N Mv Gb Gs fp w1 b)
    (hrun : (execOp a.eval o).run P w = .ok (.value (.pointer (some ⟨b, 0, none⟩))) w1) (q1 : SlotsR w1 Gs Gb hd s.ob l vs) (q2 : ∀ u ∈ vs, u.oneCell' = true) (hlen : vs.length = sz t) (hr : w1.rangeAt b 0 vs) (hth : w1.there b 0 (sz t)) :
    OpOk P N w0 Mv Gb s a w o (.ptr (4 * d) []) [(4 * d, .bx t l)] := by
  have h6 := h1.newKey (k := 4 * d) (v := .pointer (some ⟨b, 0, none⟩)) hk (F := fun c => c = b) (by rintro c rfl; exact hF) (ob := .bx t l) rfl ⟨b, 0, vs, rfl, rfl, q2, q1, hr, hlen, hth⟩
  have hfin := h6.put (some d) (z := .ptr (4 * d) []) (v := .pointer (some ⟨b, 0, none⟩)) (by
     simp only [SlotR]
     have hlt : 4 * d < s.ob.length := by
      rcases Nat.lt_or_ge (4 * d) s.ob.length with h | h
      · exact h
      · rw [List.getD_eq_getElem?_getD, List.getElem?_eq_none h] at hk; cases hk
     rw [getD_set_self, if_pos hlt]
     refine ⟨rfl, fun t' ht' => ⟨b, 0, by simp, ?_⟩⟩
     simp only [obShape, Option.some.injEq, Prod.mk.injEq, true_and] at ht'
     subst ht'; simp [pathOff])
  unfold OpOk
  rw [hd']
  exact ⟨_, _, _, _, _, .inl hrun, hfin⟩
theorem ok_alloc (hT : TabOk P T) (h : Inv N w0 Mv Gb Gs hd fp s a w) {own : List Nat} {o : Oper} {tid : Nat} {z : Slot} {m : List (Nat × Ob)} (ho : o.op = .alloc tid)
    (hop : opC T own o (views T s o) (freshOb s o.dst) = some (true, z, m)) : OpOk P N w0 Mv Gb s a w o z m := by
  simp only [opC, ho, views, opnds, List.map] at hop
  split at hop
  · rename_i t d ht hd' hfr
    obtain ⟨i, hi, hs, hby, hz⟩ := (hT.1 _ _ ht).info
    split at hop
    · unfold bxAlloc at hop
      split at hop
      · rename_i hag
        cases hop
        have hrun : (execOp a.eval o).run P w = .ok (.value (.pointer (some ⟨w.heap.size, 0, none⟩))) (w.alloc (.cells (zeroV t).cells tid)) := by
          simp only [execOp, ho, Sem.run_bind, Instr.alloc, zeroValue, typeInfo, run_program, hi, hz, Result.andThen_ok, Sem.run_pure, newVar, newRow]
          rfl
        have hA := h.alloc (.cells (zeroV t).cells tid)
        have hk : s.ob.getD (4 * d) .gone = .none := by rw [hd'] at hfr; simpa [freshOb] using hfr
        have hzc : (zeroV t).cells.toList = zeroC (under t) := by unfold zeroV; rw [if_pos hag.1, zeroC_under]; simp [Value.cells]
        obtain ⟨q1, q2⟩ := zeroF_ok (w := w.alloc (.cells (zeroV t).cells tid)) (Gs := Gs) (Gb := Gb) (hd := hd) (ob := s.ob) (under t) hag.2
        have hlen : (zeroC (under t)).length = sz t := by rw [(zeroRep w (Gof Gs Gb false) (under t)).len, sz_under]
        exact ok_newBx hd' hk hA.1 hA.2 hrun q1 q2 hlen (rangeAt_new w _ _ _ ⟨[], by simp [hzc]⟩) (there_new w _ _ _ (by have := congrArg List.length hzc; simp at this; omega))
      · cases hop
    simp only [Option.some.injEq, Prod.mk.injEq, true_and] at hop
    obtain ⟨rfl, rfl⟩ := hop
    have hzc := (VRep.cells (w := w) (G := Gof Gs Gb false) (t := t) (x := zeroD t) (v := zeroV t) ⟨_, zeroRep _ _ _, rfl⟩)
    have hrun : (execOp a.eval o).run P w = .ok (.value (.pointer (some ⟨w.heap.size, 0, none⟩))) (w.alloc (.cells (zeroV t).cells tid)) := by
      simp only [execOp, ho, Sem.run_bind, Instr.alloc, zeroValue, typeInfo, run_program, hi, hz, Result.andThen_ok, Sem.run_pure, newVar, newRow]
      rfl
    have hA := h.alloc (.cells (zeroV t).cells tid)
    have hk : s.ob.getD (4 * d) .gone = .none := by rw [hd'] at hfr; simpa [freshOb] using hfr
    have hmv : ∀ b, Gof Gs Gb false b → (w.alloc (.cells (zeroV t).cells tid)).heap[b]? = w.heap[b]? := fun b hb => Below.heap_alloc w _ _ (by
      rcases hb with hb | hb
      · exact (h.gs b hb).1
      · cases hb.1)
    have h1 := hA.1.newKey (k := 4 * d) (v := .pointer (some ⟨w.heap.size, 0, none⟩)) hk (F := fun c => c = w.heap.size) (by rintro c rfl; exact hA.2) (ob := .box false t (zeroD t)) rfl
      ⟨w.heap.size, 0, _, rfl, rfl, hzc.move (fun _ h => h) hmv, rangeAt_new w _ _ _ ⟨[], by simp⟩, there_new w _ _ _ (by have := hzc.len; simp at this; omega)⟩
    have hfin := h1.put (some d) (z := .ptr (4 * d) []) (v := .pointer (some ⟨w.heap.size, 0, none⟩)) (by
     simp only [SlotR]
     have hlt : 4 * d < s.ob.length := by
      rcases Nat.lt_or_ge (4 * d) s.ob.length with h | h
      · exact h
      · rw [List.getD_eq_getElem?_getD, List.getElem?_eq_none h] at hk; cases hk
     rw [getD_set_self, if_pos hlt]
     refine ⟨rfl, fun t' ht' => ⟨w.heap.size, 0, by simp, ?_⟩⟩
     simp only [obShape, Option.some.injEq, Prod.mk.injEq, true_and] at ht'
     subst ht'; simp [pathOff])
    unfold OpOk
    rw [hd']
    exact ⟨_, _, _, _, _, .inl hrun, hfin⟩
  · cases hop
theorem ok_box (hT : TabOk P T) (h : Inv N w0 Mv Gb Gs hd fp s a w) {own : List Nat} {o : Oper} {tid : Nat} {x : Operand} {z : Slot} {m : List (Nat × Ob)} (ho : o.op = .box tid x)
    (hop : opC T own o (views T s o) (freshOb s o.dst) = some (true, z, m)) : OpOk P N w0 Mv Gb s a w o z m := by
  simp only [opC, ho, views, opnds, List.map] at hop
  split at hop
  · unfold bxBox at hop
    split at hop
    · rename_i t d t' l ht hd' hp hfr
      split at hop
      · rename_i hc
        obtain ⟨rfl, hll⟩ := hc
        cases hop
        have hA := h.alloc (.cells (a.eval x).cells tid)
        have hk : s.ob.getD (4 * d) .gone = .none := by rw [hd'] at hfr; simpa [freshOb] using hfr
        have hrun : (execOp a.eval o).run P w = .ok (.value (.pointer (some ⟨w.heap.size, 0, none⟩))) (w.alloc (.cells (a.eval x).cells tid)) := by
          simp only [execOp, ho, Sem.run_bind, Instr.box, Result.andThen_ok, Sem.run_pure, newVar, newRow]
          rfl
        obtain ⟨vs, e, q2, q1⟩ := toAgg_ok (rd_ok hA.1 (T.ty tid) x) hp
        have hlen : vs.length = sz t' := by rw [slotsR_len q1, hll]
        have hcells : (a.eval x).cells.toList = vs := by rw [e]; simp [Value.cells]
        exact ok_newBx hd' hk hA.1 hA.2 hrun q1 q2 hlen (rangeAt_new w _ _ _ ⟨[], by simp [hcells]⟩) (there_new w _ _ _ (by have := congrArg List.length hcells; simp at this; omega))
      · cases hop
    · cases hop
  split at hop
  · rename_i t d tn p ht hd' hp hfr
    split at hop
    · rename_i y hy
      simp only [Option.some.injEq, Prod.mk.injEq, true_and] at hop
      obtain ⟨rfl, rfl⟩ := hop
      obtain ⟨Gs', fp', h1, h2, h3, h4, h5⟩ := pub_data h [(T.ty tid, x)]
      have hv := (h3 (T.ty tid, x) (by simp) tn p hp).cells.to hy
      have hm : pubM (view s (T.ty tid, x)) = ([(T.ty tid, x)].map (view s)).flatMap pubM := by simp
      have hA := h1.alloc (.cells (a.eval x).cells tid)
      have hk : (pubS s [(T.ty tid, x)]).ob.getD (4 * d) .gone = .none := by rw [h4]; rw [hd'] at hfr; simpa [freshOb] using hfr
      have hrun : (execOp a.eval o).run P w = .ok (.value (.pointer (some ⟨w.heap.size, 0, none⟩))) (w.alloc (.cells (a.eval x).cells tid)) := by
        simp only [execOp, ho, Sem.run_bind, Instr.box, Result.andThen_ok, Sem.run_pure, newVar, newRow]
        rfl
      have hmv : ∀ b, Gof Gs' Gb tn b → (w.alloc (.cells (a.eval x).cells tid)).heap[b]? = w.heap[b]? := fun b hb => Below.heap_alloc w _ _ (by
        rcases hb with hb | hb
        · exact (h1.gs b hb).1
        · have := (h1.gb b hb.2).1; have := h1.le; have := h1.ev.size; omega)
      have hv' : RepC (w.alloc (.cells (a.eval x).cells tid)) (Gof Gs' Gb (tn && !flat t)) t y (a.eval x).cells.toList := by
        cases hf : flat t with
        | true => exact hv.anyw hf _ _
        | false => simpa using hv.move (fun _ h => h) hmv
      have h6 := hA.1.newKey (k := 4 * d) (v := .pointer (some ⟨w.heap.size, 0, none⟩)) hk (F := fun c => c = w.heap.size) (by rintro c rfl; exact hA.2) (ob := .box (tn && !flat t) t y) rfl
        ⟨w.heap.size, 0, _, rfl, rfl, hv', rangeAt_new w _ _ _ ⟨[], by simp⟩, there_new w _ _ _ (by have := hv.len; simp at this; omega)⟩
      have hfin := h6.put (some d) (z := .ptr (4 * d) []) (v := .pointer (some ⟨w.heap.size, 0, none⟩)) (by
       simp only [SlotR]
       have hlt : 4 * d < (pubS s [(T.ty tid, x)]).ob.length := by
        rcases Nat.lt_or_ge (4 * d) (pubS s [(T.ty tid, x)]).ob.length with h | h
        · exact h
        · rw [List.getD_eq_getElem?_getD, List.getElem?_eq_none h] at hk; cases hk
       rw [getD_set_self, if_pos hlt]
       refine ⟨rfl, fun t' ht' => ⟨w.heap.size, 0, by simp, ?_⟩⟩
       simp only [obShape, Option.some.injEq, Prod.mk.injEq, true_and] at ht'
       subst ht'; simp [pathOff])
      unfold OpOk
      rw [hd', hm]
      exact ⟨_, _, _, _, _, .inl hrun, hfin⟩
    · cases hop
  · cases hop
theorem run_storeAny (hT : TabOk P T) {tid : Nat} {u : Ty} (ht : T.ty tid = some u) {b o : Nat} {v : Value} (hs : v.cells.size = sz u) (h1 : ∀ x ∈ v.cells.toList, x.oneCell' = true) (hth : w.there b o (sz u)) :
    (Instr.storeAt tid (.pointer (some ⟨b, o, none⟩)) v).run P w = .ok () (w.setCells b o v.cells.toList) := by
  obtain ⟨i, hi, hsz, _⟩ := (hT.1 _ _ ht).info
  have := run_storeCells_cells (P := P) b o v.cells.toList 0 w (fun j hj => by simpa using (hth j (by simp at hj; omega)).1) (fun j hj => by simpa using (hth j (by simp at hj; omega)).2) h1
  simp only [Nat.add_zero] at this
  simp [Instr.storeAt, Instr.sureAddr, storeVar, sizeOf, typeInfo, hi, hs, hsz, this]
/-- A place of a row that is written. -/
theorem row_write {G1 G2 : BS} {fpk : BS} {e u : Ty} {xs : List (Den e)} {cells : List Value} {tn tb : Bool} {q : Den u} {b ofs n cap i : Nat} {path : List Nat} {y' : Den e}
    (h0 : OwnRow w (Gof G1 G2 tn) e xs (.slice (some ⟨b, ofs, none⟩) n cap) fpk) (hi : i < xs.length) (hv : RepC w (Gof G1 G2 tb) u q cells) (hy' : putD e (xs.getD i (zeroD e)) path ⟨u, q⟩ = some y') (hfr : fpk b → ¬ G1 b ∧ ¬ G2 b) :
    fpk b ∧ w.there b (ofs + (i * sz e + pathOff e path)) (sz u) ∧ OwnRow (w.setCells b (ofs + (i * sz e + pathOff e path)) cells) (Gof G1 G2 ((tn || tb) && !flat e)) e (xs.set i y') (.slice (some ⟨b, ofs, none⟩) n cap) fpk := by
  rcases h0 with ⟨g1, _⟩ | ⟨b', ofs', cap', cs, g1, g2, g3, g4, g5, g6⟩
  · cases g1
  · cases g1
    have helem := g4.nth i hi
    have g4' := g4.move (w' := w) (G' := Gof G1 G2 (tn || tb)) Gof_or.1 (fun _ _ => rfl)
    have helem' := helem.move (w' := w) (G' := Gof G1 G2 (tn || tb)) Gof_or.1 (fun _ _ => rfl)
    have hv' := hv.move (w' := w) (G' := Gof G1 G2 (tn || tb)) Gof_or.2 (fun _ _ => rfl)
    obtain ⟨r1, r2⟩ := put_rep path helem' (p := ⟨u, q⟩) hy' hv'
    simp only at r1
    have hcl := g4.len
    have hel := helem.len
    have hile : i * sz e + sz e ≤ xs.length * sz e := by
      have : (i + 1) * sz e ≤ xs.length * sz e := Nat.mul_le_mul_right _ hi
      rw [Nat.add_mul, Nat.one_mul] at this; exact this
    have hcap : xs.length * sz e ≤ cap * sz e := Nat.mul_le_mul_right _ g2
    have hdl : cells.length = sz u := hv.len
    have hth : w.there b (ofs + (i * sz e + pathOff e path)) (sz u) := there_sub g6 (by omega)
    have hset := RepL.set g4' i hi r2
    have hcs : cs.take (i * sz e) ++ ((((cs.drop (i * sz e)).take (sz e)).take (pathOff e path) ++ (cells ++ ((cs.drop (i * sz e)).take (sz e)).drop (pathOff e path + sz u))) ++ cs.drop ((i + 1) * sz e)) =
        cs.take (i * sz e + pathOff e path) ++ (cells ++ cs.drop (i * sz e + pathOff e path + cells.length)) := by
      rw [Nat.add_mul, Nat.one_mul]
      apply List.ext_getElem?
      intro j
      simp only [List.getElem?_append, List.getElem?_take, List.getElem?_drop, List.length_append, List.length_take, List.length_drop]
      repeat' split
      all_goals first
        | rfl
        | omega
        | (congr 1; omega)
        | (rw [List.getElem?_eq_none (by omega), List.getElem?_eq_none (by omega)])
        | (rw [List.getElem?_eq_none (by omega)])
        | (symm; rw [List.getElem?_eq_none (by omega)])
    rw [hcs] at hset
    have hmv : ∀ c, Gof G1 G2 (tn || tb) c → (w.setCells b (ofs + (i * sz e + pathOff e path)) cells).heap[c]? = w.heap[c]? := fun c hc => setCells_block b _ _ w c (fun e => by
      subst e; exact hc.elim (hfr g3).1 (fun q => (hfr g3).2 q.2))
    have hnew : RepL (w.setCells b (ofs + (i * sz e + pathOff e path)) cells) (Gof G1 G2 ((tn || tb) && !flat e)) e (xs.set i y') (cs.take (i * sz e + pathOff e path) ++ (cells ++ cs.drop (i * sz e + pathOff e path + cells.length))) := by
      cases hf : flat e with
      | true => exact hset.anyw hf _ _
      | false => simpa using hset.move (fun _ h => h) hmv
    have hrg := rangeAt_set g5 (off := i * sz e + pathOff e path) (ds := cells) (by omega) (by rw [hdl]; exact hth)
    exact ⟨g3, hth, .inr ⟨b, ofs, cap, _, by simp, by simpa using g2, g3, hnew, hrg, there_set g6 (by rw [hdl]; exact hth)⟩⟩
theorem modOb_not' : ∀ {m : List (Nat × Ob)} {l : List Ob} {k : Nat} (d : Ob), k ∉ m.map (·.1) → (modOb l m).getD k d = l.getD k d
  | [], _, _, _, _ => rfl
  | (j, b) :: r, l, k, d, h => by
    simp only [List.map_cons, List.mem_cons, not_or] at h
    simp only [modOb]
    rw [getD_set_ne' _ _ _ h.1]
    exact modOb_not' d h.2
theorem pubM_keys {z : Slot} {kb : Nat × Ob} (h : kb ∈ pubM (viewZ s z)) : kb.1 ∈ keysOf z := by
  cases z with
  | agg t l =>
    obtain ⟨z', h1, h2⟩ := pubL_ok (s := s) (l := l) (by simpa [pubM, viewZ, obsOf] using h)
    exact List.mem_filterMap.2 ⟨z', h1, (pub1_ok h2).2.1⟩
  | ref k => have := (pub1_ok (z := .ref k) h).2.1; simpa [keysOf, keyOf, eq_comm] using this
  | vw k lo hi => have := (pub1_ok (z := .vw k lo hi) h).2.1; simpa [keysOf, keyOf, eq_comm] using this
  | _ => simp [pubM, pub1, viewZ] at h
theorem ok_bxStore (hT : TabOk P T) (h : Inv N w0 Mv Gb Gs hd fp s a w) {o : Oper} {tid : Nat} {p x : Operand} {t : Ty} {l : List Slot} {z : Slot} {m : List (Nat × Ob)} (ho : o.op = .store tid p x)
    (hob : obOf s (rd s none p) = .bx t l) (hop : bxStore T tid (view s (none, p)) (view s (T.ty tid, x)) t l = some (true, z, m)) : OpOk P N w0 Mv Gb s a w o z m := by
  have hp := rd_ok h none p
  have fin : ∀ {k : Nat} {path : List Nat} {u : Ty} {l' : List Slot}, rd s none p = .ptr k path → T.ty tid = some u → (a.eval x).cells.size = sz u → (∀ v ∈ (a.eval x).cells.toList, v.oneCell' = true) → pathOff t path + sz u ≤ sz t →
      (∀ vs, SlotsR w Gs Gb hd s.ob l vs → (∀ v ∈ vs, v.oneCell' = true) → vs.length = sz t → SlotsR w Gs Gb hd s.ob l' (vs.take (pathOff t path) ++ ((a.eval x).cells.toList ++ vs.drop (pathOff t path + (a.eval x).cells.toList.length)))) →
      OpOk P N w0 Mv Gb s a w o .und [(k, .bx t l')] := by
    intro k path u l' hz hty hvs hone hle hsl
    rw [hz] at hp hob
    simp only [obOf, keyOf] at hob
    simp only [SlotR] at hp
    obtain ⟨b, ofs, e1, e2⟩ := hp.2 t (by rw [hob]; rfl)
    have h0 := h.obs k
    rw [hob] at h0
    obtain ⟨b', o', vs, g1, g2, g3, g4, g5, g6, g7⟩ := h0
    rw [e1] at g1
    cases g1
    have hdl : (a.eval x).cells.toList.length = sz u := by simpa using hvs
    have hth : w.there b (ofs + pathOff t path) (sz u) := there_sub g7 hle
    have hrun : (execOp a.eval o).run P w = .ok .skip (w.setCells b (ofs + pathOff t path) (a.eval x).cells.toList) := by
      simp only [execOp, ho, e2, Sem.run_bind, run_storeAny hT hty hvs hone hth, Result.andThen_ok, Sem.run_pure]
    have hmv : ∀ c, Gs c ∨ Gb c → (w.setCells b (ofs + pathOff t path) (a.eval x).cells.toList).heap[c]? = w.heap[c]? := fun c hc => setCells_block b _ _ w c (fun e => by
      subst e; exact hc.elim (h.own k c g2).2.2.1 (h.own k c g2).2.2.2)
    have hst := h.store (k := k) (b := b) g2 (ob := .bx t l') (by rw [hob]; rfl) (fun hh => by rw [hob] at hh; cases hh) (by rw [hob]; rfl) rfl (ofs + pathOff t path) (a.eval x).cells.toList
      ⟨b, ofs, _, e1, g2, fun v hv => by
        rcases List.mem_append.1 hv with hv | hv
        · exact g3 v (List.mem_of_mem_take hv)
        · rcases List.mem_append.1 hv with hv | hv
          · exact hone v hv
          · exact g3 v (List.mem_of_mem_drop hv), slots_move (fun _ x => x) hmv (fun j hj => ⟨hj, rfl, fun _ x => x⟩) (fun _ h => h) _ _ (hsl vs g4 g3 g6), rangeAt_set g5 (by omega) (by rw [hdl]; exact hth),
        by simp only [List.length_append, List.length_take, List.length_drop]; omega, there_set g7 (by rw [hdl]; exact hth)⟩
    have hfin := hst.put o.dst (z := .und) (v := undef) (by simp only [SlotR])
    exact ⟨undef, _, _, _, _, .inr ⟨hrun, rfl⟩, hfin⟩
  unfold bxStore at hop
  split at hop
  · rename_i k hz
    simp only [view, viewZ] at hz hop
    split at hop
    · rename_i t' l' hag
      split at hop
      · rename_i hc
        obtain ⟨hty, rfl, hll⟩ := hc
        cases hop
        obtain ⟨vs, e, q2, q1⟩ := toAgg_ok (rd_ok h (T.ty tid) x) hag
        have hcells : (a.eval x).cells.toList = vs := by rw [e]; simp [Value.cells]
        have hlen : vs.length = sz t' := by rw [slotsR_len q1, hll]
        refine fin hz hty (by have := congrArg List.length hcells; simp at this; omega) (by rw [hcells]; exact q2) (by simp [pathOff]) (fun us _ _ hu => ?_)
        simp only [pathOff, List.take_zero, Nat.zero_add, List.nil_append, hcells]
        rw [List.drop_eq_nil_of_le (by omega), List.append_nil]
        exact q1
      · cases hop
    · cases hop
  · rename_i k f hz
    simp only [view, viewZ] at hz
    split at hop
    · rename_i u z' hty hf
      split at hop
      · rename_i hc
        cases hop
        obtain ⟨k1, k2⟩ := fldOk_ok h (T.ty tid, x) hf
        simp only at k1 k2
        have hcell := one_cells k2
        have hpo := path1_off hc.2.1 hc.2.2
        have hlt := ones_lt hc.2.1 hc.2.2
        rw [sz_under] at hlt
        refine fin hz hty (by have := congrArg List.length hcell; simp at this; omega) (by rw [hcell]; simpa using k2) (by rw [hpo]; omega) (fun us q1 _ hu => ?_)
        rw [hpo, hcell, List.length_singleton, ← set_eq _ _ _ (by omega)]
        exact slotsR_set f q1 k1
      · cases hop
    · cases hop
  · cases hop
theorem ok_dpStore (hT : TabOk P T) (h : Inv N w0 Mv Gb Gs hd fp s a w) {o : Oper} {tid : Nat} {p x : Operand} {e : Ty} {xs : List (Den e)} {z : Slot} {m : List (Nat × Ob)} (ho : o.op = .store tid p x)
    (hob : (view s (none, p)).b = .dp e xs) (hop : dpStore T tid (view s (none, p)) (view s (T.ty tid, x)) e xs = some (true, z, m)) : OpOk P N w0 Mv Gb s a w o z m := by
  unfold dpStore at hop
  split at hop
  · rename_i k i pv ks hz he
    split at hop
    · rename_i y hy
      obtain rfl := PV.is_eq hy
      split at hop
      · rename_i hc
        obtain ⟨hty, hkn⟩ := hc
        simp only [Option.some.injEq, Prod.mk.injEq, decide_eq_true_eq] at hop
        obtain ⟨hi, rfl, rfl⟩ := hop
        have hkne : k ∉ ks := by simpa using hkn
        have hp := rd_ok h none p
        simp only [view, viewZ] at hz hob
        rw [hz] at hp hob
        simp only [obOf, keyOf] at hob
        simp only [SlotR] at hp
        obtain ⟨b, ofs, n, cap0, e1, e2, e3⟩ := hp.2 e (by rw [hob]; rfl)
        obtain ⟨k1, k2, k3, k4, k5⟩ := elemOwn_ok h (rd_ok h (T.ty tid) x) he
        simp only at k3 k4 k5
        have h0 : DpR w e xs (hd k) (fp k) := by have := h.obs k; rw [hob] at this; exact this
        rcases h0 with ⟨h1, h2⟩ | ⟨G, b', o', cap, cs, g1, g2, g3, g4, g5, g6, g7⟩
        · rw [e1] at h1; cases h1
        · rw [e1] at g1
          cases g1
          have hkk := h.kills ks k1 k2
          have hobk : (modOb s.ob (gones ks)).getD k .none = .dp e xs := (modOb_ne _ (by rw [gones_keys]; exact hkne)).trans hob
          have hfd := hkk.feed (k := k) (by simp only [hobk]; rfl) (F := fun c => ∃ j ∈ ks, fp j c) (fun c ⟨j, hj, hc⟩ => kills_free h hj hc)
          have hcl := g5.rep.len
          have hdl : (a.eval x).cells.toList.length = sz e := by simpa using k4
          have hle : i * sz e + sz e ≤ xs.length * sz e := by
            have : (i + 1) * sz e ≤ xs.length * sz e := Nat.mul_le_mul_right _ hi
            rwa [Nat.add_mul, Nat.one_mul] at this
          have hle2 : xs.length * sz e ≤ cap0 * sz e := Nat.mul_le_mul_right _ g2
          have hth : w.there b (ofs + i * sz e) (sz e) := there_sub g7 (by omega)
          have hne : ∀ c, (∃ j ∈ ks, fp j c) → c ≠ b := by
            rintro c ⟨j, hj, hc⟩ rfl
            have := h.disj j k _ hc g3
            subst this
            exact hkne hj
          have hmv : ∀ c, c ≠ b → (w.setCells b (ofs + i * sz e) (a.eval x).cells.toList).heap[c]? = w.heap[c]? := fun c hc => setCells_block b _ _ w c hc
          have hsep := SepL.set (F := fun c => G c ∨ ∃ j ∈ ks, fp j c) g5 i hi k3 (fun _ h => .inl h) (fun _ h => .inr h) (fun c hc ⟨j, hj, hc'⟩ => by
            have := h.disj j k c hc' (g4 c hc).1
            subst this
            exact hkne hj)
          have hst := hfd.store (k := k) (b := b) (by rw [upd_same]; exact .inl ⟨hkne, g3⟩) (ob := .dp e (xs.set i y)) (by simp only [hobk]; rfl) (fun hh => by simp only [hobk] at hh; cases hh) (by simp only [hobk]; rfl) rfl (ofs + i * sz e) (a.eval x).cells.toList (by
            rw [e1]
            refine .inr ⟨fun c => G c ∨ ∃ j ∈ ks, fp j c, b, ofs, cap0, _, by simp, by simpa using g2, ?_, fun c hc => ⟨?_, hc.elim (fun q => (g4 c q).2) (hne c)⟩, hsep.move (fun _ h => h) (fun c hc => hmv c (hc.elim (fun q => (g4 c q).2) (hne c))), ?_, there_set g7 (by rw [hdl]; exact hth)⟩
            · rw [upd_same]; exact .inl ⟨hkne, g3⟩
            · rw [upd_same]; exact hc.imp (fun q => ⟨hkne, (g4 c q).1⟩) id
            · have := rangeAt_set (off := i * sz e) g6 (ds := (a.eval x).cells.toList) (by omega) (by rw [hdl]; exact hth)
              rwa [hdl, show i * sz e + sz e = (i + 1) * sz e by rw [Nat.add_mul, Nat.one_mul]] at this)
          have hfin := hst.put o.dst (z := .und) (v := undef) (by simp only [SlotR])
          unfold OpOk
          refine ⟨undef, _, _, _, _, .inr ⟨?_, rfl⟩, hfin⟩
          simp only [execOp, ho, e3, pathOff, Nat.add_zero, Sem.run_bind, run_storeAny hT hty k4 k5 hth, Result.andThen_ok, Sem.run_pure]
      · cases hop
    · cases hop
  · cases hop
theorem ok_store (hT : TabOk P T) (h : Inv N w0 Mv Gb Gs hd fp s a w) {own : List Nat} {o : Oper} {tid : Nat} {p x : Operand} {fr : Ob} {z : Slot} {m : List (Nat × Ob)} (ho : o.op = .store tid p x)
    (hop : opC T own o (views T s o) fr = some (true, z, m)) : OpOk P N w0 Mv Gb s a w o z m := by
  simp only [opC, ho, views, opnds, List.map] at hop
  split at hop
  · rename_i t l hob
    exact ok_bxStore hT h ho hob hop
  · rename_i e xs hob
    exact ok_dpStore hT h ho hob hop
  split at hop
  · rename_i u tb pv hty hp
    split at hop
    · rename_i q hq
      obtain ⟨Gs', fp', h1, h2, h3, h4, h5⟩ := pub_data h [(T.ty tid, x)]
      have hv := (h3 (T.ty tid, x) (by simp) tb pv hp).cells.to hq
      have hm : pubM (view s (T.ty tid, x)) = ([(T.ty tid, x)].map (view s)).flatMap pubM := by simp
      have hp1 := rd_ok h1 none p
      have hrd : rd (pubS s [(T.ty tid, x)]) none p = rd s none p := rfl
      have hone := hv.one
      have hvs : (a.eval x).cells.size = sz u := by have := hv.len; simpa using this
      have run : ∀ b ofs, a.eval p = .pointer (some ⟨b, ofs, none⟩) → w.there b ofs (sz u) → (execOp a.eval o).run P w = .ok .skip (w.setCells b ofs (a.eval x).cells.toList) := by
        intro b ofs e hth
        simp only [execOp, ho, e, Sem.run_bind, run_storeAny hT hty hvs hone hth, Result.andThen_ok, Sem.run_pure]
      have nopub : ∀ {k : Nat} {ob : Ob}, s.ob.getD k .none = ob → (∀ tn nx e x, ob ≠ .sl tn nx e x) → (pubS s [(T.ty tid, x)]).ob.getD k .none = ob ∧ fp' k = fp k := by
        intro k ob h6 h7
        rcases h5 k with h8 | ⟨t1, t2, t3, t4, h8, _⟩
        · exact ⟨h8.1.trans h6, h8.2⟩
        · exact absurd (h6 ▸ h8) (h7 _ _ _ _)
      split at hop
      · rename_i k path tn t y hz hob
        simp only [view, viewZ] at hz hob
        rw [hz] at hob
        simp only [obOf, keyOf] at hob
        split at hop
        · rename_i y' hy'
          simp only [Option.some.injEq, Prod.mk.injEq, true_and] at hop
          obtain ⟨rfl, rfl⟩ := hop
          obtain ⟨n1, n2⟩ := nopub hob (by intro _ _ _ _ h; cases h)
          rw [hrd, hz] at hp1
          simp only [SlotR] at hp1
          obtain ⟨b, ofs, e1, e2⟩ := hp1.2 t (by rw [n1]; rfl)
          have h0 := h1.obs k
          rw [n1] at h0
          obtain ⟨b', ofs', cs, g1, g2, g3, g4, g5⟩ := h0
          rw [e1] at g1
          cases g1
          have g3' := g3.move (w' := w) (G' := Gof Gs' Gb (tn || tb)) Gof_or.1 (fun _ _ => rfl)
          have hv' := hv.move (w' := w) (G' := Gof Gs' Gb (tn || tb)) Gof_or.2 (fun _ _ => rfl)
          obtain ⟨r1, r2⟩ := put_rep path g3' (p := ⟨u, q⟩) hy' hv'
          simp only at r1
          have hcl := g3.len
          have hth : w.there b (ofs + pathOff t path) (sz u) := there_sub g5 (by omega)
          have hdl : (a.eval x).cells.toList.length = sz u := hv.len
          have hmv : ∀ c, Gof Gs' Gb (tn || tb) c → (w.setCells b (ofs + pathOff t path) (a.eval x).cells.toList).heap[c]? = w.heap[c]? := fun c hc => setCells_block b _ _ w c (fun e => by
            subst e; exact hc.elim (h1.own k c g2).2.2.1 (fun q => (h1.own k c g2).2.2.2 q.2))
          have hnew : RepC (w.setCells b (ofs + pathOff t path) (a.eval x).cells.toList) (Gof Gs' Gb ((tn || tb) && !flat t)) t y' (cs.take (pathOff t path) ++ ((a.eval x).cells.toList ++ cs.drop (pathOff t path + sz u))) := by
            cases hf : flat t with
            | true => exact r2.anyw hf _ _
            | false => simpa using r2.move (fun _ h => h) hmv
          have hst := h1.store (k := k) (b := b) g2 (ob := .box ((tn || tb) && !flat t) t y') (by rw [n1]; rfl) (fun _ => rfl) (by rw [n1]; rfl) rfl (ofs + pathOff t path) (a.eval x).cells.toList
            ⟨b, ofs, _, e1, g2, hnew, by rw [← hdl]; exact rangeAt_set g4 (by omega) (by rw [hdl]; exact hth), there_set g5 (by rw [hdl]; exact hth)⟩
          have hfin := hst.put o.dst (z := .und) (v := undef) (by simp only [SlotR])
          unfold OpOk
          rw [hm]
          exact ⟨undef, _, _, _, _, .inr ⟨run _ _ e2 hth, rfl⟩, hfin⟩
        · cases hop
      · rename_i k i path tn nx e xs hz hob
        simp only [view, viewZ] at hz hob
        rw [hz] at hob
        simp only [obOf, keyOf] at hob
        split at hop
        · cases hop
        · rename_i hne
          split at hop
          · rename_i y' hy'
            simp only [Option.some.injEq, Prod.mk.injEq, decide_eq_true_eq] at hop
            obtain ⟨hi, rfl, rfl⟩ := hop
            obtain ⟨n1, n2⟩ : (pubS s [(T.ty tid, x)]).ob.getD k .none = .sl tn nx e xs ∧ fp' k = fp k := by
              rcases h5 k with h8 | ⟨t1, t2, t3, t4, h8, h9⟩
              · exact ⟨h8.1.trans hob, h8.2⟩
              · exfalso
                have hpm : (pubS s [(T.ty tid, x)]).ob.getD k .none = s.ob.getD k .none := by
                  simp only [pubS, List.map_cons, List.map_nil, List.flatMap_cons, List.flatMap_nil, List.append_nil]
                  refine modOb_not' _ (fun hm => ?_)
                  obtain ⟨kb, hkb, e⟩ := List.mem_map.1 hm
                  have := pubM_keys hkb
                  rw [e] at this
                  exact hne (by simpa [view, viewZ] using this)
                rw [hpm, h8] at h9
                cases h9
            rw [hrd, hz] at hp1
            simp only [SlotR] at hp1
            obtain ⟨b, ofs, n, cap, e1, e2, e3⟩ := hp1.2 e (by rw [n1]; rfl)
            have h0 := h1.obs k
            rw [n1] at h0
            have h00 : OwnRow w (Gof Gs' Gb tn) e xs (.slice (some ⟨b, ofs, none⟩) n cap) (fp' k) := by rw [← e1]; exact h0.1
            obtain ⟨w1, w2, w3⟩ := row_write h00 hi hv hy' (fun hb => ⟨(h1.own k b hb).2.2.1, (h1.own k b hb).2.2.2⟩)
            have hst := h1.store (k := k) (b := b) w1 (ob := .sl ((tn || tb) && !flat e) nx e (xs.set i y')) (by rw [n1]; rfl) (fun h => by rw [n1] at h; cases h) (by rw [n1]; rfl) rfl (ofs + (i * sz e + pathOff e path)) (a.eval x).cells.toList
              ⟨by rw [e1]; exact w3, fun hnx hx => by
              have : xs = [] := by
                have := congrArg List.length hx
                simp at this
                exact this
              subst this; simp at hi⟩
            have hfin := hst.put o.dst (z := .und) (v := undef) (by simp only [SlotR])
            unfold OpOk
            rw [hm]
            exact ⟨undef, _, _, _, _, .inr ⟨run _ _ (by rw [e3, Nat.add_assoc]) w2, rfl⟩, hfin⟩
          · cases hop
      · rename_i k i path tn e xs hz hob
        simp only [view, viewZ] at hz hob
        rw [hz] at hob
        simp only [obOf, keyOf] at hob
        split at hop
        · cases hop
        · rename_i hne
          split at hop
          · rename_i y' hy'
            simp only [Option.some.injEq, Prod.mk.injEq, decide_eq_true_eq] at hop
            obtain ⟨hi, rfl, rfl⟩ := hop
            obtain ⟨n1, n2⟩ := nopub hob (by intro _ _ _ _ hh; cases hh)
            rw [hrd, hz] at hp1
            simp only [SlotR] at hp1
            obtain ⟨b, ofs, n, cap, e1, e2, e3⟩ := hp1.2 e (by rw [n1]; rfl)
            have h0 := h1.obs k
            rw [n1] at h0
            have h00 : OwnRow w (Gof Gs' Gb tn) e xs (.slice (some ⟨b, ofs, none⟩) n cap) (fp' k) := by rw [← e1]; exact h0
            obtain ⟨w1, w2, w3⟩ := row_write h00 hi hv hy' (fun hb => ⟨(h1.own k b hb).2.2.1, (h1.own k b hb).2.2.2⟩)
            have hst := h1.store (k := k) (b := b) w1 (ob := .io ((tn || tb) && !flat e) e (xs.set i y')) (by rw [n1]; rfl) (fun _ => rfl) (by rw [n1]; rfl) rfl (ofs + (i * sz e + pathOff e path)) (a.eval x).cells.toList
              (by rw [e1]; exact w3)
            have hfin := hst.put o.dst (z := .und) (v := undef) (by simp only [SlotR])
            unfold OpOk
            rw [hm]
            exact ⟨undef, _, _, _, _, .inr ⟨run _ _ (by rw [e3, Nat.add_assoc]) w2, rfl⟩, hfin⟩
          · cases hop
      · cases hop
    · cases hop
  · cases hop
end Go.Proofs.YtkgpkalclblhbaaGreatDoor.Eng
