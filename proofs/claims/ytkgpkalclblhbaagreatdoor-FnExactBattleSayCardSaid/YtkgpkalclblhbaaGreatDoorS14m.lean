/-
  One operation: maps whose keys are three numbers; a row seen as three numbers.
-/
import Derived.Test.YtkgpkalclblhbaaGreatDoorS14
import Derived.WideKeyRuns
namespace Go.Proofs.YtkgpkalclblhbaaGreatDoor.Eng
open Go Go.RowKit
set_option linter.unusedVariables false
set_option linter.unusedSimpArgs false
set_option linter.unusedSectionVars false

variable {P : Program} {T : Tab} {N : Nat} {w0 : World} {Mv : Mvp} {Gb Gs : BS} {hd : Nat → Value} {fp : Nat → BS} {s : St} {a : Act} {w w' : World}

/-! ### Keys -/
theorem VRep.of_arr {G : BS} {k : Int × Int × Int} {v : Value} (h : VRep w G (.ap 5) k v) : v = keyC k := by
  obtain ⟨cs, h1, h2⟩ := h
  rw [h1.of_arr] at h2
  simpa [isAggT, keyC] using h2
theorem mpKey_ok (h : Inv N w0 Mv Gb Gs hd fp s a w) (o : Option Ty × Operand) {k : Int × Int × Int} (hk : mpKey (view s o) = some k) : a.eval o.2 = keyC k := by
  unfold mpKey at hk
  split at hk
  · rename_i b k' hd'
    cases hk
    exact VRep.of_arr (view_data h o hd').1
  · cases hk
theorem scalar_of {G : BS} {t : Ty} {x : Den t} {v : Value} (hs : scalar t = true) (h : VRep w G t x v) : v = cell1 t x := by
  cases t <;> first | (simp [scalar] at hs; done) | skip
  · exact h.of_int
  · exact h.of_bool
theorem scalar_rep (w : World) (G : BS) {t : Ty} (hs : scalar t = true) (x : Den t) : VRep w G t x (cell1 t x) := by
  cases t <;> first | (simp [scalar] at hs; done) | skip
  · exact .int _ _
  · exact .bool _
theorem keyC_inj {k j : Int × Int × Int} (h : keyC k = keyC j) : k = j := by
  obtain ⟨a, b, c⟩ := k
  obtain ⟨d, e, f⟩ := j
  simp [keyC] at h
  obtain ⟨rfl, rfl, rfl⟩ := h
  rfl
section keys
variable {kt et : TypeId} {i : TypeInfo} (hu : P.underlying kt = some (.array 3 et)) (he : P.underlying et = some (.int .i64)) (hi : P.info? et = some i) (hs : i.size = 1)
include hu he hi hs
theorem run_cell (x y z : Int) (j : Nat) {n : Int} (hj : #[Value.int .i64 x, Value.int .i64 y, Value.int .i64 z][j]? = some (.int .i64 n)) (w : World) : (part et #[.int .i64 x, .int .i64 y, .int .i64 z] j).run P w = .ok (.int .i64 n) w := by
  unfold part isAgg
  simp only [Sem.run_bind, run_underlying he, Result.andThen_ok, Sem.run_pure, Sem.run_ite, Bool.false_eq_true, if_false, hj]
theorem run_checkInt (em : Bool) (n : Nat) (x : Int) (w : World) : (Instr.checkKey em (n + 1) et (.int .i64 x)).run P w = .ok () w := by
  simp [Instr.checkKey, run_underlying he]
theorem run_checkArr (em : Bool) (k : Int × Int × Int) (w : World) : (Instr.checkKey em 10000 kt (keyC k)).run P w = .ok () w := by
  obtain ⟨x, y, z⟩ := k
  have c0 := run_cell hu he hi hs x y z 0 rfl w
  have c1 := run_cell hu he hi hs x y z 1 rfl w
  have c2 := run_cell hu he hi hs x y z 2 rfl w
  have q := fun n => run_checkInt hu he hi hs em 9998 n w
  have hc : P.cellsOf et = 1 := by simp [Program.cellsOf, hi, hs]
  rw [show (10000 : Nat) = 9998 + 1 + 1 from rfl, Instr.checkKey.eq_def]
  simp only [keyC, Sem.run_bind, run_underlying hu, Result.andThen_ok, Std.Legacy.Range.forIn_eq_forIn_range', Std.Legacy.Range.size, Nat.sub_zero, Nat.add_one_sub_one, Nat.div_one, List.range', List.forIn_cons, List.forIn_nil, run_sizeOf w hi, hc, Nat.zero_mul, Nat.one_mul, Nat.mul_one, Nat.zero_add, Nat.reduceAdd, c0, c1, c2, q, Sem.run_pure]
theorem run_eqInt (n : Nat) (x y : Int) (w : World) : (Op.equalIn (n + 1) et (.int .i64 x) (.int .i64 y)).run P w = .ok (x == y) w := by
  rw [Op.equalIn.eq_def]
  simp only [Sem.run_bind, run_underlying he, Result.andThen_ok, Sem.run_ite, if_true, Sem.run_pure]
theorem run_equalArr (k j : Int × Int × Int) (w : World) : (Op.equal kt (keyC k) (keyC j)).run P w = .ok (decide (k = j)) w := by
  obtain ⟨x, y, z⟩ := k
  obtain ⟨x', y', z'⟩ := j
  have c0 := fun x y z => run_cell hu he hi hs x y z 0 rfl w
  have c1 := fun x y z => run_cell hu he hi hs x y z 1 rfl w
  have c2 := fun x y z => run_cell hu he hi hs x y z 2 rfl w
  have q := fun n m => run_eqInt hu he hi hs 9998 n m w
  have hc : P.cellsOf et = 1 := by simp [Program.cellsOf, hi, hs]
  rw [equal_step, Op.equalIn.eq_def]
  simp only [keyC, Sem.run_bind, run_underlying hu, Result.andThen_ok, Std.Legacy.Range.forIn_eq_forIn_range', Std.Legacy.Range.size, Nat.sub_zero, Nat.add_one_sub_one, Nat.div_one, List.range', List.forIn_cons, List.forIn_nil, run_sizeOf w hi, hc, Nat.zero_mul, Nat.one_mul, Nat.mul_one, Nat.zero_add, Nat.reduceAdd, c0, c1, c2, q, Sem.run_pure, Sem.run_ite]
  by_cases h1 : x = x' <;> by_cases h2 : y = y' <;> by_cases h3 : z = z' <;> simp [h1, h2, h3, Sem.run_pure, c1, c2, q, Sem.run_bind]
theorem run_findArr {t : Ty} (k : Int × Int × Int) (w : World) : ∀ (x : List ((Int × Int × Int) × Den t)) (es : List MapEntry) (n : Nat), es.map (fun e => (e.key, e.val)) = x.map (fun p => (keyC p.1, cell1 t p.2)) →
    ((Instr.findAsking kt (keyC k) es n).run P w = .ok none w ∧ (∀ p ∈ x, p.1 ≠ k)) ∨ ∃ l p r ls e rs, x = l ++ p :: r ∧ es = ls ++ e :: rs ∧ ls.length = l.length ∧ p.1 = k ∧ (∀ q ∈ l, q.1 ≠ k) ∧ ls.map (fun e => (e.key, e.val)) = l.map (fun p => (keyC p.1, cell1 t p.2)) ∧ rs.map (fun e => (e.key, e.val)) = r.map (fun p => (keyC p.1, cell1 t p.2)) ∧
      e.key = keyC k ∧ e.val = cell1 t p.2 ∧ (Instr.findAsking kt (keyC k) es n).run P w = .ok (some (n + l.length, cell1 t p.2)) w
  | [], [], n, _ => .inl ⟨by simp [Instr.findAsking], by simp⟩
  | [], _ :: _, _, h => by simp at h
  | _ :: _, [], _, h => by simp at h
  | p :: x, e :: es, n, h => by
    simp only [List.map_cons, List.cons.injEq, Prod.mk.injEq] at h
    obtain ⟨⟨h1, h2⟩, h3⟩ := h
    have hq := run_equalArr hu he hi hs k p.1 w
    by_cases hk : k = p.1
    · right
      subst hk
      refine ⟨[], p, x, [], e, es, rfl, rfl, rfl, rfl, by simp, rfl, h3, h1, h2, ?_⟩
      simp [Instr.findAsking, h1, hq, h2]
    · have hf : (Instr.findAsking kt (keyC k) (e :: es) n).run P w = (Instr.findAsking kt (keyC k) es (n + 1)).run P w := by simp [Instr.findAsking, h1, hq, hk]
      rcases run_findArr k w x es (n + 1) h3 with ⟨g1, g2⟩ | ⟨l, q, r, ls, e', rs, rfl, rfl, g3, g4, g5, g6, g7, g8, g9, g10⟩
      · exact .inl ⟨by rw [hf, g1], fun p' hp' => by
          rcases List.mem_cons.1 hp' with rfl | hp'
          · exact fun e => hk e.symm
          · exact g2 _ hp'⟩
      · right
        refine ⟨p :: l, q, r, e :: ls, e', rs, rfl, rfl, by simp [g3], g4, fun q' hq' => ?_, by simp [h1, h2, g6], g7, g8, g9, ?_⟩
        · rcases List.mem_cons.1 hq' with rfl | hq'
          · exact fun e => hk e.symm
          · exact g5 _ hq'
        · rw [hf, g10]; simp [Nat.add_assoc, Nat.add_comm 1]
end keys
theorem mpGet_none {t : Ty} {k : Int × Int × Int} : ∀ {x : List ((Int × Int × Int) × Den t)}, (∀ p ∈ x, p.1 ≠ k) → mpGet t k x = zeroD t
  | [], _ => rfl
  | p :: x, h => by
    have h1 : ¬ k = p.1 := fun e => h p (by simp) e.symm
    simp only [mpGet, h1, if_false]
    exact mpGet_none (fun q hq => h q (by simp [hq]))
theorem mpGet_app {t : Ty} {k : Int × Int × Int} {p : (Int × Int × Int) × Den t} (hk : p.1 = k) : ∀ {l r : List ((Int × Int × Int) × Den t)}, (∀ q ∈ l, q.1 ≠ k) → mpGet t k (l ++ p :: r) = p.2
  | [], r, _ => by simp [mpGet, hk]
  | q :: l, r, h => by
    have h1 : ¬ k = q.1 := fun e => h q (by simp) e.symm
    simp only [List.cons_append, mpGet, h1, if_false]
    exact mpGet_app hk (fun q hq => h q (by simp [hq]))
theorem mpSet_none {t : Ty} {k : Int × Int × Int} {y : Den t} : ∀ {x : List ((Int × Int × Int) × Den t)}, (∀ p ∈ x, p.1 ≠ k) → mpSet t k y x = x ++ [(k, y)]
  | [], _ => rfl
  | p :: x, h => by
    have h1 : ¬ k = p.1 := fun e => h p (by simp) e.symm
    simp only [mpSet, h1, if_false, List.cons_append]
    rw [mpSet_none (fun q hq => h q (by simp [hq]))]
theorem mpSet_app {t : Ty} {k : Int × Int × Int} {y : Den t} {p : (Int × Int × Int) × Den t} (hk : p.1 = k) : ∀ {l r : List ((Int × Int × Int) × Den t)}, (∀ q ∈ l, q.1 ≠ k) → mpSet t k y (l ++ p :: r) = l ++ (k, y) :: r
  | [], r, _ => by simp [mpSet, hk]
  | q :: l, r, h => by
    have h1 : ¬ k = q.1 := fun e => h q (by simp) e.symm
    simp only [List.cons_append, mpSet, h1, if_false]
    rw [mpSet_app hk (fun q hq => h q (by simp [hq]))]

/-! ### The map's type -/
theorem mp_facts (hT : TabOk P T) {tid : Nat} {t : Ty} (h : T.mp tid = some t) : ∃ kt et vt i, P.underlying tid = some (.map kt vt) ∧ P.underlying kt = some (.array 3 et) ∧ P.underlying et = some (.int .i64) ∧ P.info? et = some i ∧ i.size = 1 ∧ T.ty vt = some t ∧ scalar t = true := by
  obtain ⟨kt, vt, h1, h2, h3⟩ := (hT.2.1 tid t h).desc
  obtain ⟨d, h4, h5⟩ := (hT.1 _ _ h2).desc
  have h6 : ∃ et, d = .array 3 et ∧ T.ty et = some (.int .i64) := by
    unfold DescOk at h5
    split at h5 <;> first | (rename_i hh; cases hh; done) | skip
    · obtain ⟨rfl, h5⟩ := h5; exact ⟨_, rfl, h5⟩
    · exact absurd rfl h5.2.2
    · cases h5
  obtain ⟨et, rfl, h7⟩ := h6
  obtain ⟨i, h8, h9, _⟩ := (hT.1 _ _ h7).info
  exact ⟨kt, et, vt, i, h1, h4, desc_int hT h7, h8, h9, h3, (hT.2.1 tid t h).sc⟩

/-! ### The operations -/
theorem ints_list (w : World) (G : BS) : ∀ {xs : List Int} {cs : List Value}, RepL w G (.int .i64) xs cs → cs = xs.map (Value.int .i64)
  | _, _, .nil _ => rfl
  | _, _, .cons _ x xs cs ds h1 h2 => by rw [RepC.of_int h1, ints_list w G h2]; rfl
theorem desc_arr (hT : TabOk P T) {tid : Nat} (h : T.ty tid = some (.ap 5)) : ∃ et, P.underlying tid = some (.array 3 et) := by
  obtain ⟨d, h4, h5⟩ := (hT.1 _ _ h).desc
  unfold DescOk at h5
  split at h5 <;> first | (rename_i hh; cases hh; done) | skip
  · obtain ⟨rfl, h5⟩ := h5; exact ⟨_, h4⟩
  · exact absurd rfl h5.2.2
  · cases h5
theorem ok_arrPtr (hT : TabOk P T) (h : Inv N w0 Mv Gb Gs hd fp s a w) {own : List Nat} {o : Oper} {tid : Nat} {x : Operand} {fr : Ob} {z : Slot} {m : List (Nat × Ob)} (ho : o.op = .sliceToArrayPointer tid x)
    (hop : opC T own o (views T s o) fr = some (true, z, m)) : OpOk P N w0 Mv Gb s a w o z m := by
  simp only [opC, ho, views, opnds, List.map] at hop
  unfold arrPtr shV at hop
  split at hop
  · rename_i tn xs hs
    split at hs
    · cases hs
    · rename_i hown
      split at hop
      · rename_i hty
        simp only [Option.some.injEq, Prod.mk.injEq, decide_eq_true_eq] at hop
        obtain ⟨hlen, rfl, rfl⟩ := hop
        obtain ⟨et, hu⟩ := desc_arr hT hty
        have hv := ((view_data h (none, x) hs).2 (by simpa using hown)).row
        simp only at hv
        rcases hv with ⟨h1, h2⟩ | ⟨b, ofs, cap, cs, g1, g2, g3, g4, g5⟩
        · subst h2; simp at hlen
        · match xs, hlen, g3, g5 with
          | x0 :: x1 :: x2 :: r, hlen, g3, g5 =>
            refine OpOk.of_put h (v := .pointer (some ⟨b, ofs, none⟩)) ?_ ?_
            · simp only [execOp, ho, g5, Instr.arrayAt, Sem.run_bind, run_underlying hu, Result.andThen_ok]
              rw [if_neg (by simp at hlen ⊢)]
              simp [Sem.run_pure]
            · simp only [SlotR]
              have hc := ints_list w _ g3
              have hr := rangeAt_take g4 3
              rw [hc] at hr
              exact ⟨b, ofs, _, rfl, RepC.arr w _ _, by simpa using hr, g2⟩
      · cases hop
  · cases hop
theorem heap_push (w : World) (o : Obj) : (w.alloc o).heap[w.heap.size]? = some o := by
  show (w.heap.push o)[w.heap.size]? = some o
  simp
theorem getMap {r : Nat} {es : Array MapEntry} {c : Nat} (hb : w.heap[r]? = some (.map es c)) : (getObj r).run P w = .ok (.map es c) w := by
  simp [getObj, Sem.run, hb]
theorem setMap {r : Nat} {es : Array MapEntry} {c : Nat} (o : Obj) (hb : w.heap[r]? = some (.map es c)) : (setObj r o).run P w = .ok () { w with heap := w.heap.setIfInBounds r o } := by
  simp [setObj, Sem.run, hb]
theorem ok_mpMake (hT : TabOk P T) (h : Inv N w0 Mv Gb Gs hd fp s a w) {own : List Nat} {o : Oper} {tid : Nat} {z : Slot} {m : List (Nat × Ob)} (ho : o.op = .makeMap tid none)
    (hop : opC T own o (views T s o) (freshOb s o.dst) = some (true, z, m)) : OpOk P N w0 Mv Gb s a w o z m := by
  simp only [opC, ho, views, opnds, List.map] at hop
  unfold mpMake at hop
  split at hop
  · rename_i t d ht hd' hfr
    simp only [Option.some.injEq, Prod.mk.injEq, true_and] at hop
    obtain ⟨rfl, rfl⟩ := hop
    have hA := h.alloc (.map #[] 0)
    have hk : s.ob.getD (4 * d) .gone = .none := by rw [hd'] at hfr; simpa [freshOb] using hfr
    have h6 := hA.1.newKey (k := 4 * d) (v := .map (some w.heap.size)) hk (F := fun c => c = w.heap.size) (by rintro c rfl; exact hA.2) (ob := .mp t []) rfl ⟨w.heap.size, #[], 0, rfl, rfl, heap_push w _, rfl⟩
    have hfin := h6.put (some d) (z := .ref (4 * d)) (v := .map (some w.heap.size)) (by
      simp only [SlotR]
      have hlt : 4 * d < s.ob.length := by
        rcases Nat.lt_or_ge (4 * d) s.ob.length with h | h
        · exact h
        · rw [List.getD_eq_getElem?_getD, List.getElem?_eq_none h] at hk; cases hk
      refine ⟨by rw [getD_set_self, if_pos hlt]; rfl, by simp⟩)
    unfold OpOk
    rw [hd']
    refine ⟨_, _, _, _, _, .inl ?_, hfin⟩
    simp only [execOp, ho, Instr.makeMap, Option.map, Sem.run_bind, run_newObj_alloc, Result.andThen_ok, Sem.run_pure]
  · cases hop
/-- What a map's slot and key hold. -/
theorem mp_view (h : Inv N w0 Mv Gb Gs hd fp s a w) {x : Operand} {n : Nat} {t : Ty} {l : List ((Int × Int × Int) × Den t)} (hz : (view s (none, x)).z = .ref n) (hb : (view s (none, x)).b = .mp t l) :
    s.ob.getD n .none = .mp t l ∧ a.eval x = hd n ∧ MpR w t l (hd n) (fp n) := by
  have hx := rd_ok h none x
  simp only [view, viewZ] at hz hb
  rw [hz] at hx hb
  simp only [obOf, keyOf] at hb
  simp only [SlotR] at hx
  have h0 := h.obs n
  rw [hb] at h0
  exact ⟨hb, hx.2, h0⟩
theorem zero_scalar {t : Ty} (hs : scalar t = true) : zeroV t = cell1 t (zeroD t) := by
  cases t <;> first | (simp [scalar] at hs; done) | rfl
theorem ok_mpLook (hT : TabOk P T) (h : Inv N w0 Mv Gb Gs hd fp s a w) {own : List Nat} {o : Oper} {tid : Nat} {x y : Operand} {fr : Ob} {z : Slot} {m : List (Nat × Ob)} (ho : o.op = .lookup tid x y false)
    (hop : opC T own o (views T s o) fr = some (true, z, m)) : OpOk P N w0 Mv Gb s a w o z m := by
  simp only [opC, ho, views, opnds, List.map] at hop
  unfold mpLook at hop
  split at hop
  · rename_i n t l k hz hb hk
    split at hop
    · rename_i hc
      obtain ⟨kt, et, vt, i, f1, f2, f3, f4, f5, f6, f7⟩ := mp_facts hT hc.1
      obtain ⟨e1, e2, b, es, c, e3, e4, e5, e6⟩ := mp_view h hz hb
      have e7 := mpKey_ok h _ hk
      obtain ⟨iv, g1, g2, g3, g4⟩ := (hT.1 _ _ f6).info
      refine ok_pure h hop (v := cell1 t (mpGet t k l)) (fun _ => ⟨?_, scalar_rep w _ f7 _⟩)
      simp only at e7
      have hz0 : (zeroValue vt).run P w = .ok (zeroV t) w := by
        simp only [zeroValue, typeInfo, Sem.run_bind, run_program, g1, g4, Result.andThen_ok, Sem.run_pure]
      have hf : (Instr.findKey kt (keyC k) es.toList).run P w = (Instr.findAsking kt (keyC k) es.toList).run P w := run_findKey_eq w (by rw [f2]) _ _
      simp only [execOp, ho, Instr.lookup, e2, e3, e7, Sem.run_bind, run_underlying f1, Result.andThen_ok, getMap e5, Sem.run_pure, run_checkArr f2 f3 f4 f5, hf]
      rcases run_findArr f2 f3 f4 f5 k w l es.toList 0 e6 with ⟨q1, q2⟩ | ⟨l1, p, r1, ls, e, rs, q1, q2, q3, q4, q5, q6, q7, q8, q9, q10⟩
      · rw [q1, mpGet_none q2, ← zero_scalar f7]
        simp [Sem.run_bind, hz0, Sem.run_pure]
      · rw [q10, q1, mpGet_app q4 q5]
        simp [Sem.run_bind, Sem.run_pure]
    · cases hop
  · cases hop
theorem sameBits_key (k : Int × Int × Int) : Instr.sameBits 10000 (keyC k) (keyC k) = true := by
  show Instr.sameBits (9998 + 1 + 1) (keyC k) (keyC k) = true
  simp [Instr.sameBits, keyC]
theorem modify_mid {α : Type} (f : α → α) (e : α) (rs : List α) : ∀ (ls : List α), (ls ++ e :: rs).modify ls.length f = ls ++ f e :: rs
  | [] => by simp
  | x :: ls => by simp [modify_mid f e rs ls]
theorem put_run (hT : TabOk P T) {tid : Nat} {t : Ty} (hm : T.mp tid = some t) {b : Nat} {es : Array MapEntry} {c : Nat} (hb : w.heap[b]? = some (.map es c)) {l : List ((Int × Int × Int) × Den t)} (he : es.toList.map (fun e => (e.key, e.val)) = l.map fun p => (keyC p.1, cell1 t p.2)) (k : Int × Int × Int) (y : Den t) :
    ∃ es' c', (Instr.mapUpdate tid (.map (some b)) (keyC k) (cell1 t y)).run P w = .ok () { w with heap := w.heap.setIfInBounds b (.map es' c') } ∧ es'.toList.map (fun e => (e.key, e.val)) = (mpSet t k y l).map fun p => (keyC p.1, cell1 t p.2) := by
  obtain ⟨kt, et, vt, i, f1, f2, f3, f4, f5, f6, f7⟩ := mp_facts hT hm
  have hf : (Instr.findKey kt (keyC k) es.toList).run P w = (Instr.findAsking kt (keyC k) es.toList).run P w := run_findKey_eq w (by rw [f2]) _ _
  rcases run_findArr f2 f3 f4 f5 k w l es.toList 0 he with ⟨q1, q2⟩ | ⟨l1, p, r1, ls, e, rs, q1, q2, q3, q4, q5, q6, q7, q8, q9, q10⟩
  · refine ⟨es.push { key := keyC k, val := cell1 t y, born := c }, c + 1, ?_, ?_⟩
    · simp only [Instr.mapUpdate, Sem.run_bind, run_underlying f1, Result.andThen_ok, getMap hb, run_checkArr f2 f3 f4 f5, hf, q1]
      exact setMap _ hb
    · rw [mpSet_none q2]; simp [he]
  · refine ⟨es.modify ls.length fun e => { e with key := keyC k, val := cell1 t y }, c, ?_, ?_⟩
    · have hk : ((es[0 + l1.length]?).map (·.key)).getD (keyC k) = keyC k := by
        rw [← q3, Nat.zero_add, ← Array.getElem?_toList, q2]
        simp [q8]
      have hs : (Instr.keyThatStays (keyC k) (keyC k)).run P w = .ok (keyC k) w := by
        simp [Instr.keyThatStays, sameBits_key, Sem.run_pure]
      simp only [Instr.mapUpdate, Sem.run_bind, run_underlying f1, Result.andThen_ok, getMap hb, run_checkArr f2 f3 f4 f5, hf, q10, hk, hs]
      rw [Nat.zero_add, ← q3]
      exact setMap _ hb
    · rw [q1, mpSet_app q4 q5, Array.toList_modify, q2, modify_mid]
      simp [q6, q7]
theorem ok_mpPut (hT : TabOk P T) (h : Inv N w0 Mv Gb Gs hd fp s a w) {own : List Nat} {o : Oper} {tid : Nat} {x y u : Operand} {fr : Ob} {z : Slot} {m : List (Nat × Ob)} (ho : o.op = .insert tid x y u ∨ o.op = .mapUpdate tid x y u)
    (hop : opC T own o (views T s o) fr = some (true, z, m)) : OpOk P N w0 Mv Gb s a w o z m := by
  have hop2 : mpPut T tid (view s (none, x)) (view s (none, y)) (view s (T.mp tid, u)) = some (true, z, m) := by
    rcases ho with ho | ho <;> simpa only [opC, ho, views, opnds, List.map] using hop
  clear hop
  unfold mpPut at hop2
  split at hop2
  · rename_i n t l k b0 pv hz hb hk hp
    split at hop2
    · rename_i y' hy
      obtain rfl := PV.is_eq hy
      split at hop2
      · rename_i hc
        simp only [Option.some.injEq, Prod.mk.injEq, true_and] at hop2
        obtain ⟨rfl, rfl⟩ := hop2
        obtain ⟨e1, e2, b, es, c, e3, e4, e5, e6⟩ := mp_view h hz hb
        have e7 := mpKey_ok h _ hk
        have e8 : a.eval u = cell1 t y' := by
          have h9 := (view_data h _ hp).1
          have hsc := hc.2
          cases t <;> first | (simp [scalar] at hsc; done) | exact scalar_of rfl h9
        obtain ⟨es', c', r1, r2⟩ := put_run hT hc.1 e5 e6 k y'
        have hlt : b < w.heap.size := (h.own n b e4).1
        have hst := h.turn (k := n) (b := b) e4 (ob := .mp t (mpSet t k y' l)) (by rw [e1]; rfl) (fun hh => by rw [e1] at hh; cases hh) (by rw [e1]; rfl) rfl (w1 := { w with heap := w.heap.setIfInBounds b (.map es' c') }) ⟨rfl, rfl, rfl⟩ (by simp)
          (fun d hd => by simp [Array.getElem?_setIfInBounds, (Ne.symm hd)]) ⟨b, es', c', e3, e4, by simp [Array.getElem?_setIfInBounds, hlt], r2⟩
        have hfin := hst.put o.dst (z := .und) (v := undef) (by simp only [SlotR])
        unfold OpOk
        refine ⟨undef, _, _, _, _, .inr ⟨?_, rfl⟩, hfin⟩
        simp only at e7
        rcases ho with ho | ho <;> simp only [execOp, ho, e2, e3, e7, e8, Sem.run_bind, r1, Result.andThen_ok, Sem.run_pure]
      · cases hop2
    · cases hop2
  · cases hop2
end Go.Proofs.YtkgpkalclblhbaaGreatDoor.Eng
