/-
  One operation: new rows and variables, records put together, stores.
-/
import Derived.Test.YtkgpkalclblhbaaGreatDoorS11
namespace Go.Proofs.YtkgpkalclblhbaaGreatDoor.Eng
open Go Go.RowKit
set_option linter.unusedVariables false
set_option linter.unusedSimpArgs false

variable {P : Program} {T : Tab} {N : Nat} {w0 : World} {Mv : Mvp} {Gb Gs : BS} {hd : Nat → Value} {fp : Nat → BS} {s : St} {a : Act} {w w' : World}

theorem newRow_true {own : List Nat} {d : Option Nat} {fr : Ob} {c tn nx : Bool} {e : Ty} {x : List (Den e)} {m m' : List (Nat × Ob)} {z : Slot} (hn : newRow own d fr c tn nx e x m = some (true, z, m')) : c = true := by
  unfold newRow at hn
  split at hn
  · cases hn
  · split at hn
    · split at hn
      · simp at hn; exact hn.1
      · cases hn
    · simp at hn; exact hn.1
theorem zeros_rep (w : World) (G : BS) (e : Ty) : ∀ n, RepL w G e (List.replicate n (zeroD e)) (List.replicate n (zeroC e)).flatten
  | 0 => .nil e
  | n + 1 => by simp only [List.replicate_succ, List.flatten_cons]; exact .cons e _ _ _ _ (zeroRep w G e) (zeros_rep w G e n)
theorem made_flat (z : Array Value) : ∀ n, (madeCells z (n * z.size)).toList = (List.replicate n z.toList).flatten := by
  intro n
  apply List.ext_getElem?
  intro j
  have hl : (List.replicate n z.toList).flatten.length = n * z.size := by simp
  by_cases hj : j < n * z.size
  · have hz : 0 < z.size := by rcases Nat.eq_zero_or_pos z.size with h | h; rw [h] at hj; simp at hj; exact h
    rw [List.getElem?_eq_getElem (l := (List.replicate n z.toList).flatten) (by rw [hl]; exact hj)]
    have h1 : (List.replicate n z.toList).flatten[j]'(by rw [hl]; exact hj) = z[j % z.size]'(Nat.mod_lt _ hz) := by
      have key : ∀ (n j : Nat) (h : j < (List.replicate n z.toList).flatten.length), (List.replicate n z.toList).flatten[j] = z[j % z.size]'(Nat.mod_lt _ hz) := by
        intro n
        induction n with
        | zero => intro j h; simp at h
        | succ n ih =>
          intro j h
          simp only [List.replicate_succ, List.flatten_cons, List.getElem_append]
          split
          · rename_i hlt
            simp only [Array.length_toList] at hlt
            simp [Nat.mod_eq_of_lt hlt]
          · rename_i hlt
            simp only [Array.length_toList] at hlt ⊢
            rw [ih]
            congr 1
            exact (Nat.mod_eq_sub_mod (by omega)).symm
      exact key n j _
    rw [h1]
    simp [madeCells, hj]
    exact getElem!_pos z (j % z.size) (Nat.mod_lt _ hz)
  · rw [List.getElem?_eq_none (l := (List.replicate n z.toList).flatten) (by rw [hl]; omega)]
    simp [madeCells]
    omega
theorem ok_makeSlice (hT : TabOk P T) (h : Inv N w0 Mv Gb Gs hd fp s a w) {own : List Nat} {o : Oper} {tid : Nat} {x y : Operand} {z : Slot} {m : List (Nat × Ob)} (ho : o.op = .makeSlice tid x y)
    (hop : opC T own o (views T s o) (freshOb s o.dst) = some (true, z, m)) : OpOk P N w0 Mv Gb s a w o z m := by
  simp only [opC, ho, views, opnds, List.map] at hop
  split at hop
  · rename_i e b1 n b2 n' hrow hp hq
    have e1 := data_int h _ hp
    have e2 := data_int h _ hq
    simp only at e1 e2
    have hc : decide (0 ≤ n ∧ Int.toNat n < lim ∧ n = n') = true := by
      split at hop
      · exact newDeep_true hop
      · exact newRow_true hop
    simp only [decide_eq_true_eq] at hc
    obtain ⟨c1, c2, rfl⟩ := hc
    obtain ⟨eid, i, hu, hi, hs, hby, zz, hz, hzc⟩ := elem_facts hT hrow
    have c1' : @LE.le Int _ 0 n := c1
    have hlim : @LT.lt Int _ n 1099511627776 := by have c2' : Int.toNat n < 1099511627776 := c2; omega
    have hb : (i.bytes : Int) * (n : Int) ≤ 281474976710656 := by
      have : (i.bytes : Int) * (n : Int) ≤ 128 * 1099511627776 := Int.mul_le_mul (by omega) (by omega) c1 (by omega)
      omega
    have hr := run_make (P := P) w tid eid i zz hu hi hz .i64 .i64 n n c1 (Int.le_refl _) hb (by omega)
    refine OpOk.mk (v := .slice (some ⟨w.heap.size, 0, none⟩) (Int.toNat n) (Int.toNat n)) (by simp only [execOp, ho, e1, e2, Sem.run_bind, hr, Result.andThen_ok, Sem.run_pure]; rfl) ?_
    have hzs : zz.cells.size = i.size := by
      have := congrArg List.length hzc
      have hzl := (zeroRep w Gs e).len
      simp only [Array.length_toList] at this
      omega
    have hm := made_flat zz.cells (Int.toNat n)
    rw [hzs, hzc] at hm
    split at hop
    · refine (newDeep_ok hop rfl (s := s) (m := []) (h.alloc _).1 (fun _ h => h) (F := fun c => c = w.heap.size) (by rintro c rfl; exact (h.alloc _).2) ?_).2
      exact .inr ⟨fun _ => False, w.heap.size, 0, Int.toNat n, _, by simp, by simp, rfl, fun _ h => h.elim, zeros_sep _ e (Int.toNat n), rangeAt_new w _ _ _ ⟨[], by rw [List.append_nil]; exact hm⟩, there_new w _ _ _ (by rw [size_madeCells, hs]; exact Nat.le_refl _)⟩
    refine (newRow_ok hop rfl (s := s) (m := []) (h.alloc _).1 (fun _ h => h) (F := fun c => c = w.heap.size) (by rintro c rfl; exact (h.alloc _).2) ?_ (fun h => by cases h)).2
    right
    refine ⟨w.heap.size, 0, Int.toNat n, _, by simp, by simp, rfl, zeros_rep _ _ e (Int.toNat n), rangeAt_new w _ _ _ ⟨[], by rw [List.append_nil]; exact hm⟩, there_new w _ _ _ (by rw [size_madeCells, hs]; exact Nat.le_refl _)⟩
  · cases hop

theorem run_clear {t eid : TypeId} {zz : Value} (hu : P.underlying t = some (.slice eid)) {i : TypeInfo} (hi : P.info? eid = some i) (hz : i.zero = some zz) (ty : TypeId) (b o n cap : Nat) (hn : n ≠ 0) (ds : List Value) (hds : (Builtin.zeroCells zz.cells n).toList = ds) (hth : w.there b o ds.length) (h1 : ∀ v ∈ ds, v.oneCell' = true) :
    (Builtin.clear_ #[t] ty #[.slice (some ⟨b, o, none⟩) n cap]).run P w = .ok (.tuple #[]) (w.setCells b o ds) := by
  have hst := run_storeCells_cells (P := P) b o ds 0 w (fun j hj => by simpa using (hth j (by omega)).1) (fun j hj => by simpa using (hth j (by omega)).2) h1
  simp only [Nat.add_zero] at hst
  obtain ⟨m, rfl⟩ : ∃ m, n = m + 1 := ⟨n - 1, by omega⟩
  simp [Builtin.clear_, run_underlying hu, zeroValue, typeInfo, hi, hz, hds, hst]
theorem run_clear0 {t eid : TypeId} (hu : P.underlying t = some (.slice eid)) (ty : TypeId) (a : Option Addr) (cap : Nat) :
    (Builtin.clear_ #[t] ty #[.slice a 0 cap]).run P w = .ok (.tuple #[]) w := by
  cases a <;> simp [Builtin.clear_, run_underlying hu]
theorem ok_clear (hT : TabOk P T) (h : Inv N w0 Mv Gb Gs hd fp s a w) {own : List Nat} {o : Oper} {xs : Array Operand} {ts : Array TypeId} {fr : Ob} {z : Slot} {m : List (Nat × Ob)} (ho : o.op = .call ⟨.builtin .clear, xs, ts⟩)
    (hop : opC T own o (views T s o) fr = some (true, z, m)) : OpOk P N w0 Mv Gb s a w o z m := by
  simp only [opC, ho] at hop
  split at hop
  all_goals first
    | (rename_i hb _; cases hb; done)
    | skip
  · rename_i v1 _ heq
    obtain ⟨x, rfl, rfl⟩ := view1 ho heq
    split at hop
    · rename_i t k lo hi tn nx e ys ht hz hob
      split at hop
      · rename_i hrow
        obtain ⟨hrow, rfl⟩ := hrow
        simp only [Option.some.injEq, Prod.mk.injEq, true_and] at hop
        obtain ⟨rfl, rfl⟩ := hop
        simp only [view, viewZ] at hz hob
        have hx := rd_ok h ((#[t] : Array TypeId)[0]?.bind T.ty) x
        rw [hz] at hx hob
        simp only [obOf, keyOf] at hob
        simp only [SlotR] at hx
        obtain ⟨va, n, cap, e1, e2, e3, e4⟩ := hx.2 e (by rw [hob]; rfl)
        have h0 := h.obs k
        rw [hob] at h0
        obtain ⟨eid, i, hu, hi', hs, hby, zz, hzz, hzc⟩ := elem_facts hT hrow
        have hclr : ∀ w1, (Builtin.clear_ #[t] o.type #[a.eval x]).run P w = .ok (.tuple #[]) w1 → (execOp a.eval o).run P w = .ok (.value (.tuple #[])) w1 := by
          intro w1 hr
          simp [execOp, ho, resolve, invoke, builtin, hr]
        have fin : ∀ w1 Gs' hd' fp', Inv N w0 Mv Gb Gs' hd' fp' ⟨s.sl, s.ob.set k (.sl tn nx e (ys.take lo ++ (List.replicate (hi - lo) (zeroD e) ++ ys.drop hi)))⟩ a w1 → (Builtin.clear_ #[t] o.type #[a.eval x]).run P w = .ok (.tuple #[]) w1 → OpOk P N w0 Mv Gb s a w o .dead [(k, .sl tn nx e (ys.take lo ++ (List.replicate (hi - lo) (zeroD e) ++ ys.drop hi)))] := by
          intro w1 Gs' hd' fp' hI hr
          exact OpOk.mk (hclr w1 hr) ⟨Gs', hd', fp', hI.put o.dst (z := .dead) (by simp only [SlotR])⟩
        by_cases hlo : lo = hi
        · subst hlo
          refine fin w Gs hd fp ?_ ?_
          · rw [Nat.sub_self, List.replicate_zero, List.nil_append, List.take_append_drop, ob_same (b := .sl tn nx e ys) hob (by simp)]
            exact h
          · rw [e4, Nat.sub_self]
            exact run_clear0 hu _ _ _
        · rcases h0.1 with ⟨g1, g2⟩ | ⟨b, o', cap', cs, g1, g2, g3, g4, g5, g6⟩
          · rw [e1] at g1
            cases g1
            omega
          · rw [e1] at g1
            cases g1
            have hz1 := zeros_rep w (Gof Gs Gb tn) e (hi - lo)
            have hzs : zz.cells.size = sz e := by
              have := congrArg List.length hzc
              have hzl := (zeroRep w Gs e).len
              simp only [Array.length_toList] at this
              omega
            have hfl : (Builtin.zeroCells zz.cells (hi - lo)).toList = (List.replicate (hi - lo) (zeroC e)).flatten := by
              have hm := made_flat zz.cells (hi - lo)
              rw [hzc] at hm
              exact hm
            have hmv : ∀ c, Gof Gs Gb tn c → (w.setCells b (o' + lo * sz e) (List.replicate (hi - lo) (zeroC e)).flatten).heap[c]? = w.heap[c]? := fun c hc => setCells_block b _ _ w c (fun e => by
              subst e; exact hc.elim (h.own k c g3).2.2.1 (fun q => (h.own k c g3).2.2.2 q.2))
            obtain ⟨w1, w2, w3, w4⟩ := own_write g4 g5 g6 g2 hz1 lo (by simp; omega) hmv
            have hlr : (List.replicate (hi - lo) (zeroD e)).length = hi - lo := by simp
            rw [hlr, show lo + (hi - lo) = hi by omega] at w2
            have hne : cap ≠ lo := by omega
            have hst := h.store (k := k) (b := b) g3 (ob := .sl tn nx e (ys.take lo ++ (List.replicate (hi - lo) (zeroD e) ++ ys.drop hi))) (by rw [hob]; rfl) (fun h => by rw [hob] at h; cases h) (by rw [hob]; rfl) rfl (o' + lo * sz e) (List.replicate (hi - lo) (zeroC e)).flatten
              ⟨.inr ⟨b, o', cap, _, by rw [e1]; congr 1; simp; omega, by simp; omega, g3, w2, w3, w4⟩, fun hnx hx => by
                have hx' := congrArg List.length hx
                simp at hx'
                omega⟩
            refine fin _ Gs hd fp hst ?_
            rw [e4, if_neg hne]
            simp only [Option.map_some, Addr.add_mid]
            exact run_clear hu hi' hzz _ b (o' + lo * sz e) (hi - lo) (cap - lo) (by omega) _ hfl w1 hz1.one
      · cases hop
    · cases hop
  · cases hop
/-! ### Cells filled in -/
theorem fold_set (c : Array Value) (off : Nat) (v : Array Value) (h : off + v.size ≤ c.size) : (v.zipIdx.foldl (fun cs (x, j) => cs.setIfInBounds (off + j) x) c).toList = c.toList.take off ++ (v.toList ++ c.toList.drop (off + v.size)) := by
  have key : ∀ (l : List Value) (k : Nat) (c : Array Value), off + k + l.length ≤ c.size → (List.foldl (fun cs (x : Value × Nat) => cs.setIfInBounds (off + x.2) x.1) c (l.zipIdx k)).toList = c.toList.take (off + k) ++ (l ++ c.toList.drop (off + k + l.length)) := by
    intro l
    induction l with
    | nil => intro k c h; simp
    | cons x l ih =>
      intro k c h
      simp only [List.zipIdx_cons, List.foldl_cons, List.length_cons] at h ⊢
      rw [ih (k + 1) _ (by simp; omega)]
      simp only [Array.toList_setIfInBounds]
      have hlt : off + k < c.toList.length := by simp; omega
      have hl : (c.toList.take (off + k)).length = off + k := by simp; omega
      rw [List.set_eq_take_append_cons_drop, if_pos hlt]
      have e1 : (c.toList.take (off + k) ++ x :: c.toList.drop (off + k + 1)).take (off + (k + 1)) = c.toList.take (off + k) ++ [x] := by
        have := take_past (c.toList.take (off + k)) (x :: c.toList.drop (off + k + 1)) 1
        rw [hl] at this
        rw [show off + (k + 1) = off + k + 1 by omega, this]; rfl
      have e2 : (c.toList.take (off + k) ++ x :: c.toList.drop (off + k + 1)).drop (off + (k + 1) + l.length) = c.toList.drop (off + k + (l.length + 1)) := by
        have := drop_past (c.toList.take (off + k)) (x :: c.toList.drop (off + k + 1)) (l.length + 1)
        rw [hl] at this
        rw [show off + (k + 1) + l.length = off + k + (l.length + 1) by omega, this, List.drop_succ_cons, List.drop_drop]
        congr 1; omega
      rw [e1, e2]
      simp
  rw [← Array.foldl_toList, Array.toList_zipIdx]
  have := key v.toList 0 c (by simpa using h)
  simpa using this
theorem fill_cons (place : Nat → Option (Nat × Nat)) (c : Array Value) (i : Nat) (v : Value) (r : List (Nat × Value)) {off size : Nat} (hp : place i = some (off, size)) (hv : v.cells.size = size) (h : off + size ≤ c.size) :
    ∃ c', c'.toList = c.toList.take off ++ (v.cells.toList ++ c.toList.drop (off + size)) ∧ Instr.fill place c ((i, v) :: r) = Instr.fill place c' r := by
  refine ⟨v.cells.zipIdx.foldl (fun cs (x, j) => cs.setIfInBounds (off + j) x) c, by rw [fold_set c off v.cells (by omega), hv], ?_⟩
  simp only [Instr.fill, hp]
  rw [if_neg (by simp [hv]; omega)]
/-- One part of a record put in. -/
theorem set_rep {G : BS} : ∀ {t : Ty} {x : Den t} {cs : List Value} (h : RepC w G t x cs) (f : Nat) {p : PV} {y : Den t} {ds : List Value}, setD t x f p = some y → ∀ {u : Ty}, fieldT t f = some u → p.t = u → RepC w G p.t p.x ds →
    fieldOff t f + sz u ≤ cs.length ∧ RepC w G t y (cs.take (fieldOff t f) ++ (ds ++ cs.drop (fieldOff t f + sz u)))
  | .pair t u, (x, x'), cs, h, 0, p, y, ds, hs, u', hu, hpt, hp => by
    simp only [fieldT] at hu; cases hu
    simp only [setD] at hs
    obtain ⟨q, h1, rfl⟩ := Option.map_eq_some_iff.1 hs
    obtain ⟨c, d, rfl, h2, h3⟩ := h.of_pair
    have hl := h2.len
    refine ⟨by simp [fieldOff, hl], ?_⟩
    simp only [fieldOff, List.take_zero, List.nil_append, Nat.zero_add]
    rw [← hl, show c.length = c.length + 0 from rfl, drop_past]
    exact .pair _ _ _ _ _ _ (hp.to h1) (by simpa using h3)
  | .pair t u, (x, x'), cs, h, f + 1, p, y, ds, hs, u', hu, hpt, hp => by
    simp only [fieldT] at hu
    simp only [setD] at hs
    obtain ⟨q, h1, rfl⟩ := Option.map_eq_some_iff.1 hs
    obtain ⟨c, d, rfl, h2, h3⟩ := h.of_pair
    obtain ⟨h4, h5⟩ := set_rep h3 f h1 hu hpt hp
    have hl := h2.len
    refine ⟨by simp only [fieldOff, List.length_append]; omega, ?_⟩
    simp only [fieldOff]
    rw [← hl, Nat.add_assoc, take_past, drop_past, List.append_assoc]
    exact .pair _ _ _ _ _ _ h2 h5
  | .int _, _, _, _, _, _, _, _, hr, _, _, _, _ => by simp [setD] at hr
  | .bool, _, _, _, _, _, _, _, hr, _, _, _, _ => by simp [setD] at hr
  | .str, _, _, _, _, _, _, _, hr, _, _, _, _ => by simp [setD] at hr
  | .unit, _, _, _, _, _, _, _, hr, _, _, _, _ => by simp [setD] at hr
  | .sl _, _, _, _, _, _, _, _, hr, _, _, _, _ => by simp [setD] at hr
  | .ap _, _, _, _, _, _, _, _, hr, _, _, _, _ => by simp [setD] at hr
/-- A value put in at the end of a path. -/
theorem put_rep {G : BS} : ∀ (path : List Nat) {t : Ty} {x : Den t} {cs : List Value} (h : RepC w G t x cs) {p : PV} {y : Den t} {ds : List Value}, putD t x path p = some y → RepC w G p.t p.x ds →
    pathOff t path + sz p.t ≤ cs.length ∧ RepC w G t y (cs.take (pathOff t path) ++ (ds ++ cs.drop (pathOff t path + sz p.t)))
  | [], t, x, cs, h, p, y, ds, hs, hp => by
    simp only [putD] at hs
    have h1 := hp.to hs
    have hl := h1.len
    have hl' := h.len
    have hl2 := hp.len
    refine ⟨by simp [pathOff]; omega, ?_⟩
    simp only [pathOff, List.take_zero, List.nil_append, Nat.zero_add]
    rw [List.drop_eq_nil_of_le (by omega), List.append_nil]
    exact h1
  | f :: fs, t, x, cs, h, p, y, ds, hs, hp => by
    simp only [putD] at hs
    split at hs
    · rename_i q hq
      split at hs
      · rename_i y' hy'
        obtain ⟨y2, h1, rfl⟩ := Option.map_eq_some_iff.1 hs
        obtain ⟨h2, h3⟩ := field_rep h.un f hq
        obtain ⟨h4, h5⟩ := put_rep fs h3 hy' hp
        obtain ⟨h6, h7⟩ := set_rep h.un f h1 h2 rfl h5
        have hl3 := h3.len
        rw [List.length_take, List.length_drop] at hl3
        rw [List.length_take, List.length_drop] at h4
        refine ⟨by simp only [pathOff, h2, Option.getD_some]; omega, ?_⟩
        have e : cs.take (fieldOff (under t) f) ++ ((((cs.drop (fieldOff (under t) f)).take (sz q.t)).take (pathOff q.t fs) ++ (ds ++ ((cs.drop (fieldOff (under t) f)).take (sz q.t)).drop (pathOff q.t fs + sz p.t))) ++ cs.drop (fieldOff (under t) f + sz q.t)) =
            cs.take (pathOff t (f :: fs)) ++ (ds ++ cs.drop (pathOff t (f :: fs) + sz p.t)) := by
          simp only [pathOff, h2, Option.getD_some]
          have hdl := hp.len
          apply List.ext_getElem?
          intro j
          simp only [List.getElem?_append, List.getElem?_take, List.getElem?_drop, List.length_append, List.length_take, List.length_drop]
          repeat' split
          all_goals first
            | rfl
            | omega
            | (congr 1; omega)
            | (rw [List.getElem?_eq_none (by omega), List.getElem?_eq_none (by omega)])
            | (rw [List.getElem?_eq_none (by omega)])
            | (symm; rw [List.getElem?_eq_none (by omega)])
        rw [e] at h7
        exact RepC.fo h7
      · cases hs
    · cases hs
end Go.Proofs.YtkgpkalclblhbaaGreatDoor.Eng
