/-
  One operation: append, cuts of rows, greatest and least.
-/
import Derived.Test.YtkgpkalclblhbaaGreatDoorS9s
namespace Go.Proofs.YtkgpkalclblhbaaGreatDoor.Eng
open Go Go.RowKit
set_option linter.unusedVariables false
set_option linter.unusedSimpArgs false

variable {P : Program} {T : Tab} {N : Nat} {w0 : World} {Mv : Mvp} {Gb Gs : BS} {hd : Nat → Value} {fp : Nat → BS} {s : St} {a : Act} {w w' : World}

theorem OpOk.mk {o : Oper} {z : Slot} {m : List (Nat × Ob)} {v : Value} {w' : World} (hr : (execOp a.eval o).run P w = .ok (.value v) w') (h : ∃ Gs' hd' fp', Inv N w0 Mv Gb Gs' hd' fp' (s.out o.dst z m) (a.put o.dst v) w') : OpOk P N w0 Mv Gb s a w o z m :=
  let ⟨Gs', hd', fp', h⟩ := h; ⟨v, w', Gs', hd', fp', .inl hr, h⟩

theorem kill_mods (s : St) (k : Nat) : (⟨s.sl, s.ob.set k .gone⟩ : St) = ⟨s.sl, modOb s.ob [(k, .gone)]⟩ := rfl
theorem kill_none {s : St} {k : Nat} (hk : isNone (s.ob.getD k .none) = false) : ∀ j, s.ob.getD j .gone = .none → (modOb s.ob [(k, .gone)]).getD j .gone = .none := fun j hj => by
  simp only [modOb]
  rw [getD_set_ne' _ _ _ (fun e => by
    subst e
    rcases Nat.lt_or_ge j s.ob.length with h | h
    · rw [List.getD_eq_getElem?_getD, List.getElem?_eq_getElem h] at hj hk; simp at hj; rw [hj] at hk; cases hk
    · rw [List.getD_eq_getElem?_getD, List.getElem?_eq_none h] at hk; cases hk)]
  exact hj

theorem view2 {o : Oper} {b : Builtin} {xs : Array Operand} {ts : Array TypeId} (ho : o.op = .call ⟨.builtin b, xs, ts⟩) {v1 v2 : V} (h : views T s o = [v1, v2]) :
    ∃ x y, xs = #[x, y] ∧ v1 = view s ((ts[0]?).bind T.ty, x) ∧ v2 = view s ((ts[1]?).bind T.ty, y) := by
  simp only [views, opnds, ho] at h
  obtain ⟨l⟩ := xs
  match l, h with
  | [x, y], h => simp [List.zipIdx] at h; exact ⟨x, y, rfl, h.1.symm, h.2.symm⟩
  | [], h => simp at h
  | [x], h => simp [List.zipIdx] at h
  | x :: y :: z :: r, h => simp [List.zipIdx] at h
theorem view3 {o : Oper} {b : Builtin} {xs : Array Operand} {ts : Array TypeId} (ho : o.op = .call ⟨.builtin b, xs, ts⟩) {v1 v2 v3 : V} (h : views T s o = [v1, v2, v3]) :
    ∃ x y z, xs = #[x, y, z] ∧ v1 = view s ((ts[0]?).bind T.ty, x) ∧ v2 = view s ((ts[1]?).bind T.ty, y) ∧ v3 = view s ((ts[2]?).bind T.ty, z) := by
  simp only [views, opnds, ho] at h
  obtain ⟨l⟩ := xs
  match l, h with
  | [x, y, z], h => simp [List.zipIdx] at h; exact ⟨x, y, z, rfl, h.1.symm, h.2.1.symm, h.2.2.symm⟩
  | [], h => simp at h
  | [x], h => simp [List.zipIdx] at h
  | [x, y], h => simp [List.zipIdx] at h
  | x :: y :: z :: u :: r, h => simp [List.zipIdx] at h

theorem view1 {o : Oper} {b : Builtin} {xs : Array Operand} {ts : Array TypeId} (ho : o.op = .call ⟨.builtin b, xs, ts⟩) {v1 : V} (h : views T s o = [v1]) :
    ∃ x, xs = #[x] ∧ v1 = view s ((ts[0]?).bind T.ty, x) := by
  simp only [views, opnds, ho] at h
  obtain ⟨l⟩ := xs
  match l, h with
  | [x], h => simp [List.zipIdx] at h; exact ⟨x, rfl, h.symm⟩
  | [], h => simp at h
  | x :: y :: r, h => simp [List.zipIdx] at h

theorem ok_dpAppend (hT : TabOk P T) (h : Inv N w0 Mv Gb Gs hd fp s a w) {o : Oper} {ts : Array TypeId} {x y : Operand} {t1 t2 : Option Ty} {e : Ty} {xs : List (Den e)} {z : Slot} {m : List (Nat × Ob)} (ho : o.op = .call ⟨.builtin .append, #[x, y], ts⟩)
    (hob : (view s (t1, x)).b = .dp e xs) (hop : dpAppend T o ts (view s (t1, x)) (view s (t2, y)) (freshOb s o.dst) e xs = some (true, z, m)) : OpOk P N w0 Mv Gb s a w o z m := by
  unfold dpAppend at hop
  split at hop
  · rename_i t k k' e' ys ht hz hz' hb'
    split at hop
    · rename_i he
      subst he
      split at hop
      · rename_i hc
        obtain ⟨hrow, rfl, hne⟩ := hc
        have hlim := newDeep_true hop
        simp only [decide_eq_true_eq] at hlim
        have hx := rd_ok h t1 x
        have hy := rd_ok h t2 y
        simp only [view, viewZ] at hz hz' hb' hob
        rw [hz] at hx hob
        rw [hz'] at hy hb'
        simp only [obOf, keyOf] at hb' hob
        simp only [SlotR] at hx hy
        have h0 := h.obs k
        rw [hob] at h0
        have h1 := h.obs k'
        rw [hb'] at h1
        have hks : ∀ j ∈ [k, k'], isNone (s.ob.getD j .none) = false ∧ obBox (s.ob.getD j .none) = false := by
          intro j hj
          simp only [List.mem_cons, List.not_mem_nil, or_false] at hj
          rcases hj with rfl | rfl
          · rw [hob]; exact ⟨rfl, rfl⟩
          · rw [hb']; exact ⟨rfl, rfl⟩
        have hk := h.kills [k, k'] hks (by simp [hne])
        obtain ⟨v, w1, F, r1, r2, r3, r4⟩ := append_deep hT hrow o.type h0 h1 (fun b hb => kills_free (ks := [k, k']) h (by simp) hb) (fun b hb => kills_free (ks := [k, k']) h (by simp) hb) (fun b hb hb' => hne (h.disj k k' b hb hb')) hlim hk
        rw [← hx.2, ← hy.2] at r1
        refine OpOk.mk (v := v) (w' := w1) (by simp [execOp, ho, resolve, invoke, builtin, r1]) ?_
        exact (newDeep_ok hop rfl (s := s) r2 (kills_none (fun j hj => (hks j hj).1)) r3 r4).2
      · cases hop
    · cases hop
  · cases hop
theorem ok_sdAppend (hT : TabOk P T) (h : Inv N w0 Mv Gb Gs hd fp s a w) {o : Oper} {ts : Array TypeId} {x y : Operand} {t1 t2 : Option Ty} {xs : List (List Int)} {z : Slot} {m : List (Nat × Ob)} (ho : o.op = .call ⟨.builtin .append, #[x, y], ts⟩)
    (hob : (view s (t1, x)).b = .sd xs) (hop : sdAppend T o ts (view s (t1, x)) (view s (t2, y)) (freshOb s o.dst) xs = some (true, z, m)) : OpOk P N w0 Mv Gb s a w o z m := by
  unfold sdAppend at hop
  split at hop
  · rename_i t k k' ys ht hz hz' hb'
    split at hop
    · rename_i hc
      obtain ⟨hrow, rfl, hne⟩ := hc
      have hcc := newSd_true hop
      simp only [Bool.and_eq_true, decide_eq_true_eq] at hcc
      obtain ⟨hlim, hap⟩ := hcc
      simp only [view, viewZ] at hz hz' hb' hob
      rw [hz] at hob
      rw [hz'] at hb'
      simp only [obOf, keyOf] at hb' hob
      obtain ⟨Gs1, hd1, fp1, g⟩ := asSd h hb'
      have hlt' : k' < s.ob.length := ob_lt (by revert hb'; cases s.ob.getD k' .none <;> simp [obSd, isNone])
      have e1 : (s.ob.set k' (.sd ys)).getD k .none = .sd xs := by rw [getD_set_ne' _ _ _ hne]; exact hob
      have e2 : (s.ob.set k' (.sd ys)).getD k' .none = .sd ys := by rw [getD_set_self, if_pos hlt']
      have hx := g.slots
      have hvx : a.eval x = hd1 k := by
        have := rd_ok g t1 x
        rw [show rd (⟨s.sl, s.ob.set k' (.sd ys)⟩ : St) t1 x = .ref k by cases x <;> exact hz] at this
        simp only [SlotR] at this
        exact this.2
      have hvy : a.eval y = hd1 k' := by
        have := rd_ok g t2 y
        rw [show rd (⟨s.sl, s.ob.set k' (.sd ys)⟩ : St) t2 y = .ref k' by cases y <;> exact hz'] at this
        simp only [SlotR] at this
        exact this.2
      have h0 := g.obs k
      simp only [e1] at h0
      have h1 := g.obs k'
      simp only [e2] at h1
      have hks : ∀ j ∈ [k, k'], isNone ((s.ob.set k' (.sd ys)).getD j .none) = false ∧ obBox ((s.ob.set k' (.sd ys)).getD j .none) = false := by
        intro j hj
        simp only [List.mem_cons, List.not_mem_nil, or_false] at hj
        rcases hj with rfl | rfl
        · rw [e1]; exact ⟨rfl, rfl⟩
        · rw [e2]; exact ⟨rfl, rfl⟩
      have hk := g.kills [k, k'] hks (by simp [hne])
      obtain ⟨v, w1, F, r1, r2, r3, r4⟩ := append_sd hT hrow o.type h0 h1 (fun b hb => kills_free (ks := [k, k']) g (by simp) hb) (fun b hb => kills_free (ks := [k, k']) g (by simp) hb) hlim hap hk
      rw [← hvx, ← hvy] at r1
      have em : modOb (s.ob.set k' (.sd ys)) (gones [k, k']) = modOb s.ob (gones [k, k']) := by
        simp only [gones, List.map_cons, List.map_nil, modOb]
        rw [List.set_set]
      rw [em] at r2
      refine OpOk.mk (v := v) (w' := w1) (by simp [execOp, ho, resolve, invoke, builtin, r1]) ?_
      have hks' : ∀ j ∈ [k, k'], isNone (s.ob.getD j .none) = false := fun j hj => by
        simp only [List.mem_cons, List.not_mem_nil, or_false] at hj
        rcases hj with rfl | rfl
        · rw [hob]; rfl
        · revert hb'; cases s.ob.getD j .none <;> simp [obSd, isNone]
      exact newSd_ok hop rfl (s := s) r2 (kills_none hks') r3 r4
    · cases hop
  · cases hop
theorem ok_append (hT : TabOk P T) (h : Inv N w0 Mv Gb Gs hd fp s a w) {own : List Nat} {o : Oper} {xs : Array Operand} {ts : Array TypeId} {z : Slot} {m : List (Nat × Ob)} (ho : o.op = .call ⟨.builtin .append, xs, ts⟩)
    (hop : opC T own o (views T s o) (freshOb s o.dst) = some (true, z, m)) : OpOk P N w0 Mv Gb s a w o z m := by
  simp only [opC, ho] at hop
  split at hop
  · rename_i hb _; cases hb
  · rename_i hb _; cases hb
  · rename_i hb _; cases hb
  · rename_i hb _; cases hb
  · rename_i v1 v2 _ heq
    obtain ⟨x, y, rfl, rfl, rfl⟩ := view2 ho heq
    split at hop
    · rename_i e0 xs0 hob
      exact ok_dpAppend hT h ho hob hop
    · rename_i xs0 hob
      exact ok_sdAppend hT h ho hob hop
    split at hop
    · rename_i t tb e ys ht hp
      split at hop
      · rename_i hc
        obtain ⟨hrow, rfl⟩ := hc
        have hy := data_row h _ hp
        simp only at hy
        have hx := rd_ok h ((#[t, t] : Array TypeId)[0]?.bind T.ty) x
        have run : ∀ (v : Value) (w1 : World), (Builtin.append_ #[t, t] o.type #[a.eval x, a.eval y]).run P w = .ok v w1 → (execOp a.eval o).run P w = .ok (.value v) w1 := by
          intro v w1 hr
          simp [execOp, ho, resolve, invoke, builtin, hr]
        split at hop
        · rename_i e' hz
          simp only [view, viewZ] at hz
          rw [hz] at hx
          simp only [SlotR] at hx
          split at hop
          · rename_i he
            subst he
            have hc : decide (ys.length < lim) = true := by
              unfold newRow at hop
              split at hop
              · cases hop
              · split at hop
                · split at hop
                  · simp at hop; simpa using hop.1
                  · cases hop
                · simp at hop; simpa using hop.1
            obtain ⟨v, w1, F, h1, h2, h3, h4⟩ := append_row (own := own) (d := o.dst) hT hrow (tn := tb) (x := []) (vx := .slice none 0 0) o.type (B := fun _ => False) (.inl ⟨rfl, rfl⟩) (fun _ h => h.elim) hy (by simpa using hc) h
            rw [← hx] at h1
            refine OpOk.mk (run v w1 h1) ?_
            exact (newRow_ok hop rfl (s := s) (m := []) h2 (fun _ h => h) h3 h4 (fun h => by cases h)).2
          · cases hop
        · rename_i k tn nx e' xs hz hob
          simp only [view, viewZ] at hz hob
          rw [hz] at hx hob
          simp only [obOf, keyOf] at hob
          simp only [SlotR] at hx
          split at hop
          · rename_i he
            subst he
            simp only at hop
            have hc : decide (xs.length + ys.length < lim) = true := by
              unfold newRow at hop
              split at hop
              · cases hop
              · split at hop
                · split at hop
                  · simp at hop; simpa using hop.1
                  · cases hop
                · simp at hop; simpa using hop.1
            have h0 := h.obs k
            rw [hob] at h0
            have hk := h.kill hx.1 (by rw [hob]; rfl)
            have how : OwnRow w (Gof Gs Gb (tn || tb)) e' xs (hd k) (fp k) := h0.1.move (Gof_mono (fun _ h => h) (fun h => by simp [h])) (fun _ _ => rfl) (fun _ h => h)
            have hy' : RowR w (Gof Gs Gb (tn || tb)) _ e' ys (a.eval y) := hy.mono (Gof_mono (fun _ h => h) (fun h => by simp [h])) (fun _ h => h)
            obtain ⟨v, w1, F, h1, h2, h3, h4⟩ := append_row (own := own) (d := o.dst) hT hrow o.type how (fun b hb => Free.killed h hb) hy' (by simpa using hc) hk
            rw [← hx.2] at h1
            refine OpOk.mk (run v w1 h1) ?_
            exact (newRow_ok hop rfl (s := s) (m := [(k, .gone)]) h2 (kill_none hx.1) h3 h4 (fun h => by cases h)).2
          · cases hop
        · rename_i k lo hi tn nx e' xs hz hob
          simp only [view, viewZ] at hz hob
          rw [hz] at hx hob
          simp only [obOf, keyOf] at hob
          simp only [SlotR] at hx
          split at hop
          · rename_i k' lo' hi' hz'
            split at hop
            · rename_i hk
              obtain ⟨rfl, rfl, rfl⟩ := hk
              simp only [Option.some.injEq, Prod.mk.injEq, decide_eq_true_eq] at hop
              obtain ⟨⟨hc1, rfl⟩, rfl, rfl⟩ := hop
              have hy := rd_ok h ((#[t, t] : Array TypeId)[1]?.bind T.ty) y
              simp only [view, viewZ] at hz'
              rw [hz'] at hy
              simp only [SlotR] at hy
              obtain ⟨va, n, cap, e1, e2, e3, e4⟩ := hx.2 e' (by rw [hob]; rfl)
              obtain ⟨va', n', cap', f1, f2, f3, f4⟩ := hy.2 e' (by rw [hob]; rfl)
              rw [e1] at f1
              cases f1
              obtain ⟨w1, r1, r2⟩ := append_view hT h hrow o.type hob e1 hc1 f2
              refine OpOk.mk (run _ w1 (by rw [e4, f4]; exact r1)) ⟨Gs, hd, fp, ?_⟩
              refine r2.put o.dst (z := .vw k' 0 (hi + (xs.length - lo'))) ?_
              simp only [SlotR]
              have hlt : k' < s.ob.length := by
                rcases Nat.lt_or_ge k' s.ob.length with h | h
                · exact h
                · rw [List.getD_eq_getElem?_getD, List.getElem?_eq_none h] at hob; cases hob
              rw [getD_set_self, if_pos hlt]
              refine ⟨rfl, fun e0 he0 => ?_⟩
              simp only [obShape, Option.some.injEq, Prod.mk.injEq, true_and] at he0
              subst he0
              have h0 := h.obs k'
              rw [hob] at h0
              obtain ⟨va2, cap2, g1, g2⟩ := h0.1.row.len
              rw [e1] at g1
              cases g1
              exact ⟨va, xs.length, cap, e1, Nat.zero_le _, by omega, rfl⟩
            · cases hop
          · cases hop
        · cases hop
      · cases hop
    · cases hop
  · rename_i hb _; cases hb
  · cases hop

theorem ok_maxmin (h : Inv N w0 Mv Gb Gs hd fp s a w) {own : List Nat} {o : Oper} {b : Builtin} {xs : Array Operand} {ts : Array TypeId} {fr : Ob} {z : Slot} {m : List (Nat × Ob)} (hb : b = .max ∨ b = .min) (ho : o.op = .call ⟨.builtin b, xs, ts⟩)
    (hop : opC T own o (views T s o) fr = some (true, z, m)) : OpOk P N w0 Mv Gb s a w o z m := by
  simp only [opC, ho] at hop
  split at hop
  · rename_i hb' _; rcases hb with hb | hb <;> cases hb
  · rename_i v1 v2 _ heq
    obtain ⟨x, y, rfl, rfl, rfl⟩ := view2 ho heq
    split at hop
    · rename_i b1 n b2 n' hp hq
      have e1 := data_int h _ hp
      have e2 := data_int h _ hq
      simp only at e1 e2
      refine ok_pureE h hop (fun _ => ⟨_, ?_, VRep.int _ _⟩)
      simp [execOp, ho, resolve, invoke, builtin, Builtin.max_, Builtin.max2, e1, e2, List.foldlM]
      rw [Int.max_def]
      split <;> split <;> omega
    · cases hop
  · rename_i v1 v2 v3 _ heq
    obtain ⟨x, y, u, rfl, rfl, rfl, rfl⟩ := view3 ho heq
    split at hop
    · rename_i b1 n b2 n' b3 n'' hp hq hr
      have e1 := data_int h _ hp
      have e2 := data_int h _ hq
      have e3 := data_int h _ hr
      simp only at e1 e2 e3
      refine ok_pureE h hop (fun _ => ⟨_, ?_, VRep.int _ _⟩)
      simp [execOp, ho, resolve, invoke, builtin, Builtin.max_, Builtin.max2, e1, e2, e3, List.foldlM]
      repeat rw [Int.max_def]
      (repeat' split) <;> omega
    · cases hop
  · rename_i v1 v2 _ heq
    obtain ⟨x, y, rfl, rfl, rfl⟩ := view2 ho heq
    split at hop
    · rename_i b1 n b2 n' hp hq
      have e1 := data_int h _ hp
      have e2 := data_int h _ hq
      simp only at e1 e2
      refine ok_pureE h hop (fun _ => ⟨_, ?_, VRep.int _ _⟩)
      simp [execOp, ho, resolve, invoke, builtin, Builtin.min_, Builtin.min2, e1, e2, List.foldlM]
      rw [Int.min_def]
      split <;> split <;> omega
    · cases hop
  · rcases hb with hb | hb <;> cases hb
  · rename_i hb' _; rcases hb with hb | hb <;> cases hb
  · cases hop
end Go.Proofs.YtkgpkalclblhbaaGreatDoor.Eng
