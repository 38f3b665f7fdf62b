/-
  One operation: cuts, new rows, new variables.
-/
import Derived.Test.YtkgpkalclblhbaaGreatDoorS10
namespace Go.Proofs.YtkgpkalclblhbaaGreatDoor.Eng
open Go Go.RowKit
set_option linter.unusedVariables false
set_option linter.unusedSimpArgs false

variable {P : Program} {T : Tab} {N : Nat} {w0 : World} {Mv : Mvp} {Gb Gs : BS} {hd : Nat → Value} {fp : Nat → BS} {s : St} {a : Act} {w w' : World}

theorem sliceBound_run (k : IntKind) (n : Int) (y : Nat) (code : BoundsCode) (h0 : 0 ≤ n) (h1 : n ≤ y) : (Instr.sliceBound (.int k n) y code).run P w = .ok n.toNat w := by
  simp [Instr.sliceBound, asIntOf, h0, h1]
/-- A bound: what the operand says, or what stands for it. -/
def Bd (v : Option Value) (n : Nat) (d : Nat) : Prop := (v = none ∧ n = d) ∨ ∃ k, v = some (.int k (n : Int))
theorem run_slice2 {tid eid : Nat} {i : TypeInfo} (hu : P.underlying tid = some (.slice eid)) (hi : P.info? eid = some i) (a : Option Addr) (n cap : Nat) (lo hi' : Option Value) (l hh : Nat) (hl : Bd lo l 0) (hh' : Bd hi' hh n) (h1 : l ≤ hh) (h2 : hh ≤ cap) :
    (Instr.sliceAt tid (.slice a n cap) lo hi' none).run P w = .ok (.slice (if cap = l then a else a.map (·.add (l * i.size))) (hh - l) (cap - l)) w := by
  unfold Instr.sliceAt
  simp only [Sem.run_bind, run_underlying hu, Result.andThen_ok, Instr.slice, Instr.sliceBounds, Sem.run_pure]
  rcases hh' with ⟨rfl, rfl⟩ | ⟨k, rfl⟩ <;> rcases hl with ⟨rfl, rfl⟩ | ⟨k', rfl⟩ <;>
    simp [sliceBound_run (P := P) (w := w), h1, h2, sizeOf, typeInfo, hi] <;> rfl
theorem run_slice3 {tid eid : Nat} {i : TypeInfo} (hu : P.underlying tid = some (.slice eid)) (hi : P.info? eid = some i) (a : Option Addr) (n cap : Nat) (k k' : IntKind) (hh : Nat) (h2 : hh ≤ cap) :
    (Instr.sliceAt tid (.slice a n cap) none (some (.int k (hh : Int))) (some (.int k' (hh : Int)))).run P w = .ok (.slice a hh hh) w := by
  unfold Instr.sliceAt
  simp only [Sem.run_bind, run_underlying hu, Result.andThen_ok, Instr.slice, Instr.sliceBounds, Sem.run_pure]
  simp [sliceBound_run (P := P) (w := w), h2, sizeOf, typeInfo, hi]
  cases a <;> simp [Addr.add]
theorem run_slice3' {tid eid : Nat} {i : TypeInfo} (hu : P.underlying tid = some (.slice eid)) (hi : P.info? eid = some i) (a : Option Addr) (n cap : Nat) (k k' k'' : IntKind) (l hh mm : Nat) (h1 : l ≤ hh) (h2 : hh ≤ mm) (h3 : mm ≤ cap) :
    ∃ v, (Instr.sliceAt tid (.slice a n cap) (some (.int k'' (l : Int))) (some (.int k (hh : Int))) (some (.int k' (mm : Int)))).run P w = .ok v w := by
  unfold Instr.sliceAt
  simp only [Sem.run_bind, run_underlying hu, Result.andThen_ok, Instr.slice, Instr.sliceBounds, Sem.run_pure]
  simp [sliceBound_run (P := P) (w := w), h1, h2, h3, sizeOf, typeInfo, hi]
theorem run_sliceStr {tid : Nat} (hu : P.underlying tid = some .string) (q : ByteArray) (lo hi' : Option Value) (l hh : Nat) (hl : Bd lo l 0) (hh' : Bd hi' hh q.size) (h1 : l ≤ hh) (h2 : hh ≤ q.size) :
    (Instr.sliceAt tid (.string q) lo hi' none).run P w = .ok (.string (q.extract l hh)) w := by
  unfold Instr.sliceAt
  simp only [Sem.run_bind, run_underlying hu, Result.andThen_ok, Instr.slice, Instr.sliceBounds, Sem.run_pure]
  rcases hh' with ⟨rfl, rfl⟩ | ⟨k, rfl⟩ <;> rcases hl with ⟨rfl, rfl⟩ | ⟨k', rfl⟩ <;>
    simp [sliceBound_run (P := P) (w := w), h1, h2]

theorem optInt_ok (h : Inv N w0 Mv Gb Gs hd fp s a w) {x : Option Operand} {b : Bool} {v : Option V} {r : Option Int} (hx : b = x.isSome) (hv : ∀ y, x = some y → v = some (view s (none, y))) (ho : optInt b v = some r) :
    (x = none ∧ r = none) ∨ ∃ y k n, x = some y ∧ r = some n ∧ a.eval y = .int k n := by
  subst hx
  unfold optInt at ho
  cases x with
  | none => simp at ho; exact .inl ⟨rfl, ho.symm⟩
  | some y =>
    rw [hv y rfl] at ho
    simp only [Option.isSome_some, if_true, Option.map_eq_some_iff] at ho
    obtain ⟨n, h1, rfl⟩ := ho
    obtain ⟨k, h2⟩ := view_int h _ h1
    exact .inr ⟨y, k, n, rfl, rfl, h2⟩
theorem Bd.mk {x : Option Operand} {r : Option Int} {d : Nat} (hx : (x = none ∧ r = none) ∨ ∃ y k n, x = some y ∧ r = some n ∧ a.eval y = .int k n) (h0 : 0 ≤ r.getD d) : Bd (x.map a.eval) (r.getD d).toNat d := by
  rcases hx with ⟨rfl, rfl⟩ | ⟨y, k, n, rfl, rfl, h⟩
  · left; simp
  · right; simp at h0 ⊢; exact ⟨k, by rw [h]; simp; omega⟩
theorem ok_slice (hT : TabOk P T) (h : Inv N w0 Mv Gb Gs hd fp s a w) {own : List Nat} {o : Oper} {tid : Nat} {x : Operand} {lo hi mx : Option Operand} {z : Slot} {m : List (Nat × Ob)} (ho : o.op = .slice tid x lo hi mx)
    (hop : opC T own o (views T s o) (freshOb s o.dst) = some (true, z, m)) : OpOk P N w0 Mv Gb s a w o z m := by
  simp only [opC, ho, views, opnds, List.map_cons] at hop
  have hx := rd_ok h (T.ty tid) x
  have run : ∀ v, (Instr.sliceAt tid (a.eval x) (lo.map a.eval) (hi.map a.eval) (mx.map a.eval)).run P w = .ok v w → (execOp a.eval o).run P w = .ok (.value v) w := by
    intro v hr
    simp only [execOp, ho, Sem.run_bind, hr, Result.andThen_ok, Sem.run_pure]
  split at hop
  · -- no third bound
    rename_i l hh e1 e2 e3
    have k1 := optInt_ok h (x := lo) rfl (by rintro y rfl; simp) e1
    have k2 := optInt_ok h (x := hi) rfl (by rintro y rfl; cases lo <;> simp) e2
    have k3 := optInt_ok h (x := mx) rfl (by rintro y rfl; cases lo <;> cases hi <;> simp) e3
    have hmx : mx = none := by
      rcases k3 with ⟨h, _⟩ | ⟨_, _, _, _, h, _⟩
      · exact h
      · cases h
    subst hmx
    split at hop
    · rename_i k tn nx e xs hz hob hown
      simp only [view, viewZ] at hz hob
      rw [hz] at hx hob
      simp only [obOf, keyOf] at hob
      split at hop
      · rename_i hrow
        simp only [Option.some.injEq, Prod.mk.injEq, decide_eq_true_eq] at hop
        obtain ⟨⟨j1, j2, j3⟩, rfl, rfl⟩ := hop
        have h0 := h.obs k
        rw [hob] at h0
        simp only [SlotR] at hx
        obtain ⟨eid, i, hu, hi', hs, _⟩ := elem_facts hT hrow
        obtain ⟨va, cap, ev, hcap⟩ := h0.1.row.len
        have hb2 : Bd (hi.map a.eval) (hh.getD xs.length).toNat xs.length := Bd.mk k2 (by omega)
        have hr := run_slice2 (P := P) (w := w) hu hi' va xs.length cap (lo.map a.eval) (hi.map a.eval) (l.getD 0).toNat (hh.getD xs.length).toNat (Bd.mk (d := 0) k1 j1) hb2 (by omega) (by omega)
        rw [← ev, ← hx.2] at hr
        refine OpOk.of_put h (run _ hr) ?_
        simp only [SlotR]
        refine ⟨hx.1, fun e' he' => ?_⟩
        rw [hob] at he'
        simp only [obShape, Option.some.injEq, Prod.mk.injEq, true_and] at he'
        subst he'
        exact ⟨va, xs.length, cap, ev, by omega, by omega, by rw [hs]⟩
      · cases hop
    · rename_i k lo' hi2 tn nx e xs hz hob hown
      simp only [view, viewZ] at hz hob
      rw [hz] at hx hob
      simp only [obOf, keyOf] at hob
      split at hop
      · rename_i hrow
        obtain ⟨hrow, rfl⟩ := hrow
        simp only [Option.some.injEq, Prod.mk.injEq, decide_eq_true_eq] at hop
        obtain ⟨⟨j1, j2, j3⟩, rfl, rfl⟩ := hop
        have h0 := h.obs k
        rw [hob] at h0
        simp only [SlotR] at hx
        obtain ⟨eid, i, hu, hi', hs, _⟩ := elem_facts hT hrow
        obtain ⟨va, n, cap, ev, q2, q3, q4⟩ := hx.2 e (by rw [hob]; rfl)
        obtain ⟨va2, cap2, ev2, hcap⟩ := h0.1.row.len
        rw [ev] at ev2
        cases ev2
        have haddr : va.map (·.add (0 * sz e)) = va := by cases va <;> simp [Addr.add]
        rw [haddr, ite_self] at q4
        simp only [Nat.sub_zero] at q4
        have hb2 : Bd (hi.map a.eval) (hh.getD hi2).toNat hi2 := Bd.mk k2 (by omega)
        have hr := run_slice2 (P := P) (w := w) hu hi' va hi2 cap (lo.map a.eval) (hi.map a.eval) (l.getD 0).toNat (hh.getD hi2).toNat (Bd.mk (d := 0) k1 j1) hb2 (by omega) (by omega)
        rw [← q4] at hr
        refine OpOk.of_put h (run _ hr) ?_
        simp only [SlotR]
        refine ⟨hx.1, fun e' he' => ?_⟩
        rw [hob] at he'
        simp only [obShape, Option.some.injEq, Prod.mk.injEq, true_and] at he'
        subst he'
        exact ⟨va, xs.length, cap, ev, by omega, by omega, by rw [hs]⟩
      · cases hop
    · rename_i hown
      split at hop
      · rename_i tn e xs hp
        split at hop
        · rename_i hrow
          have hv := (view_data h _ hp).2 hown
          simp only at hv
          obtain ⟨eid, i, hu, hi', hs, _⟩ := elem_facts hT hrow
          obtain ⟨va, cap, ev, hcap⟩ := hv.row.len
          refine ok_pureE h hop (fun hc => ?_)
          simp only [decide_eq_true_eq] at hc
          obtain ⟨j1, j2, j3⟩ := hc
          have hb2 : Bd (hi.map a.eval) (hh.getD xs.length).toNat xs.length := Bd.mk k2 (by omega)
          have hr := run_slice2 (P := P) (w := w) hu hi' va xs.length cap (lo.map a.eval) (hi.map a.eval) (l.getD 0).toNat (hh.getD xs.length).toNat (Bd.mk (d := 0) k1 j1) hb2 (by omega) (by omega)
          rw [← ev] at hr
          refine ⟨_, run _ hr, ?_⟩
          have hrow' := hv.row
          rw [ev] at hrow'
          have := hrow'.sub (lo := (l.getD 0).toNat) (hi := (hh.getD xs.length).toNat) (by omega) (by omega)
          rw [hs]
          exact this.toV
        · cases hop
      · rename_i tn xs hp
        split at hop
        · rename_i hty
          obtain ⟨q, q1, e1⟩ := data_str h _ hp
          simp only at e1
          subst q1
          have hsz : q.data.toList.length = q.size := rfl
          refine ok_pureE h hop (fun hc => ?_)
          simp only [decide_eq_true_eq] at hc
          obtain ⟨j1, j2, j3⟩ := hc
          have hb2 : Bd (hi.map a.eval) (hh.getD q.data.toList.length).toNat q.size := Bd.mk (d := q.data.toList.length) k2 (by omega)
          have hr := run_sliceStr (P := P) (w := w) (desc_str hT hty) q (lo.map a.eval) (hi.map a.eval) (l.getD 0).toNat (hh.getD q.data.toList.length).toNat (Bd.mk (d := 0) k1 j1) hb2 (by omega) (by omega)
          rw [← e1] at hr
          refine ⟨_, run _ hr, ?_⟩
          have hq : (q.extract (l.getD 0).toNat (hh.getD q.data.toList.length).toNat).data.toList = (q.data.toList.take (hh.getD q.data.toList.length).toNat).drop (l.getD 0).toNat := by
            rw [ByteArray.data_extract, Array.toList_extract, List.extract_eq_take_drop, List.drop_take]
          rw [← hq]
          exact VRep.str _
        · cases hop
      · cases hop
    · cases hop
  · -- all three bounds
    rename_i l hh mm e1 e2 e3
    have k1 := optInt_ok h (x := lo) rfl (by rintro y rfl; simp) e1
    have k2 := optInt_ok h (x := hi) rfl (by rintro y rfl; cases lo <;> simp) e2
    have k3 := optInt_ok h (x := mx) rfl (by rintro y rfl; cases lo <;> cases hi <;> simp) e3
    obtain ⟨q, kq, rfl, eq⟩ : ∃ y k, lo = some y ∧ a.eval y = .int k l := by
      rcases k1 with ⟨_, h⟩ | ⟨y, k, n, h1, h2, h3⟩
      · cases h
      · cases h2; exact ⟨y, k, h1, h3⟩
    obtain ⟨y, ky, rfl, ey⟩ : ∃ y k, hi = some y ∧ a.eval y = .int k hh := by
      rcases k2 with ⟨_, h⟩ | ⟨y, k, n, h1, h2, h3⟩
      · cases h
      · cases h2; exact ⟨y, k, h1, h3⟩
    obtain ⟨u, ku, rfl, eu⟩ : ∃ y k, mx = some y ∧ a.eval y = .int k mm := by
      rcases k3 with ⟨_, h⟩ | ⟨y, k, n, h1, h2, h3⟩
      · cases h
      · cases h2; exact ⟨y, k, h1, h3⟩
    simp only [Option.map_some, eq, ey, eu] at run
    split at hop
    · rename_i k tn nx e xs hz hob hown
      simp only [view, viewZ] at hz hob
      rw [hz] at hx hob
      simp only [obOf, keyOf] at hob
      split at hop
      · rename_i hrow
        simp only [Option.some.injEq, Prod.mk.injEq, decide_eq_true_eq] at hop
        obtain ⟨⟨j1, j2, j3, j4⟩, rfl, rfl⟩ := hop
        have h0 := h.obs k
        rw [hob] at h0
        simp only [SlotR] at hx
        obtain ⟨eid, i, hu, hi', hs, _⟩ := elem_facts hT hrow
        obtain ⟨va, cap, ev, hcap⟩ := h0.1.row.len
        obtain ⟨v, hr⟩ := run_slice3' (P := P) (w := w) hu hi' va xs.length cap ky ku kq l.toNat hh.toNat mm.toNat (by omega) (by omega) (by omega)
        have n1 : ((l.toNat : Nat) : Int) = l := by omega
        have n2 : ((hh.toNat : Nat) : Int) = hh := by omega
        have n3 : ((mm.toNat : Nat) : Int) = mm := by omega
        rw [n1, n2, n3, ← ev, ← hx.2] at hr
        exact OpOk.of_put h (run _ hr) (by simp only [SlotR])
      · cases hop
    · cases hop
  · -- a third bound
    rename_i hh mm e1 e2 e3
    have k1 := optInt_ok h (x := lo) rfl (by rintro y rfl; simp) e1
    have k2 := optInt_ok h (x := hi) rfl (by rintro y rfl; cases lo <;> simp) e2
    have k3 := optInt_ok h (x := mx) rfl (by rintro y rfl; cases lo <;> cases hi <;> simp) e3
    obtain rfl : lo = none := by
      rcases k1 with ⟨h, _⟩ | ⟨_, _, _, _, h, _⟩
      · exact h
      · cases h
    obtain ⟨y, ky, rfl, ey⟩ : ∃ y k, hi = some y ∧ a.eval y = .int k hh := by
      rcases k2 with ⟨_, h⟩ | ⟨y, k, n, h1, h2, h3⟩
      · cases h
      · cases h2; exact ⟨y, k, h1, h3⟩
    obtain ⟨u, ku, rfl, eu⟩ : ∃ y k, mx = some y ∧ a.eval y = .int k mm := by
      rcases k3 with ⟨_, h⟩ | ⟨y, k, n, h1, h2, h3⟩
      · cases h
      · cases h2; exact ⟨y, k, h1, h3⟩
    simp only [Option.map_some, Option.map_none, ey, eu] at run
    split at hop
    · rename_i e hz
      simp only [view, viewZ] at hz
      rw [hz] at hx
      simp only [SlotR] at hx
      split at hop
      · rename_i hrow
        simp only [Option.some.injEq, Prod.mk.injEq, decide_eq_true_eq] at hop
        obtain ⟨⟨rfl, rfl⟩, rfl, rfl⟩ := hop
        obtain ⟨eid, i, hu, hi', hs, _⟩ := elem_facts hT hrow
        have hr := run_slice3 (P := P) (w := w) hu hi' none 0 0 ky ku 0 (Nat.le_refl _)
        exact OpOk.of_put h (v := .slice none 0 0) (run _ (by rw [hx]; exact hr)) (by simp only [SlotR])
      · cases hop
    · rename_i k tn nx e xs hz hob hown
      simp only [view, viewZ] at hz hob
      rw [hz] at hx hob
      simp only [obOf, keyOf] at hob
      split at hop
      · rename_i hrow
        have h0 := h.obs k
        rw [hob] at h0
        simp only [SlotR] at hx
        obtain ⟨eid, i, hu, hi', hs, _⟩ := elem_facts hT hrow
        have hc : 0 ≤ hh ∧ hh = mm ∧ hh ≤ xs.length := by
          unfold newRow at hop
          split at hop
          · cases hop
          · split at hop
            · split at hop
              · simp at hop; exact hop.1
              · cases hop
            · simp at hop; exact hop.1
        obtain ⟨j1, rfl, j3⟩ := hc
        obtain ⟨va, cap, ev, hcap⟩ := h0.1.row.len
        have hn : ((hh.toNat : Nat) : Int) = hh := by omega
        have hr := run_slice3 (P := P) (w := w) hu hi' va xs.length cap ky ku hh.toNat (by omega)
        rw [hn, ← ev, ← hx.2] at hr
        refine OpOk.mk (run _ hr) ?_
        refine (newRow_ok hop rfl (s := s) (m := [(k, .gone)]) (h.kill hx.1 (by rw [hob]; rfl)) (kill_none hx.1) (fun b (hb : fp k b) => Free.killed h hb) ?_ (fun h => by cases h)).2
        have hlen : (xs.take hh.toNat).length = hh.toNat := by simp; omega
        rcases h0.1 with ⟨g1, g2⟩ | ⟨b, o', cap', cs, g1, g2, g3, g4, g5, g6⟩
        · left
          subst g2
          rw [g1] at ev
          cases ev
          simp at j3
          have : hh.toNat = 0 := by omega
          exact ⟨by rw [this], by simp⟩
        · right
          rw [g1] at ev
          cases ev
          exact ⟨b, o', hh.toNat, cs.take (hh.toNat * sz e), by rw [hlen], by rw [hlen]; exact Nat.le_refl _, g3, g4.take _, rangeAt_take g5 _, there_take g6 (Nat.mul_le_mul_right _ (by omega))⟩
      · cases hop
    · rename_i hown _
      split at hop
      · rename_i tn e xs hp
        split at hop
        · rename_i hrow
          simp only [Option.some.injEq, Prod.mk.injEq, decide_eq_true_eq] at hop
          obtain ⟨⟨j1, rfl, j3⟩, rfl, rfl⟩ := hop
          have hv := (view_data h _ hp).2 hown
          simp only at hv
          obtain ⟨eid, i, hu, hi', hs, _⟩ := elem_facts hT hrow
          obtain ⟨va, cap, ev, hcap⟩ := hv.row.len
          have hn : ((hh.toNat : Nat) : Int) = hh := by omega
          have hr := run_slice3 (P := P) (w := w) hu hi' va xs.length cap ky ku hh.toNat (by omega)
          rw [hn, ← ev] at hr
          refine OpOk.of_put h (run _ hr) ?_
          have hlen : (xs.take hh.toNat).length = hh.toNat := by simp; omega
          simp only [SlotR]
          refine ⟨?_, va, by rw [hlen]⟩
          have hrow' := hv.row
          rcases hrow' with ⟨⟨_, g1⟩, g2⟩ | ⟨b, o', cap', cs, g1, g2, g3, g4, g5⟩
          · subst g2
            rw [g1] at ev
            cases ev
            simp at j3
            have : hh.toNat = 0 := by omega
            rw [this]; simp; exact .mkNil e
          · rw [g5] at ev
            cases ev
            have := VRep.mkSl (w := w) (x := xs.take hh.toNat) (cap := hh.toNat) (by rw [hlen]; exact Nat.le_refl _) g2 (g3.take hh.toNat) (rangeAt_take g4 _)
            rw [hlen] at this
            exact this
        · cases hop
      · cases hop
    · cases hop
  · cases hop
end Go.Proofs.YtkgpkalclblhbaaGreatDoor.Eng
