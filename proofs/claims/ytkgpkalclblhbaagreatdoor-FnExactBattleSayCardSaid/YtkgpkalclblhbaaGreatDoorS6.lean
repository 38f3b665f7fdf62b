/-
  One operation: conversions, lengths, addresses and reads.
-/
import Derived.Test.YtkgpkalclblhbaaGreatDoorS5
import Derived.Laws.BytesString
namespace Go.Proofs.YtkgpkalclblhbaaGreatDoor.Eng
open Go Go.RowKit
set_option linter.unusedVariables false
set_option linter.unusedSimpArgs false

variable {P : Program} {T : Tab} {N : Nat} {w0 : World} {Mv : Mvp} {Gb Gs : BS} {hd : Nat → Value} {fp : Nat → BS} {s : St} {a : Act} {w w' : World}

theorem ok_unOp (h : Inv N w0 Mv Gb Gs hd fp s a w) {own : List Nat} {o : Oper} {op : UnOp} {xt : TypeId} {x : Operand} {fr : Ob} {z : Slot} {m : List (Nat × Ob)} (ho : o.op = .unOp op xt x)
    (hop : opC T own o (views T s o) fr = some (true, z, m)) : OpOk P N w0 Mv Gb s a w o z m := by
  simp only [opC, ho, views, opnds, List.map] at hop
  split at hop
  · rename_i b p hp
    split at hop
    · rename_i v hv
      refine ok_pureE h hop (fun _ => ?_)
      unfold unopD at hv
      split at hv
      · cases hv
        have e := data_bool h _ hp
        exact ⟨_, by simp only [execOp, ho, e, Op.unary, Sem.run_bind, Sem.run_pure, Result.andThen_ok], VRep.bool _⟩
      · rename_i k n
        cases hv
        have e := data_int h _ hp
        exact ⟨_, by simp only [execOp, ho, e, Op.unary, Op.intArith, Sem.run_bind, Sem.run_pure, Result.andThen_ok], VRep.int _ _⟩
      · cases hv
    · cases hop
  · cases hop
theorem desc_int (hT : TabOk P T) {tid : Nat} {k : IntKind} (h : T.ty tid = some (.int k)) : P.underlying tid = some (.int k) := by
  obtain ⟨d, h1, h2⟩ := (hT.1 _ _ h).desc
  cases d <;> simp_all [DescOk, isAggT]
theorem desc_str (hT : TabOk P T) {tid : Nat} (h : T.ty tid = some .str) : P.underlying tid = some .string := by
  obtain ⟨d, h1, h2⟩ := (hT.1 _ _ h).desc
  cases d <;> simp_all [DescOk, isAggT]
theorem bytes_list (w : World) (G : BS) : ∀ {xs : List Int} {cs : List Value}, RepL w G (.int .u8) xs cs → cs = xs.map (Value.int .u8)
  | _, _, .nil _ => rfl
  | _, _, .cons _ x xs cs ds h1 h2 => by rw [RepC.of_int h1, bytes_list w G h2]; rfl
theorem bytes_push : ∀ (ns : List Int) (s : ByteArray), (ns.foldl (fun r n => r.push (UInt8.ofNat n.toNat)) s).data.toList = s.data.toList ++ ns.map fun n => UInt8.ofNat n.toNat
  | [], s => by simp
  | n :: ns, s => by
    rw [List.foldl_cons, bytes_push ns]
    simp [ByteArray.push]
theorem ok_convert (hT : TabOk P T) (h : Inv N w0 Mv Gb Gs hd fp s a w) {own : List Nat} {o : Oper} {src dst : TypeId} {x : Operand} {fr : Ob} {z : Slot} {m : List (Nat × Ob)} (ho : o.op = .convert src dst x)
    (hop : opC T own o (views T s o) fr = some (true, z, m)) : OpOk P N w0 Mv Gb s a w o z m := by
  simp only [opC, ho, views, opnds, List.map] at hop
  split at hop
  · rename_i j k b j' n h1 h2 hp
    have e := data_int h _ hp
    have u1 := desc_int hT h1
    have u2 := desc_int hT h2
    refine ok_pureE h hop (fun _ => ⟨_, ?_, VRep.int _ _⟩)
    simp only [execOp, ho, e, convert, Sem.run_bind, run_underlying u1, run_underlying u2, Result.andThen_ok, Conv.intToInt, Sem.run_pure]
  · rename_i b xs h1 h2 hp
    have hr := data_row h _ hp
    obtain ⟨eid, u, hu, hu2, hu3⟩ := rowT_facts (tid := src) (e := .int .u8) hT (by unfold rowT; rw [h1])
    have hu4 : u = .int .u8 := by rcases hu3 with hu3 | hu3 <;> exact hu3
    subst hu4
    have u1 := desc_int hT hu2
    have u2 := desc_str hT h2
    have fin : ∀ (oa : Option Addr) (cap : Nat), a.eval x = .slice oa xs.length cap → (Conv.bytesToString (.slice oa xs.length cap)).run P w = .ok (.string (xs.foldl (fun r n => r.push (UInt8.ofNat n.toNat)) ByteArray.empty)) w → OpOk P N w0 Mv Gb s a w o z m := by
      intro oa cap e hq
      refine ok_pureE h hop (fun _ => ⟨.string (xs.foldl (fun r n => r.push (UInt8.ofNat n.toNat)) ByteArray.empty), ?_, ?_⟩)
      · simp only [execOp, ho, e, Sem.run_bind, run_convert_bytes_string w src dst eid oa xs.length cap hu u1 u2, hq, Result.andThen_ok, Sem.run_pure]
      · have h5 := VRep.str (w := w) (G := Gof Gs Gb false) (xs.foldl (fun r n => r.push (UInt8.ofNat n.toNat)) ByteArray.empty)
        rw [bytes_push] at h5
        simpa using h5
    rcases hr with ⟨⟨oa, e⟩, hx0⟩ | ⟨b', ofs, cap, cs, g1, g2, g3, g4, g5⟩
    · subst hx0
      refine fin oa 0 e ?_
      cases oa with
      | none => simp [Conv.bytesToString, Sem.run_pure]
      | some ad => exact run_bytesToString w ad 0 0 [] (run_loadCells_list w ad [] (fun j v hv => by simp at hv))
    · have hcs := bytes_list w _ g3
      refine fin _ cap g5 (run_bytesToString w _ _ cap xs ?_)
      have hl := run_loadCells_list (P := P) w ⟨b', ofs, none⟩ cs (fun j v hv => by rw [Addr.add_mid]; exact g4 j v hv)
      rw [hcs] at hl
      simpa using hl
  · cases hop
theorem ok_nilCheck (h : Inv N w0 Mv Gb Gs hd fp s a w) {own : List Nat} {o : Oper} {x : Operand} {fr : Ob} {z : Slot} {m : List (Nat × Ob)} (ho : o.op = .nilCheck x)
    (hop : opC T own o (views T s o) fr = some (true, z, m)) : OpOk P N w0 Mv Gb s a w o z m := by
  simp only [opC, ho, views, opnds, List.map] at hop
  have hx := rd_ok h none x
  have fin : ∀ ad, a.eval x = .pointer (some ad) → (execOp a.eval o).run P w = .ok (.value (a.eval x)) w := by
    intro ad e
    simp only [execOp, ho, e, Sem.run_pure]
  split at hop
  · rename_i k p tn t y hz hob
    simp only [view, viewZ] at hz hob
    cases hop
    rw [hz] at hx hob
    simp only [obOf, keyOf] at hob
    have hx' := hx
    simp only [SlotR] at hx'
    obtain ⟨b, o', _, e⟩ := hx'.2 t (by rw [hob]; rfl)
    exact OpOk.of_put h (fin _ e) hx
  · rename_i k p t l hz hob
    simp only [view, viewZ] at hz hob
    cases hop
    rw [hz] at hx hob
    simp only [obOf, keyOf] at hob
    have hx' := hx
    simp only [SlotR] at hx'
    obtain ⟨b, o', _, e⟩ := hx'.2 t (by rw [hob]; rfl)
    exact OpOk.of_put h (fin _ e) hx
  · rename_i tn t y hz
    simp only [view, viewZ] at hz
    cases hop
    rw [hz] at hx
    have hx' := hx
    simp only [SlotR] at hx'
    obtain ⟨b, o', cs, e, _⟩ := hx'
    exact OpOk.of_put h (fin _ e) hx
  · rename_i k i p tn nx t y hz hob
    simp only [view, viewZ] at hz hob
    cases hop
    rw [hz] at hx hob
    simp only [obOf, keyOf] at hob
    have hx' := hx
    simp only [SlotR] at hx'
    obtain ⟨b, o', n, cap, _, _, e⟩ := hx'.2 t (by rw [hob]; rfl)
    exact OpOk.of_put h (fin _ e) hx
  · cases hop
theorem slotsR_get {ob : List Ob} : ∀ {l : List Slot} {vs : List Value} (h : SlotsR w Gs Gb hd ob l vs) (i : Nat) {z : Slot}, l[i]? = some z → ∃ v, vs[i]? = some v ∧ SlotR w Gs Gb hd ob z v
  | [], _, _, i, _, hi => by simp at hi
  | z :: l, vs, h, 0, y, hi => by
    simp only [SlotsR] at h
    obtain ⟨v, r, rfl, h1, h2⟩ := h
    simp at hi; subst hi
    exact ⟨v, by simp, h1⟩
  | z :: l, vs, h, i + 1, y, hi => by
    simp only [SlotsR] at h
    obtain ⟨v, r, rfl, h1, h2⟩ := h
    obtain ⟨u, h3, h4⟩ := slotsR_get h2 i (by simpa using hi)
    exact ⟨u, by simpa using h3, h4⟩
theorem ok_extract (h : Inv N w0 Mv Gb Gs hd fp s a w) {own : List Nat} {o : Oper} {x : Operand} {i : Nat} {fr : Ob} {z : Slot} {m : List (Nat × Ob)} (ho : o.op = .extract x i)
    (hop : opC T own o (views T s o) fr = some (true, z, m)) : OpOk P N w0 Mv Gb s a w o z m := by
  simp only [opC, ho, views, opnds, List.map] at hop
  have hx := rd_ok h none x
  split at hop
  · rename_i l hz
    simp only [view, viewZ] at hz
    rw [hz] at hx
    simp only [SlotR] at hx
    obtain ⟨vs, e, hx⟩ := hx
    split at hop
    · rename_i y hi
      cases hop
      obtain ⟨v, h1, h2⟩ := slotsR_get hx i hi
      refine OpOk.of_put h (v := v) ?_ h2
      simp only [execOp, ho, e, Instr.extract, Sem.run_bind]
      simp [h1]
    · cases hop
  · cases hop
theorem io_view (h : Inv N w0 Mv Gb Gs hd fp s a w) (o : Option Ty × Operand) {e : Ty} {x : List (Den e)} (hv : ioRow (view s o) = some ⟨e, x⟩) : ∃ va cap, a.eval o.2 = .slice va x.length cap := by
  unfold ioRow at hv
  split at hv
  · rename_i k tn e' x' hz hb
    cases hv
    simp only [view, viewZ] at hz hb
    rw [hz] at hb
    simp only [obOf, keyOf] at hb
    have h1 := rd_ok h o.1 o.2
    rw [hz] at h1
    simp only [SlotR] at h1
    have h0 := h.obs k
    rw [hb] at h0
    obtain ⟨va, cap, e1, _⟩ := (OwnRow.row h0).len
    exact ⟨va, cap, h1.2.trans e1⟩
  · rename_i k e' x' hz hb
    cases hv
    simp only [view, viewZ] at hz hb
    rw [hz] at hb
    simp only [obOf, keyOf] at hb
    have h1 := rd_ok h o.1 o.2
    rw [hz] at h1
    simp only [SlotR] at h1
    have h0 := h.obs k
    rw [hb] at h0
    obtain ⟨va, cap, e1, _⟩ := DpR.len h0
    exact ⟨va, cap, h1.2.trans e1⟩
  · rename_i k x' hz hb
    cases hv
    simp only [view, viewZ] at hz hb
    rw [hz] at hb
    simp only [obOf, keyOf] at hb
    have h1 := rd_ok h o.1 o.2
    rw [hz] at h1
    simp only [SlotR] at h1
    have h0 := h.obs k
    rw [hb] at h0
    rcases h0 with ⟨e1, rfl⟩ | ⟨b, o', cap, cs, e1, _⟩
    · exact ⟨none, 0, h1.2.trans e1⟩
    · exact ⟨_, cap, h1.2.trans e1⟩
  · cases hv
theorem ok_len (hT : TabOk P T) (h : Inv N w0 Mv Gb Gs hd fp s a w) {own : List Nat} {o : Oper} {xs : Array Operand} {ts : Array TypeId} {fr : Ob} {z : Slot} {m : List (Nat × Ob)} (ho : o.op = .call ⟨.builtin .len, xs, ts⟩)
    (hop : opC T own o (views T s o) fr = some (true, z, m)) : OpOk P N w0 Mv Gb s a w o z m := by
  simp only [opC, ho] at hop
  split at hop <;> first | (rename_i heq _; cases heq; done) | skip
  · rename_i v _ heq
    have hv : ∃ x, xs = #[x] ∧ v = view s ((ts[0]?).bind T.ty, x) := by
      simp only [views, opnds, ho] at heq
      obtain ⟨l⟩ := xs
      cases l with
      | nil => simp at heq
      | cons x r => cases r with
        | nil => simp [List.zipIdx] at heq; exact ⟨x, rfl, heq.symm⟩
        | cons y r => simp [List.zipIdx] at heq
    obtain ⟨x, rfl, rfl⟩ := hv
    split at hop
    · rename_i e ys hio
      obtain ⟨va, cap, e1⟩ := io_view h _ hio
      simp only at e1
      split at hop
      · rename_i t ht
        split at hop
        · rename_i hrow
          obtain ⟨eid, u, hu, _⟩ := rowT_facts hT hrow
          refine ok_pureE h hop (fun _ => ⟨_, ?_, VRep.int _ _⟩)
          simp [execOp, ho, resolve, e1, invoke, builtin, Builtin.len_, ht, run_underlying hu, goInt]
        · cases hop
      · cases hop
    · split at hop
      · rename_i t b e ys ht hp
        have hr := data_row h _ hp
        obtain ⟨va, cap, e1, _⟩ := hr.len
        simp only at e1
        split at hop
        · cases hop
        · rename_i hrow
          obtain ⟨e', he'⟩ := Option.ne_none_iff_exists'.1 hrow
          obtain ⟨eid, u, hu, _⟩ := rowT_facts hT he'
          refine ok_pureE h hop (fun _ => ⟨_, ?_, VRep.int _ _⟩)
          simp [execOp, ho, resolve, e1, invoke, builtin, Builtin.len_, ht, run_underlying hu, goInt]
      · rename_i t b ys ht hp
        obtain ⟨q, q1, e1⟩ := data_str h _ hp
        simp only at e1
        split at hop
        · rename_i hty
          have hu := desc_str hT hty
          refine ok_pureE h hop (fun _ => ⟨_, ?_, VRep.int _ _⟩)
          subst q1
          simp [execOp, ho, resolve, e1, invoke, builtin, Builtin.len_, ht, run_underlying hu, goInt]
        · cases hop
      · cases hop
  · cases hop
end Go.Proofs.YtkgpkalclblhbaaGreatDoor.Eng
