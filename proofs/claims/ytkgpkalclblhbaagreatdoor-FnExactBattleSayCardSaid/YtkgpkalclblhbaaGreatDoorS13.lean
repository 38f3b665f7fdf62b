/-
  One operation: rows and records put together, variables, stores; and all operations.
-/
import Derived.Test.YtkgpkalclblhbaaGreatDoorS12
namespace Go.Proofs.YtkgpkalclblhbaaGreatDoor.Eng
open Go Go.RowKit
set_option linter.unusedVariables false
set_option linter.unusedSimpArgs false

variable {P : Program} {T : Tab} {N : Nat} {w0 : World} {Mv : Mvp} {Gb Gs : BS} {hd : Nat → Value} {fp : Nat → BS} {s : St} {a : Act} {w w' : World}

theorem VRep.cells {G : BS} {t : Ty} {x : Den t} {v : Value} (h : VRep w G t x v) : RepC w G t x v.cells.toList := by
  obtain ⟨cs, h1, h2⟩ := h
  split at h2
  · subst h2; simpa [Value.cells] using h1
  · rename_i ha
    have hl := h1.len
    have ho := h1.one
    have hsz : sz t = 1 := by
      cases t with
      | ap i => match i with
        | 0 => simp [isAggT] at ha
        | 1 => rfl
        | 2 => simp [isAggT] at ha
        | 3 => simp [isAggT] at ha
        | 4 => simp [isAggT] at ha
        | 5 => simp [isAggT] at ha
        | _ + 6 => simp [isAggT] at ha
      | _ => first | rfl | (simp [isAggT] at ha)
    rw [hsz] at hl
    obtain ⟨y, rfl⟩ := List.length_eq_one_iff.1 hl
    have hy := ho y (by simp)
    simp at h2
    subst h2
    have : v.cells.toList = [v] := by cases v <;> simp_all [Value.cells, Value.oneCell']
    rw [this]
    exact h1
theorem Gof_or {b tn : Bool} : (∀ c, Gof Gs Gb tn c → Gof Gs Gb (tn || b) c) ∧ (∀ c, Gof Gs Gb b c → Gof Gs Gb (tn || b) c) :=
  ⟨Gof_mono (fun _ h => h) (fun h => by simp [h]), Gof_mono (fun _ h => h) (fun h => by simp [h])⟩
theorem rowD_ok {e : Ty} : ∀ (l : List (Option Ty × Operand)) (tn0 : Bool) {tn : Bool} {xs : List (Den e)} (hl : ∀ o ∈ l, ∀ tn p, dataV (view s o) = some (tn, p) → VRep w (Gof Gs Gb tn) p.t p.x (a.eval o.2)), rowD e tn0 (l.map (view s)) = some (tn, xs) →
    xs.length = l.length ∧ (tn0 = true → tn = true) ∧ RepL w (Gof Gs Gb tn) e xs (l.map fun o => (a.eval o.2).cells.toList).flatten ∧ ∀ o ∈ l, (a.eval o.2).cells.size = sz e
  | [], tn0, tn, xs, hl, h => by
    simp only [List.map_nil, rowD, Option.some.injEq, Prod.mk.injEq] at h
    obtain ⟨rfl, rfl⟩ := h
    exact ⟨rfl, id, .nil e, fun o ho => by simp at ho⟩
  | o :: l, tn0, tn, xs, hl, h => by
    simp only [List.map_cons, rowD] at h
    split at h
    · rename_i b p hp
      split at h
      · rename_i y c ys hy hys
        simp only [Option.some.injEq, Prod.mk.injEq] at h
        obtain ⟨rfl, rfl⟩ := h
        obtain ⟨h1, h2, h3, h4⟩ := rowD_ok l (tn0 || b) (fun o ho => hl o (by simp [ho])) hys
        have hv := (hl o (by simp) b p hp).cells.to hy
        have hv' := hv.move (w' := w) (G' := Gof Gs Gb c) (Gof_mono (fun _ h => h) (fun hb => h2 (by simp [hb]))) (fun _ _ => rfl)
        refine ⟨by simp [h1], fun h0 => h2 (by simp [h0]), by simp only [List.map_cons, List.flatten_cons]; exact .cons e _ _ _ _ hv' h3, fun o' ho' => ?_⟩
        rcases List.mem_cons.1 ho' with rfl | ho'
        · have := hv.len; simpa using this
        · exact h4 o' ho'
      · cases h
    · cases h
theorem fill_row (a : Act) (size : Nat) : ∀ (l : List (Nat × Operand)) (k : Nat) (c : Array Value), inOrder k l = true → (∀ p ∈ l, (a.eval p.2).cells.size = size) → c.size = (k + l.length) * size →
    ∃ c', Instr.fill (fun i => some (i * size, size)) c (l.map fun p => (p.1, a.eval p.2)) = some c' ∧ c'.toList = c.toList.take (k * size) ++ (l.map fun p => (a.eval p.2).cells.toList).flatten
  | [], k, c, _, _, hc => ⟨c, rfl, by simp at hc; simp only [← hc, List.map_nil, List.flatten_nil, List.append_nil]; rw [List.take_of_length_le (by simp)]⟩
  | (i, x) :: l, k, c, ho, hs, hc => by
    simp only [inOrder, Bool.and_eq_true, beq_iff_eq] at ho
    obtain ⟨rfl, ho⟩ := ho
    have hsx := hs (i, x) (by simp)
    simp only at hsx
    have hle : i * size + size ≤ c.size := by
      rw [hc, List.length_cons, show i + (l.length + 1) = i + 1 + l.length by omega, Nat.add_mul, Nat.add_mul, Nat.one_mul]
      omega
    obtain ⟨c1, h1, h2⟩ := fill_cons (fun i => some (i * size, size)) c i (a.eval x) (l.map fun p => (p.1, a.eval p.2)) rfl hsx hle
    have hc1 : c1.size = (i + 1 + l.length) * size := by
      have := congrArg List.length h1
      simp only [List.length_append, List.length_take, List.length_drop, Array.length_toList] at this
      rw [this, hsx]
      have : c.size = (i + 1 + l.length) * size := by rw [hc, List.length_cons]; congr 1; omega
      omega
    obtain ⟨c2, h3, h4⟩ := fill_row a size l (i + 1) c1 ho (fun p hp => hs p (by simp [hp])) hc1
    refine ⟨c2, by simp only [List.map_cons]; rw [h2]; exact h3, ?_⟩
    rw [h4, h1]
    simp only [List.map_cons, List.flatten_cons]
    have hlen : (c.toList.take (i * size)).length = i * size := by simp; omega
    have hcl : (a.eval x).cells.toList.length = size := by simpa using hsx
    have e : (c.toList.take (i * size) ++ ((a.eval x).cells.toList ++ c.toList.drop (i * size + size))).take ((i + 1) * size) = c.toList.take (i * size) ++ (a.eval x).cells.toList := by
      have := take_past (c.toList.take (i * size)) ((a.eval x).cells.toList ++ c.toList.drop (i * size + size)) size
      rw [hlen] at this
      rw [show (i + 1) * size = i * size + size by rw [Nat.add_mul, Nat.one_mul], this, List.take_append, hcl]
      simp
      exact List.take_of_length_le (by omega)
    rw [e, List.append_assoc]
theorem ok_dpBuild (hT : TabOk P T) (h : Inv N w0 Mv Gb Gs hd fp s a w) {o : Oper} {tid n : Nat} {parts : Array (Nat × Operand)} {e : Ty} {z : Slot} {m : List (Nat × Ob)} (ho : o.op = .buildSlice tid n parts) (hrow : rowT T tid = some e) (hn : parts.size = n) (hord : inOrder 0 parts.toList = true)
    (hsm : n < 100000) (hop : dpBuild o (freshOb s o.dst) e ((parts.toList.map fun p => (some e, p.2)).map (view s)) = some (true, z, m)) : OpOk P N w0 Mv Gb s a w o z m := by
  obtain ⟨eid, i, hu, hi, hs, hby, zz, hz, hzc⟩ := elem_facts hT hrow
  have hzs : zz.cells.size = i.size := by
    have := congrArg List.length hzc
    have hzl := (zeroRep w Gs e).len
    simp only [Array.length_toList] at this
    omega
  have hlen : parts.toList.length = n := by simpa using hn
  have hss : sz e ≤ 100 := by
    obtain ⟨eid', u, hu', ht, hsame⟩ := rowT_facts hT hrow
    rw [← hsame.sz]; exact (hT.1 _ _ ht).small
  have go : (∀ p ∈ parts.toList, (a.eval p.2).cells.size = sz e) → ∃ c' : Array Value, c'.toList = (parts.toList.map fun p => (a.eval p.2).cells.toList).flatten ∧ (execOp a.eval o).run P w = .ok (.value (.slice (some ⟨w.heap.size, 0, none⟩) n n)) (w.alloc (.cells c' eid)) := by
    intro r4
    obtain ⟨c', f1, f2⟩ := fill_row a i.size parts.toList 0 (if n * i.size = 0 then #[] else (Array.range (n * i.size)).map (zz.cells[· % zz.cells.size]!)) hord (fun p hp => by rw [hs]; exact r4 p hp) (by rw [hlen]; split <;> simp_all)
    have hsmall : ¬ n * i.size > 2 ^ 24 := by
      have : n * i.size ≤ 100000 * 100 := Nat.mul_le_mul (by omega) (by omega)
      omega
    have hpl : (parts.map fun (p : Nat × Operand) => (p.1, a.eval p.2)).toList = parts.toList.map fun p => (p.1, a.eval p.2) := by simp
    refine ⟨c', by rw [f2]; simp only [Nat.zero_mul, List.take_zero, List.nil_append], ?_⟩
    simp only [execOp, ho, Sem.run_bind]
    by_cases h0 : n * i.size = 0
    · simp only [h0, if_true] at f1
      have f1' : Instr.fill (fun j => some (j * i.size, i.size)) #[] (parts.map fun (p : Nat × Operand) => (p.1, a.eval p.2)).toList = some c' := by rw [hpl]; exact f1
      simp [Instr.buildSlice, run_underlying hu, sizeOf, typeInfo, zeroValue, hi, hz, h0, Array.range_zero', newRow]
      simp only [Array.toList_map] at f1'
      rw [f1']
      rfl
    · simp only [h0, if_false] at f1
      rw [run_buildSlice w tid eid n _ c' i zz hu hi hz hsmall h0 (by rw [hpl]; exact f1)]
      rfl
  match hp : parts.toList, hop with
  | [], hop =>
    rw [hp] at go hlen
    simp only [List.map_nil, dpBuild] at hop
    obtain ⟨c', g1, g2⟩ := go (fun p hp => by simp at hp)
    refine OpOk.mk g2 (newDeep_ok hop rfl (s := s) (m := []) (h.alloc _).1 (fun _ h => h) (F := fun c => c = w.heap.size) (by rintro c rfl; exact (h.alloc _).2) ?_).2
    simp only [List.length_nil] at hlen
    subst hlen
    exact .inr ⟨fun _ => False, w.heap.size, 0, 0, [], by simp, by simp, rfl, fun _ h => h.elim, .nil _ e, fun j v hv => by simp at hv, fun j hj => by omega⟩
  | [q], hop =>
    rw [hp] at go hlen
    simp only [List.map_cons, List.map_nil, dpBuild] at hop
    split at hop
    · rename_i x0 hz0
      split at hop
      · have hq := rd_ok h (some (.sl (.int .i64))) q.2
        simp only [view, viewZ] at hz0
        rw [hz0] at hq
        simp only [SlotR] at hq
        obtain ⟨hq0, hq3⟩ := hq
        obtain ⟨hq1, hone⟩ := VRep.cell hq0 rfl rfl
        have hc : (a.eval q.2).cells.toList = [a.eval q.2] := by revert hone; cases a.eval q.2 <;> simp [Value.cells, Value.oneCell']
        obtain ⟨c', g1, g2⟩ := go (fun p hp => by
          simp only [List.mem_singleton] at hp
          subst hp
          have := congrArg List.length hc
          simp only [Array.length_toList, List.length_cons, List.length_nil] at this
          exact this)
        simp only [List.map_cons, List.map_nil, List.flatten_cons, List.flatten_nil, List.append_nil, hc] at g1
        simp only [List.length_cons, List.length_nil] at hlen
        subst hlen
        refine OpOk.mk g2 (newSd_ok hop rfl (s := s) (m := []) (h.alloc _).1 (fun _ h => h) (F := fun c => c = w.heap.size) (by rintro c rfl; exact (h.alloc _).2) ?_)
        refine .inr ⟨w.heap.size, 0, 1, c'.toList, by simp, by simp, rfl, ?_, ?_, ?_, rangeAt_new w _ _ _ ⟨[], by simp⟩, there_new w _ _ _ ?_⟩
        · rw [g1]
          have := RepL.cons (w := w.alloc (.cells c' eid)) (G := Gof Gs Gb false) (.sl (.int .i64)) x0 [] [a.eval q.2] [] (hq1.move (fun _ h => h) (fun c hc => Below.heap_alloc w _ _ (h.gs c (hc.elim id (fun q => by cases q.1))).1)) (.nil _)
          exact this
        · rw [g1]; intro u hu; simp only [List.mem_singleton] at hu; subst hu; exact hq3
        · rw [g1]; simp
        · have := congrArg List.length g1
          simp only [Array.length_toList] at this
          rw [this]; simp [sz]
      · cases hop
    split at hop
    · rename_i p ks he
      split at hop
      · rename_i y hy
        obtain rfl := PV.is_eq hy
        obtain ⟨k1, k2, k3, k4, k5⟩ := elemOwn_ok h (rd_ok h (some e) q.2) he
        simp only at k3 k4 k5
        obtain ⟨c', g1, g2⟩ := go (fun p hp => by
          simp only [List.mem_singleton] at hp
          subst hp
          exact k4)
        simp only [List.map_cons, List.map_nil, List.flatten_cons, List.flatten_nil, List.append_nil] at g1
        have hk := h.kills ks k1 k2
        have hlt : ∀ b, (∃ k ∈ ks, fp k b) → b < w.heap.size := fun b ⟨k, _, hb⟩ => (h.own k b hb).1
        refine OpOk.mk g2 (newDeep_ok hop rfl (s := s) (hk.alloc _).1 (kills_none (fun j hj => (k1 j hj).1)) (F := fun c => c = w.heap.size ∨ ∃ k ∈ ks, fp k c) ?_ ?_).2
        · rintro c (rfl | ⟨k, hk1, hk2⟩)
          · exact (hk.alloc _).2
          · exact Free.alloc (kills_free h hk1 hk2) _
        · simp only [List.length_cons, List.length_nil] at hlen
          subst hlen
          refine .inr ⟨fun c => ∃ k ∈ ks, fp k c, w.heap.size, 0, 1, c'.toList, by simp, by simp, .inl rfl, fun c hc => ⟨.inr hc, by have := hlt c hc; omega⟩, ?_, rangeAt_new w _ _ _ ⟨[], by simp⟩, there_new w _ _ _ ?_⟩
          · rw [g1]
            have := SepL.cons (w := w.alloc (.cells c' eid)) (fun c => ∃ k ∈ ks, fp k c) (fun c => ∃ k ∈ ks, fp k c) (fun _ => False) e y [] (a.eval q.2).cells.toList [] (fun _ h => h) (fun _ h => h.elim) (fun _ _ h => h)
              (k3.move (fun _ h => h) (fun c hc => Below.heap_alloc w _ _ (hlt c hc))) (.nil _ e)
            rw [List.append_nil] at this
            exact this
          · have := congrArg List.length g1
            simp only [Array.length_toList] at this
            rw [this, k4]
            omega
      · cases hop
    · cases hop
  | q :: r :: l, hop => simp [dpBuild] at hop
theorem ok_buildSlice (hT : TabOk P T) (h : Inv N w0 Mv Gb Gs hd fp s a w) {own : List Nat} {o : Oper} {tid n : Nat} {parts : Array (Nat × Operand)} {z : Slot} {m : List (Nat × Ob)} (ho : o.op = .buildSlice tid n parts)
    (hop : opC T own o (views T s o) (freshOb s o.dst) = some (true, z, m)) : OpOk P N w0 Mv Gb s a w o z m := by
  simp only [opC, ho] at hop
  split at hop
  · rename_i e hrow
    have hops : opnds T o = parts.toList.map fun p => (some e, p.2) := by
      simp only [opnds, ho]
      unfold rowT at hrow
      split at hrow
      · rename_i e' he; cases hrow; rfl
      · cases hrow
    split at hop
    · rename_i hc
      obtain ⟨hn, hord, hsm⟩ := hc
      split at hop
      · simp only [views, hops] at hop
        exact ok_dpBuild hT h ho hrow hn hord hsm hop
      split at hop
      · rename_i tn xs hd'
        simp only [views, hops] at hd' hop
        obtain ⟨Gs', fp', h1, h2, h3, h4, h5⟩ := pub_data h (parts.toList.map fun p => (some e, p.2))
        obtain ⟨r1, r2, r3, r4⟩ := rowD_ok (Gs := Gs') (Gb := Gb) (a := a) (w := w) _ false h3 hd'
        obtain ⟨eid, i, hu, hi, hs, hby, zz, hz, hzc⟩ := elem_facts hT hrow
        have hzs : zz.cells.size = i.size := by
          have := congrArg List.length hzc
          have hzl := (zeroRep w Gs e).len
          simp only [Array.length_toList] at this
          omega
        have hlen : parts.toList.length = n := by simpa using hn
        have hss : sz e ≤ 100 := by
          obtain ⟨eid', u, hu', ht, hsame⟩ := rowT_facts hT hrow
          rw [← hsame.sz]; exact (hT.1 _ _ ht).small
        obtain ⟨c', f1, f2⟩ := fill_row a i.size parts.toList 0 (if n * i.size = 0 then #[] else (Array.range (n * i.size)).map (zz.cells[· % zz.cells.size]!)) hord (fun p hp => by
          have := r4 (some e, p.2) (by simp only [List.mem_map]; exact ⟨p, hp, rfl⟩)
          rw [hs]; exact this) (by rw [hlen]; split <;> simp_all)
        simp only [List.length_map] at r1
        have hflat : ((parts.toList.map fun p => ((some e : Option Ty), p.2)).map fun o => (a.eval o.2).cells.toList).flatten = c'.toList := by
          rw [f2]; simp only [Nat.zero_mul, List.take_zero, List.nil_append, List.map_map]; rfl
        have hsmall : ¬ n * i.size > 2 ^ 24 := by
          have : n * i.size ≤ 100000 * 100 := Nat.mul_le_mul (by omega) (by omega)
          omega
        have hpl : (parts.map fun (p : Nat × Operand) => (p.1, a.eval p.2)).toList = parts.toList.map fun p => (p.1, a.eval p.2) := by simp
        have hrun : (execOp a.eval o).run P w = .ok (.value (.slice (some ⟨w.heap.size, 0, none⟩) n n)) (w.alloc (.cells c' eid)) := by
          simp only [execOp, ho, Sem.run_bind]
          by_cases h0 : n * i.size = 0
          · simp only [h0, if_true] at f1
            have f1' : Instr.fill (fun j => some (j * i.size, i.size)) #[] (parts.map fun (p : Nat × Operand) => (p.1, a.eval p.2)).toList = some c' := by rw [hpl]; exact f1
            simp [Instr.buildSlice, run_underlying hu, sizeOf, typeInfo, zeroValue, hi, hz, h0, Array.range_zero', newRow]
            simp only [Array.toList_map] at f1'
            rw [f1']
            rfl
          · simp only [h0, if_false] at f1
            rw [run_buildSlice w tid eid n _ c' i zz hu hi hz hsmall h0 (by rw [hpl]; exact f1)]
            rfl
        refine OpOk.mk hrun ?_
        have hcl : c'.size = n * sz e := by
          have := r3.len
          rw [hflat] at this
          simp only [Array.length_toList] at this
          rw [this, r1, hlen]
        have hmv : ∀ b, Gof Gs' Gb tn b → (w.alloc (.cells c' eid)).heap[b]? = w.heap[b]? := fun b hb => Below.heap_alloc w _ _ (by
          rcases hb with hb | hb
          · exact (h1.gs b hb).1
          · have := (h1.gb b hb.2).1; have := h1.le; have := h1.ev.size; omega)
        refine (newRow_ok hop rfl (s := s) (m := _) (h1.alloc _).1 (fun k hk => (h4 k).2 hk) (F := fun c => c = w.heap.size) (by rintro c rfl; exact (h1.alloc _).2) ?_ (fun h => by cases h)).2
        right
        refine ⟨w.heap.size, 0, n, c'.toList, by rw [r1, hlen], by rw [r1, hlen]; exact Nat.le_refl _, rfl, ?_, rangeAt_new w _ _ _ ⟨[], by simp⟩, there_new w _ _ _ (by rw [hcl]; exact Nat.le_refl _)⟩
        rw [← hflat]
        exact r3.move (fun _ h => h) hmv
      · cases hop
    · cases hop
  · cases hop
end Go.Proofs.YtkgpkalclblhbaaGreatDoor.Eng
