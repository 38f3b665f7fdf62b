/-
  The call as one operation.
-/
import Derived.Test.YtgibeillafnieaaS18
namespace Go.Proofs.Ytgibeillafnieaa.Eng
open Go Go.RowKit
set_option linter.unusedVariables false
set_option linter.unusedSimpArgs false

variable {P : Program} {T : Tab} {N : Nat} {w0 : World} {Mv : Mvp} {Gb Gs : BS} {hd : Nat → Value} {fp : Nat → BS} {s : St} {a : Act} {w w' : World}

theorem tup_slot {ob : List Ob} {zs : List Slot} {us : List Value} (h : SlotsR w Gs Gb hd ob zs us) : SlotR w Gs Gb hd ob (packS zs) (tupOf us) := by
  match zs, us, h with
  | [], us, h => simp only [SlotsR] at h; subst h; simp only [packS, SlotR, tupOf]; exact ⟨[], rfl, by simp only [SlotsR]⟩
  | [z], us, h =>
    simp only [SlotsR] at h
    obtain ⟨v, r, rfl, h1, rfl⟩ := h
    exact h1
  | z :: z' :: zs, us, h =>
    have h0 := h
    simp only [SlotsR] at h
    obtain ⟨v, r, rfl, h1, v', r', rfl, h2, h3⟩ := h
    simp only [packS, SlotR, tupOf]
    exact ⟨v :: v' :: r', rfl, h0⟩
theorem call_run {o : Oper} {g : Nat} {xs : Array Operand} {ts : Array TypeId} {f : FnT} (ho : o.op = .call ⟨.value (.func g), xs, ts⟩) (hF : FnOk P g f) : (execOp a.eval o).run P w = .ok (.enter g (xs.map a.eval)) w := by
  obtain ⟨fn, h1, h2, _, _, h5⟩ := hF.fn
  have hev : a.eval (.func g) = .func (.func g) #[] #[] := rfl
  simp [execOp, ho, resolve, hev, Deferred.ofValue, invoke, callFunc, h1, h2, h5]
theorem opnds_call {o : Oper} {c : Callee} {xs : Array Operand} {ts : Array TypeId} (ho : o.op = .call ⟨c, xs, ts⟩) : (opnds T o).map (fun x => a.eval x.2) = xs.toList.map a.eval := by
  simp only [opnds, ho, List.map_map]
  have : ((fun x : Option Ty × Operand => a.eval x.2) ∘ fun (x : Operand × Nat) => ((ts[x.2]?).bind T.ty, x.1)) = (fun x : Operand × Nat => a.eval x.1) := rfl
  rw [this]
  show List.map (a.eval ∘ Prod.fst) _ = _
  rw [← List.map_map]
  congr 1
  simp
theorem call_ok (h : Inv N w0 Mv Gb Gs hd fp s a w) {own : List Nat} {o : Oper} {g d : Nat} {xs : Array Operand} {ts : Array TypeId} {f : FnT} {ps : List PV} {tn c : Bool} {call : List PV → Option (T.R g)} {r : T.R g} {z : Slot} {m : List (Nat × Ob)}
    (ho : o.op = .call ⟨.value (.func g), xs, ts⟩) (hf : T.fn g = some f) (hd' : o.dst = some d) (ha : argsOf f.pars (views T s o) = some (ps, tn)) (hn : noDup (heldKeys f.pars (views T s o)) = true) (hdj : disj (lentKeys f.pars (views T s o)) (heldKeys f.pars (views T s o)) = true)
    (hS : Sound P T g call) (hcall : call ps = some r) (hF : FnOk P g f) (hout : callC own f d tn (!(lentKeys f.pars (views T s o)).isEmpty) (views T s o) (spread (T.outTys g) r) = some (c, z, m)) (hfr : freshAll s d f.outs.length = true)
    {K : Act → World → Prop} {Q : Exit → Act → World → Prop} (hK : ∀ v w' Gs' hd' fp', Inv N w0 Mv Gb Gs' hd' fp' (s.out o.dst z m) (a.put o.dst v) w' → K (a.put o.dst v) w') : o.wp P a w K Q := by
  unfold Oper.wp
  rw [call_run ho hF]
  simp only [Oper.upon]
  have hga := good_args h (f := f) (xs := opnds T o) ha hn hdj
  have hcalls := hS f ps r hf hcall w _ _ _ hga
  rw [opnds_call ho] at hcalls
  have hxs : (xs.toList.map a.eval).toArray = xs.map a.eval := by apply Array.ext'; simp
  rw [hxs] at hcalls
  refine hcalls.mono ?_
  rintro e w1 ⟨us, Gs', Fr, rfl, hev, hgs, houts, hptrs, hFr, hFrD⟩
  simp only
  unfold callC at hout
  split at hout
  · rename_i zs obs bs hrs hbs
    simp only [Option.some.injEq, Prod.mk.injEq] at hout
    obtain ⟨rfl, rfl, rfl⟩ := hout
    have hptrs' : PtrsR w1 (Gof Gs' (argG Gs Gb fp tn (!(lentKeys f.pars (views T s o)).isEmpty) (argF fp f.pars (views T s o))) true) (argF fp f.pars (views T s o)) 0 f.pars ((opnds T o).map fun x => a.eval x.2) ((spread (T.outTys g) r).drop f.outs.length) := by
      rw [opnds_call ho]; exact hptrs
    obtain ⟨hk, hb⟩ := boxMods_spec h f.pars (opnds T o) 0 ha hbs hptrs'
    have h2 := h.behind (w' := w1) (prs := f.pars) (vs := views T s o) hn hk hb hev hgs
    have hle := h.le
    have hes := h.ev.size
    have hfree : ∀ j b, Fr j b → Free N Mv Gb (fun b => Gs b ∨ Gs' b) (fun k b => fp k b ∧ ∀ kb ∈ bs, kb.1 = k → kb.2 ≠ .gone) w1 b := by
      intro j b hb1
      obtain ⟨q1, q2, q3, q4⟩ := hFr j b hb1
      refine ⟨q1, ?_, ?_, ?_, ?_⟩
      · rcases q2 with q2 | ⟨i, k, _, hf'⟩
        · left; omega
        · exact (h.own k b hf').2.1
      · rintro (hh | hh)
        · rcases q2 with q2 | ⟨i, k, _, hf'⟩
          · have := (h.gs b hh).1; omega
          · exact (h.own k b hf').2.2.1 hh
        · exact q3 hh
      · intro hh
        rcases q2 with q2 | ⟨i, k, _, hf'⟩
        · have := (h.gb b hh).1; omega
        · exact (h.own k b hf').2.2.2 hh
      · rintro k ⟨hk1, hk2⟩
        rcases q2 with q2 | ⟨i, k', hk', hf'⟩
        · have := (h.own k b hk1).1; omega
        · have := h.disj k k' b hk1 hf'
          subst this
          have hkm : k ∈ bs.map (·.1) := by rw [hk]; exact (heldAt_ge hk').2.2
          obtain ⟨kb, hkb, rfl⟩ := List.mem_map.1 hkm
          obtain ⟨j', hj', h4⟩ := hb kb hkb
          rcases h4 with ⟨h4, _⟩ | ⟨t, y, _, _, h4, _⟩ | ⟨e, y, _, _, _, h4, _⟩
          · exact hk2 kb hkb rfl h4
          · exact q4 j' h4 ⟨kb.1, hj', hk1⟩
          · exact q4 j' h4 ⟨kb.1, hj', hk1⟩
    have hnone : ∀ j, j < 0 + f.outs.length → (modOb s.ob bs).getD (4 * d + j) .gone = .none := by
      intro j hj
      have h3 : s.ob.getD (4 * d + j) .gone = .none := by
        unfold freshAll at hfr
        rw [Bool.and_eq_true, List.all_eq_true] at hfr
        have := hfr.2 j (by simp; omega)
        split at this
        · assumption
        · cases this
      rw [modOb_not .gone]
      · exact h3
      · intro hkm
        obtain ⟨kb, hkb, e⟩ := List.mem_map.1 hkm
        obtain ⟨j', hj', h4⟩ := hb kb hkb
        have hlt : 4 * d + j < s.ob.length := by
          rcases Nat.lt_or_ge (4 * d + j) s.ob.length with h | h
          · exact h
          · rw [List.getD_eq_getElem?_getD, List.getElem?_eq_none h] at h3; cases h3
        have h5 : s.ob.getD (4 * d + j) .none = .none := by
          rw [List.getD_eq_getElem?_getD, List.getElem?_eq_getElem hlt] at h3 ⊢; exact h3
        simp only [BehR, e, h5] at h4
        rcases h4 with ⟨_, h4, _⟩ | ⟨t, y, _, h4, _⟩ | ⟨e, y, _, h4, _⟩
        · cases h4
        · cases h4
        · cases h4
    obtain ⟨Gs2, hd2, fp2, r1, _, _, _, r5, _, _⟩ := resSlots_ok (Gs' := Gs') (G := argG Gs Gb fp tn (!(lentKeys f.pars (views T s o)).isEmpty) (argF fp f.pars (views T s o))) (Fr := Fr) (fun m hm b hb => by
      rcases hb with hb | ⟨hm1, hb⟩
      · exact .inl (.inr hb)
      · rw [hm1] at hm
        simp only [Bool.true_and] at hm
        rcases hb with hb | ⟨hb, hb2⟩ | ⟨hb, _⟩
        · exact .inl (.inl hb)
        · refine .inr ⟨?_, hb2⟩
          rcases hb with hb | hb
          · simp [hm1, hb]
          · rw [hm] at hb; cases hb
        · rw [hm] at hb; cases hb) f.outs 0 h2 hrs houts hfree hFrD hnone
    refine hK _ w1 Gs2 hd2 fp2 ?_
    have hfin := r1.put (some d) (z := packS zs) (v := tupOf us) (tup_slot r5)
    rw [hd']
    show Inv N w0 Mv Gb Gs2 hd2 fp2 ⟨s.sl.set d _, modOb s.ob (obs ++ bs)⟩ _ w1
    rw [modOb_append]
    exact hfin
  · cases hout
end Go.Proofs.Ytgibeillafnieaa.Eng
