/-
  The call as one operation.
-/
import Derived.Test.YtkgpkalclblhbaaGreatDoorS18
namespace Go.Proofs.YtkgpkalclblhbaaGreatDoor.Eng
open Go Go.RowKit
set_option linter.unusedVariables false
set_option linter.unusedSimpArgs false

variable {P : Program} {T : Tab} {N : Nat} {w0 : World} {Mv : Mvp} {Gb Gs : BS} {hd : Nat → Value} {fp : Nat → BS} {s : St} {a : Act} {w w' : World}

theorem tup_slot {ob : List Ob} {zs : List Slot} {us : List Value} (h : SlotsR w Gs Gb hd ob zs us) : SlotR w Gs Gb hd ob (packS zs) (tupOf us) := by
  match zs, us, h with
  | [], us, h => simp only [SlotsR] at h; subst h; simp only [packS, SlotR, tupOf]; exact ⟨[], rfl, by simp only [SlotsR]⟩
  | [z], us, h =>
    simp only [SlotsR] at h
    obtain ⟨v, r, rfl, h1, rfl⟩ := h
    exact h1
  | z :: z' :: zs, us, h =>
    have h0 := h
    simp only [SlotsR] at h
    obtain ⟨v, r, rfl, h1, v', r', rfl, h2, h3⟩ := h
    simp only [packS, SlotR, tupOf]
    exact ⟨v :: v' :: r', rfl, h0⟩
theorem slotsR_take {ob : List Ob} : ∀ (n : Nat) {l : List Slot} {vs : List Value}, SlotsR w Gs Gb hd ob l vs → SlotsR w Gs Gb hd ob (l.take n) (vs.take n) ∧ SlotsR w Gs Gb hd ob (l.drop n) (vs.drop n)
  | 0, l, vs, h => ⟨by simp [SlotsR], h⟩
  | n + 1, [], vs, h => by simp only [SlotsR] at h; subst h; exact ⟨by simp [SlotsR], by simp [SlotsR]⟩
  | n + 1, z :: l, vs, h => by
    simp only [SlotsR] at h
    obtain ⟨v, r, rfl, h1, h2⟩ := h
    obtain ⟨g1, g2⟩ := slotsR_take n h2
    refine ⟨?_, by simpa using g2⟩
    simp only [List.take_succ_cons, SlotsR]
    exact ⟨v, _, rfl, h1, g1⟩
theorem outsR_drop {Gs' G : BS} {Fr : Nat → BS} : ∀ (n : Nat) {i : Nat} {outs : List (Ty × RM)} {ps : List PV} {us : List Value}, OutsR w Gs' G Fr i outs ps us → n ≤ outs.length → OutsR w Gs' G Fr (i + n) (outs.drop n) (ps.drop n) (us.drop n)
  | 0, i, outs, ps, us, h, _ => h
  | n + 1, i, [], ps, us, h, hl => by simp at hl
  | n + 1, i, (t, m) :: outs, [], us, h, hl => by simp [OutsR] at h
  | n + 1, i, (t, m) :: outs, p :: ps, [], h, hl => by simp [OutsR] at h
  | n + 1, i, (t, m) :: outs, p :: ps, u :: us, h, hl => by
    simp only [OutsR] at h
    have := outsR_drop n h.2.2 (by simpa using hl)
    rw [show i + (n + 1) = i + 1 + n by omega]
    simpa using this
theorem outsR_len {Gs' G : BS} {Fr : Nat → BS} : ∀ {i : Nat} {outs : List (Ty × RM)} {ps : List PV} {us : List Value}, OutsR w Gs' G Fr i outs ps us → us.length = outs.length
  | i, [], ps, [], _ => rfl
  | i, [], ps, _ :: _, h => by simp [OutsR] at h
  | i, (t, m) :: outs, [], us, h => by simp [OutsR] at h
  | i, (t, m) :: outs, p :: ps, [], h => by simp [OutsR] at h
  | i, (t, m) :: outs, p :: ps, u :: us, h => by
    simp only [OutsR] at h
    simp [outsR_len h.2.2]
theorem outs_one {Gs' G : BS} {Fr : Nat → BS} : ∀ (n : Nat) {i : Nat} {outs : List (Ty × RM)} {ps : List PV} {us : List Value}, OutsR w Gs' G Fr i outs ps us → ((outs.take n).all fun m => sz m.1 == 1 && !isAggT m.1 && !m.2.bx) = true → ∀ u ∈ us.take n, u.oneCell' = true
  | 0, i, outs, ps, us, h, _, u, hu => by simp at hu
  | n + 1, i, [], ps, [], h, _, u, hu => by simp at hu
  | n + 1, i, [], ps, _ :: _, h, _, u, hu => by simp [OutsR] at h
  | n + 1, i, (t, m) :: outs, [], us, h, _, u, hu => by simp [OutsR] at h
  | n + 1, i, (t, m) :: outs, p :: ps, [], h, _, u, hu => by simp at hu
  | n + 1, i, (t, m) :: outs, p :: ps, v :: us, h, hc, u, hu => by
    simp only [OutsR] at h
    simp only [List.take_succ_cons, List.all_cons, Bool.and_eq_true, beq_iff_eq, Bool.not_eq_true'] at hc
    simp only [List.take_succ_cons, List.mem_cons] at hu
    rcases hu with rfl | hu
    · have ho := h.2.1
      unfold OutR at ho
      rw [if_neg (by simp [hc.1.2])] at ho
      split at ho
      · split at ho
        · obtain ⟨e, x, _, hr⟩ := ho
          rcases hr with ⟨rfl, _⟩ | ⟨_, b, o, cap, cs, rfl, _⟩ <;> rfl
        · obtain ⟨e, x, _, hr, _⟩ := ho
          rcases hr with ⟨rfl, _⟩ | ⟨b, o, cap, cs, rfl, _⟩ <;> rfl
      · exact (ho.cell (by rw [h.1]; exact hc.1.1.1) (by rw [h.1]; exact hc.1.1.2)).2
    · exact outs_one n h.2.2 (by simpa using hc.2) u hu
theorem grp_ok {ob : List Ob} {Gs' G : BS} {Fr : Nat → BS} : ∀ (g : List (Option Ty)) {i : Nat} {outs : List (Ty × RM)} {ps : List PV} {us : List Value} {zs : List Slot}, grpOk g outs = true → OutsR w Gs' G Fr i outs ps us → SlotsR w Gs Gb hd ob zs us →
    SlotsR w Gs Gb hd ob (grpS g zs) (grpV g us)
  | [], i, outs, ps, us, zs, _, _, hz => by simpa only [grpS, grpV] using hz
  | none :: g, i, [], ps, us, zs, hg, _, _ => by simp [grpOk] at hg
  | none :: g, i, (t, m) :: outs, [], us, zs, hg, ho, _ => by simp [OutsR] at ho
  | none :: g, i, (t, m) :: outs, p :: ps, [], zs, hg, ho, _ => by simp [OutsR] at ho
  | none :: g, i, (t, m) :: outs, p :: ps, u :: us, [], hg, ho, hz => by simp [SlotsR] at hz
  | none :: g, i, (t, m) :: outs, p :: ps, u :: us, z :: zs, hg, ho, hz => by
    simp only [OutsR] at ho
    simp only [SlotsR] at hz
    obtain ⟨v, r, he, h1, h2⟩ := hz
    cases he
    simp only [grpS, grpV, SlotsR]
    exact ⟨u, _, rfl, h1, grp_ok g (by simpa only [grpOk] using hg) ho.2.2 h2⟩
  | some t :: g, i, outs, ps, us, zs, hg, ho, hz => by
    simp only [grpOk, Bool.and_eq_true, decide_eq_true_eq] at hg
    obtain ⟨⟨_, _⟩, h0, ⟨h1, h2⟩, h3⟩ := hg
    have hul := outsR_len ho
    have hzl := slotsR_len hz
    cases us with
    | nil => simp at hul; omega
    | cons u us => cases zs with
      | nil => simp at hzl
      | cons z zs =>
        have hone := outs_one (sz t) ho h2
        obtain ⟨g1, g2⟩ := slotsR_take (sz t) hz
        simp only [grpS, grpV]
        have hrec := grp_ok g h3 (outsR_drop (sz t) ho h1) g2
        simp only [SlotsR]
        exact ⟨_, _, rfl, by simp only [SlotR]; exact ⟨_, rfl, hone, g1⟩, hrec⟩
theorem call_run {o : Oper} {g : Nat} {xs : Array Operand} {ts : Array TypeId} {f : FnT} (ho : o.op = .call ⟨.value (.func g), xs, ts⟩) (hF : FnOk P g f) : (execOp a.eval o).run P w = .ok (.enter g (xs.map a.eval)) w := by
  obtain ⟨fn, h1, h2, _, _, h5⟩ := hF.fn
  have hev : a.eval (.func g) = .func (.func g) #[] #[] := rfl
  simp [execOp, ho, resolve, hev, Deferred.ofValue, invoke, callFunc, h1, h2, h5]
theorem slotsR_app {ob : List Ob} : ∀ {l : List Slot} {vs : List Value} {l' : List Slot} {vs' : List Value}, SlotsR w Gs Gb hd ob l vs → SlotsR w Gs Gb hd ob l' vs' → SlotsR w Gs Gb hd ob (l ++ l') (vs ++ vs')
  | [], vs, l', vs', h, h' => by simp only [SlotsR] at h; subst h; exact h'
  | z :: l, vs, l', vs', h, h' => by
    simp only [SlotsR] at h
    obtain ⟨v, r, rfl, h1, h2⟩ := h
    simp only [List.cons_append, SlotsR]
    exact ⟨v, _, rfl, h1, slotsR_app h2 h'⟩
/-- The arguments, taken apart. -/
theorem argZ_ok {ob : List Ob} : ∀ (g : List (Option Ty)) (zs : List Slot) (vs : List Value) {zs' : List Slot}, SlotsR w Gs Gb hd ob zs vs → argZ g zs = some zs' → ∃ us, SlotsR w Gs Gb hd ob zs' us ∧ grpV g us = vs ∧ oneG g us
  | [], zs, vs, zs', hz, h => by
    simp only [argZ, Option.some.injEq] at h
    subst h
    exact ⟨vs, hz, by simp [grpV], by simp [oneG]⟩
  | none :: g, [], vs, zs', hz, h => by simp [argZ] at h
  | some t :: g, [], vs, zs', hz, h => by simp [argZ] at h
  | none :: g, z :: zs, vs, zs', hz, h => by
    simp only [argZ, Option.map_eq_some_iff] at h
    obtain ⟨r, h1, rfl⟩ := h
    simp only [SlotsR] at hz
    obtain ⟨v, vs, rfl, hz1, hz2⟩ := hz
    obtain ⟨us, e1, e2, e3⟩ := argZ_ok g zs vs hz2 h1
    exact ⟨v :: us, by simp only [SlotsR]; exact ⟨v, us, rfl, hz1, e1⟩, by simp only [grpV, e2], by simpa only [oneG] using e3⟩
  | some t :: g, z :: zs, vs, zs', hz, h => by
    simp only [argZ] at h
    split at h
    · rename_i t' l r hag hrec
      split at h
      · rename_i hc
        cases h
        simp only [SlotsR] at hz
        obtain ⟨v, vs, rfl, hz1, hz2⟩ := hz
        obtain ⟨us, e1, e2, e3⟩ := argZ_ok g zs vs hz2 hrec
        obtain ⟨ws, rfl, q2, q1⟩ := toAgg_ok hz1 hag
        have hl : ws.length = sz t := by rw [slotsR_len q1, hc.2.1]
        refine ⟨ws ++ us, slotsR_app q1 e1, ?_, ?_⟩
        · cases ws with
          | nil => simp at hl; omega
          | cons y ws =>
            simp only [List.cons_append, grpV]
            rw [← List.cons_append, ← hl, List.take_left, List.drop_left, e2]
        · cases ws with
          | nil => simp at hl; omega
          | cons y ws =>
            simp only [List.cons_append, oneG]
            rw [← List.cons_append, ← hl, List.take_left, List.drop_left]
            exact ⟨by simp, by simp, q2, e3⟩
      · cases h
    · cases h
theorem rds_ok (h : Inv N w0 Mv Gb Gs hd fp s a w) : ∀ l : List (Option Ty × Operand), SlotsR w Gs Gb hd s.ob (l.map fun x => rd s x.1 x.2) (l.map fun x => a.eval x.2)
  | [] => by simp [SlotsR]
  | x :: l => by
    simp only [List.map_cons, SlotsR]
    exact ⟨_, _, rfl, rd_ok h x.1 x.2, rds_ok h l⟩
theorem opnds_call {o : Oper} {c : Callee} {xs : Array Operand} {ts : Array TypeId} (ho : o.op = .call ⟨c, xs, ts⟩) : (opnds T o).map (fun x => a.eval x.2) = xs.toList.map a.eval := by
  simp only [opnds, ho, List.map_map]
  have : ((fun x : Option Ty × Operand => a.eval x.2) ∘ fun (x : Operand × Nat) => ((ts[x.2]?).bind T.ty, x.1)) = (fun x : Operand × Nat => a.eval x.1) := rfl
  rw [this]
  show List.map (a.eval ∘ Prod.fst) _ = _
  rw [← List.map_map]
  congr 1
  simp
theorem call_ok (h : Inv N w0 Mv Gb Gs hd fp s a w) {own : List Nat} {o : Oper} {g d : Nat} {xs : Array Operand} {ts : Array TypeId} {f : FnT} {ps : List PV} {tn c : Bool} {call : List PV → Option (T.R g)} {r : T.R g} {z : Slot} {m : List (Nat × Ob)}
    (ho : o.op = .call ⟨.value (.func g), xs, ts⟩) (hf : T.fn g = some f) (hd' : o.dst = some d) {avs : List V} (hav : argVs T f s o = some avs) (ha : argsOf f.pars avs = some (ps, tn)) (hn : noDup (heldKeys f.pars avs) = true) (hdj : disj (lentKeys f.pars avs) (heldKeys f.pars avs) = true)
    (hS : Sound P T g call) (hMq : ∀ w, Mv.q w → T.q w) (hcall : call ps = some r) (hF : FnOk P g f) (hout : callC own f d tn (!(lentKeys f.pars avs).isEmpty) avs (spread (T.outTys g) r) = some (c, z, m)) (hfr : freshAll s d (keyN f.outs) = true)
    {K : Act → World → Prop} {Q : Exit → Act → World → Prop} (hK : ∀ v w' Gs' hd' fp', Inv N w0 Mv Gb Gs' hd' fp' (s.out o.dst z m) (a.put o.dst v) w' → K (a.put o.dst v) w') : o.wp P a w K Q := by
  unfold Oper.wp
  rw [call_run ho hF]
  simp only [Oper.upon]
  unfold argVs at hav
  rw [Option.map_eq_some_iff] at hav
  obtain ⟨zs0, hav, rfl⟩ := hav
  obtain ⟨us0, hz0, hgv, hone⟩ := argZ_ok f.pg _ _ (rds_ok h (opnds T o)) hav
  have hga := good_args h (f := f) hz0 hone ha hn hdj
  have hcalls := hS f ps r hf hcall w _ _ _ _ hga (fun w' hw => hMq w' (h.fix w' (fun b hb hM => by
    have h1 := h.le
    have h2 := h.ev.size
    rw [hw b (by omega) (fun i ⟨k, _, hk⟩ => (h.own k b hk).2.1.elim (by omega) hM)]
    exact h.ev.block b hb hM)))
  rw [hgv, opnds_call ho] at hcalls
  have hxs : (xs.toList.map a.eval).toArray = xs.map a.eval := by apply Array.ext'; simp
  rw [hxs] at hcalls
  refine hcalls.mono ?_
  rintro e w1 ⟨us, Gs', Fr, rfl, hev, hgs, houts, hptrs, hFr, hFrD⟩
  simp only
  unfold callC at hout
  split at hout
  · rename_i zs obs bs hrs hbs
    split at hout
    rotate_left
    · cases hout
    rename_i hgrp
    simp only [Option.some.injEq, Prod.mk.injEq] at hout
    obtain ⟨rfl, rfl, rfl⟩ := hout
    have hptrs' : PtrsR w1 Gs' (Gof Gs' (argG Gs Gb fp tn (!(lentKeys f.pars (zs0.map (viewZ s))).isEmpty) (argF fp f.pars (zs0.map (viewZ s)))) true) (argF fp f.pars (zs0.map (viewZ s))) 0 f.pars us0 ((spread (T.outTys g) r).drop f.outs.length) := hptrs
    obtain ⟨hk, hb⟩ := boxMods_spec h f.pars zs0 us0 0 hz0 ha hbs hptrs'
    have h2 := h.behind (w' := w1) (prs := f.pars) (vs := zs0.map (viewZ s)) hn hk hb hev hgs
    have hle := h.le
    have hes := h.ev.size
    have hfree : ∀ j b, Fr j b → Free N Mv Gb (fun b => Gs b ∨ (Gs' b ∧ (w.heap.size ≤ b ∨ ∃ i, argF fp f.pars (zs0.map (viewZ s)) i b))) (fun k b => fp k b ∧ ∀ kb ∈ bs, kb.1 = k → kb.2 ≠ .gone) w1 b := by
      intro j b hb1
      obtain ⟨q1, q2, q3, q4⟩ := hFr j b hb1
      refine ⟨q1, ?_, ?_, ?_, ?_⟩
      · rcases q2 with q2 | ⟨i, k, _, hf'⟩
        · left; omega
        · exact (h.own k b hf').2.1
      · rintro (hh | hh)
        · rcases q2 with q2 | ⟨i, k, _, hf'⟩
          · have := (h.gs b hh).1; omega
          · exact (h.own k b hf').2.2.1 hh
        · exact q3 hh.1
      · intro hh
        rcases q2 with q2 | ⟨i, k, _, hf'⟩
        · have := (h.gb b hh).1; omega
        · exact (h.own k b hf').2.2.2 hh
      · rintro k ⟨hk1, hk2⟩
        rcases q2 with q2 | ⟨i, k', hk', hf'⟩
        · have := (h.own k b hk1).1; omega
        · have := h.disj k k' b hk1 hf'
          subst this
          have hkm : k ∈ bs.map (·.1) := by rw [hk]; exact (heldAt_ge hk').2.2
          obtain ⟨kb, hkb, rfl⟩ := List.mem_map.1 hkm
          obtain ⟨j', hj', h4⟩ := hb kb hkb
          rcases h4 with ⟨h4, _⟩ | ⟨t, y, _, _, h4, _⟩ | ⟨e, y, _, _, h4, _⟩ | ⟨e, y, _, _, _, h4, _⟩
          · exact hk2 kb hkb rfl h4
          · exact q4 j' h4 ⟨kb.1, hj', hk1⟩
          · exact q4 j' h4 ⟨kb.1, hj', hk1⟩
          · exact q4 j' h4 ⟨kb.1, hj', hk1⟩
    have hnone : ∀ j, j < keyN f.outs → (modOb s.ob bs).getD (4 * d + (0 + j)) .gone = .none := by
      intro j hj
      rw [Nat.zero_add]
      have h3 : s.ob.getD (4 * d + j) .gone = .none := by
        unfold freshAll at hfr
        rw [Bool.and_eq_true, List.all_eq_true] at hfr
        have := hfr.2 j (by simp; omega)
        split at this
        · assumption
        · cases this
      rw [modOb_not .gone]
      · exact h3
      · intro hkm
        obtain ⟨kb, hkb, e⟩ := List.mem_map.1 hkm
        obtain ⟨j', hj', h4⟩ := hb kb hkb
        have hlt : 4 * d + j < s.ob.length := by
          rcases Nat.lt_or_ge (4 * d + j) s.ob.length with h | h
          · exact h
          · rw [List.getD_eq_getElem?_getD, List.getElem?_eq_none h] at h3; cases h3
        have h5 : s.ob.getD (4 * d + j) .none = .none := by
          rw [List.getD_eq_getElem?_getD, List.getElem?_eq_getElem hlt] at h3 ⊢; exact h3
        simp only [BehR, e, h5] at h4
        rcases h4 with ⟨_, h4, _⟩ | ⟨t, y, _, h4, _⟩ | ⟨e, y, _, h4, _⟩ | ⟨e, y, _, _, h4, _⟩
        · cases h4
        · cases h4
        · cases h4
        · cases h4
    obtain ⟨Gs2, hd2, fp2, r1, _, _, _, r5, _, _⟩ := resSlots_ok (Gs' := Gs') (G := argG Gs Gb fp tn (!(lentKeys f.pars (zs0.map (viewZ s))).isEmpty) (argF fp f.pars (zs0.map (viewZ s)))) (Fr := Fr) (fun m hm b hb => by
      rcases hb with hb | ⟨hm1, hb⟩
      · rcases (hgs b hb).2.1 with hq | hq | hq | hq
        · exact .inl (.inr ⟨hb, .inl hq⟩)
        · exact .inl (.inr ⟨hb, .inr hq⟩)
        · exact .inl (.inl hq)
        · exact .inr ⟨by have : tpOf f.pars (zs0.map (viewZ s)) = true := hq.1
                         simp [this], hq.2⟩
      · rw [hm1] at hm
        simp only [Bool.true_and] at hm
        rcases hb with hb | ⟨hb, hb2⟩ | ⟨hb, _⟩
        · exact .inl (.inl hb)
        · refine .inr ⟨?_, hb2⟩
          rcases hb with hb | hb
          · simp [hm1, hb]
          · rw [hm] at hb; cases hb
        · rw [hm] at hb; cases hb) f.outs 0 h2 hrs houts hfree hFrD hnone
    refine hK _ w1 Gs2 hd2 fp2 ?_
    have hfin := r1.put (some d) (z := packS (grpS f.rg zs)) (v := tupOf (grpV f.rg us)) (tup_slot (grp_ok f.rg hgrp houts r5))
    rw [hd']
    show Inv N w0 Mv Gb Gs2 hd2 fp2 ⟨s.sl.set d _, modOb s.ob (obs ++ bs)⟩ _ w1
    rw [modOb_append]
    exact hfin
  · cases hout
end Go.Proofs.YtkgpkalclblhbaaGreatDoor.Eng
