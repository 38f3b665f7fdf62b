/-
  The results of a call, and the call as one operation.
-/
import Derived.Test.YtkgpkalclblhbaaGreatDoorS17
namespace Go.Proofs.YtkgpkalclblhbaaGreatDoor.Eng
open Go Go.RowKit
set_option linter.unusedVariables false
set_option linter.unusedSimpArgs false

variable {P : Program} {T : Tab} {N : Nat} {w0 : World} {Mv : Mvp} {Gb Gs : BS} {hd : Nat → Value} {fp : Nat → BS} {s : St} {a : Act} {w w' : World}

theorem klt {l : List Ob} {k : Nat} (h : l.getD k .gone = .none) : k < l.length := by
  rcases Nat.lt_or_ge k l.length with h' | h'
  · exact h'
  · rw [List.getD_eq_getElem?_getD, List.getElem?_eq_none h'] at h; cases h
theorem Free.mono {Gs' : BS} {fp' : Nat → BS} {b : Nat} (h : Free N Mv Gb Gs fp w b) (h1 : Gs' b → Gs b) (h2 : ∀ k, fp' k b → ∃ j, fp j b) : Free N Mv Gb Gs' fp' w b :=
  ⟨h.lt, h.mine, fun hh => h.gs (h1 hh), h.gb, fun k hh => by obtain ⟨j, hj⟩ := h2 k hh; exact h.fp j hj⟩

/-- One result. -/
theorem resSlots_ok {own : List Nat} {d : Nat} {tn rf tp : Bool} {Gs' G : BS} {Fr : Nat → BS} {ob1 : List Ob} {sl : List Slot} (hG : ∀ (m : RM), (m.tn && rf) = false → ∀ b, Gof Gs' G m.tn b → Gof Gs Gb (m.tn && tn || tp) b) :
    ∀ (outs : List (Ty × RM)) (i : Nat) {ps : List PV} {us : List Value} {zs : List Slot} {obs : List (Nat × Ob)} (h : Inv N w0 Mv Gb Gs hd fp ⟨sl, ob1⟩ a w), resSlots own d tn rf tp i outs ps = some (zs, obs) → OutsR w Gs' G Fr i outs ps us →
    (∀ j b, Fr j b → Free N Mv Gb Gs fp w b) → (∀ j j' b, Fr j b → Fr j' b → j = j') → (∀ j, j < keyN outs → ob1.getD (4 * d + (i + j)) .gone = .none) →
    ∃ Gs2 hd2 fp2, Inv N w0 Mv Gb Gs2 hd2 fp2 ⟨sl, modOb ob1 obs⟩ a w ∧ (∀ b, Gs b → Gs2 b) ∧ (∀ b, Gs2 b → Gs b ∨ ∃ j, i ≤ j ∧ Fr j b) ∧ (∀ k b, fp2 k b → fp k b ∨ ∃ j, i ≤ j ∧ Fr j b) ∧
      SlotsR w Gs2 Gb hd2 (modOb ob1 obs) zs us ∧ (∀ k, k ∉ obs.map (·.1) → (modOb ob1 obs).getD k .gone = ob1.getD k .gone) ∧ ∀ k ∈ obs.map (·.1), 4 * d + i ≤ k
  | [], i, ps, us, zs, obs, h, hr, ho, hF, hD, hN => by
    simp only [resSlots, Option.some.injEq, Prod.mk.injEq] at hr
    obtain ⟨rfl, rfl⟩ := hr
    cases us with
    | nil => exact ⟨Gs, hd, fp, h, fun _ h => h, fun _ h => .inl h, fun _ _ h => .inl h, by simp only [SlotsR], fun _ _ => rfl, fun k hk => by simp at hk⟩
    | cons _ _ => simp [OutsR] at ho
  | (t, m) :: ms, i, ps, us, zs, obs, h, hr, ho, hF, hD, hN => by
    cases ps with
    | nil => simp [resSlots] at hr
    | cons p ps =>
      cases us with
      | nil => simp [OutsR] at ho
      | cons v us =>
        simp only [OutsR] at ho
        obtain ⟨hpt, hout, hrest⟩ := ho
        simp only [resSlots] at hr
        split at hr
        · split at hr
          · cases hr
          · rename_i hflag
            split at hr
            · cases hr
            · rename_i zs' obs' hrec
              obtain ⟨Gs2, hd2, fp2, h1, h2, h3, h4, h5, h6, h7⟩ := resSlots_ok hG ms (i + 1) h hrec hrest hF hD (fun j hj => by
                have := hN (j + 1) (by simp only [keyN]; rw [if_neg (by omega)]; omega)
                rwa [show i + (j + 1) = i + 1 + j by omega] at this)
              have hnone : m.bx = true ∨ m.own = true → (modOb ob1 obs').getD (4 * d + i) .gone = .none := fun hmm => by
                rw [h6 _ (fun hk => by have := h7 _ hk; omega)]
                exact hN 0 (by simp only [keyN]; split <;> rcases hmm with h | h <;> simp [h])
              have hfree : ∀ b, Fr i b → Free N Mv Gb Gs2 fp2 w b := fun b hb => by
                have hf := hF i b hb
                refine ⟨hf.lt, hf.mine, fun hh => ?_, hf.gb, fun k hh => ?_⟩
                · rcases h3 b hh with hh | ⟨j, hj, hh⟩
                  · exact hf.gs hh
                  · have := hD i j b hb hh; omega
                · rcases h4 k b hh with hh | ⟨j, hj, hh⟩
                  · exact hf.fp k hh
                  · have := hD i j b hb hh; omega
              -- a new key
              have newkey : ∀ {ob : Ob} (hmm : m.bx = true ∨ m.own = true) (hob : isNone ob = false) (hR : ObR w Gs2 Gb hd2 (modOb ob1 obs') v (Fr i) ob) (z : Slot) (hz : SlotR w Gs2 Gb (upd hd2 (4 * d + i) v) ((modOb ob1 obs').set (4 * d + i) ob) z v),
                  ∃ Gs3 hd3 fp3, Inv N w0 Mv Gb Gs3 hd3 fp3 ⟨sl, modOb ob1 ((4 * d + i, ob) :: obs')⟩ a w ∧ (∀ b, Gs b → Gs3 b) ∧ (∀ b, Gs3 b → Gs b ∨ ∃ j, i ≤ j ∧ Fr j b) ∧ (∀ k b, fp3 k b → fp k b ∨ ∃ j, i ≤ j ∧ Fr j b) ∧
                    SlotsR w Gs3 Gb hd3 (modOb ob1 ((4 * d + i, ob) :: obs')) (z :: zs') (v :: us) ∧ (∀ k, k ∉ ((4 * d + i, ob) :: obs').map (·.1) → (modOb ob1 ((4 * d + i, ob) :: obs')).getD k .gone = ob1.getD k .gone) ∧ ∀ k ∈ ((4 * d + i, ob) :: obs').map (·.1), 4 * d + i ≤ k := by
                intro ob hmm hob hR z hz
                have hnone := hnone hmm
                have hlt : 4 * d + i < (modOb ob1 obs').length := by
                  rcases Nat.lt_or_ge (4 * d + i) (modOb ob1 obs').length with h | h
                  · exact h
                  · rw [List.getD_eq_getElem?_getD, List.getElem?_eq_none h] at hnone; cases hnone
                have hnone' : (modOb ob1 obs').getD (4 * d + i) .none = .none := by
                  rw [List.getD_eq_getElem?_getD, List.getElem?_eq_getElem hlt] at hnone ⊢; exact hnone
                have hnk := h1.newKey (k := 4 * d + i) (v := v) (F := Fr i) hnone hfree hob hR
                refine ⟨Gs2, _, _, hnk, h2, fun b hb => (h3 b hb).imp id (fun ⟨j, hj, hh⟩ => ⟨j, by omega, hh⟩), fun k b hb => ?_, ?_, fun k hk => ?_, fun k hk => ?_⟩
                · by_cases hki : k = 4 * d + i
                  · subst hki; simp at hb; exact .inr ⟨i, Nat.le_refl _, hb⟩
                  · rw [upd_ne _ _ hki] at hb; exact (h4 k b hb).imp id (fun ⟨j, hj, hh⟩ => ⟨j, by omega, hh⟩)
                · simp only [SlotsR]
                  refine ⟨v, us, rfl, hz, slots_move (fun _ x => x) (fun _ _ => rfl) (fun k hk => ?_) (fun v hv => (rg_upd (Nat.lt_of_lt_of_le hlt h1.small)).2 hv) _ _ h5⟩
                  have hki : k ≠ 4 * d + i := fun e => by subst e; rw [hnone'] at hk; cases hk
                  show isNone (((modOb ob1 obs').set (4 * d + i) ob).getD k .none) = false ∧ _
                  simp only [modOb]
                  rw [getD_set_ne' _ _ _ hki, upd_ne _ _ hki]
                  exact ⟨hk, rfl, fun _ x => x⟩
                · simp only [List.map_cons, List.mem_cons, not_or] at hk
                  simp only [modOb]
                  rw [getD_set_ne' _ _ _ hk.1]
                  exact h6 k hk.2
                · simp only [List.map_cons, List.mem_cons] at hk
                  rcases hk with rfl | hk
                  · exact Nat.le_refl _
                  · have := h7 k hk; omega
              -- no key
              have nokey : ∀ (z : Slot) (Gs3 : BS) (hI : Inv N w0 Mv Gb Gs3 hd2 fp2 ⟨sl, modOb ob1 obs'⟩ a w) (hg : ∀ b, Gs2 b → Gs3 b) (hg' : ∀ b, Gs3 b → Gs2 b ∨ Fr i b) (hz : SlotR w Gs3 Gb hd2 (modOb ob1 obs') z v),
                  ∃ Gs3 hd3 fp3, Inv N w0 Mv Gb Gs3 hd3 fp3 ⟨sl, modOb ob1 obs'⟩ a w ∧ (∀ b, Gs b → Gs3 b) ∧ (∀ b, Gs3 b → Gs b ∨ ∃ j, i ≤ j ∧ Fr j b) ∧ (∀ k b, fp3 k b → fp k b ∨ ∃ j, i ≤ j ∧ Fr j b) ∧
                    SlotsR w Gs3 Gb hd3 (modOb ob1 obs') (z :: zs') (v :: us) ∧ (∀ k, k ∉ obs'.map (·.1) → (modOb ob1 obs').getD k .gone = ob1.getD k .gone) ∧ ∀ k ∈ obs'.map (·.1), 4 * d + i ≤ k := by
                intro z Gs3 hI hg hg' hz
                refine ⟨Gs3, hd2, fp2, hI, fun b hb => hg b (h2 b hb), fun b hb => ?_, fun k b hb => (h4 k b hb).imp id (fun ⟨j, hj, hh⟩ => ⟨j, by omega, hh⟩), ?_, h6, fun k hk => by have := h7 k hk; omega⟩
                · rcases hg' b hb with hb | hb
                  · exact (h3 b hb).imp id (fun ⟨j, hj, hh⟩ => ⟨j, by omega, hh⟩)
                  · exact .inr ⟨i, Nat.le_refl _, hb⟩
                · simp only [SlotsR]
                  exact ⟨v, us, rfl, hz, slots_move hg (fun _ _ => rfl) (fun k hk => ⟨hk, rfl, fun _ x => x⟩) (fun _ h => h) _ _ h5⟩
              -- no key, a head noted
              have nokeyH : ∀ (z : Slot) (Gs3 : BS) (hd3 : Nat → Value) (hI : Inv N w0 Mv Gb Gs3 hd3 fp2 ⟨sl, modOb ob1 obs'⟩ a w) (hg : ∀ b, Gs2 b → Gs3 b) (hg' : ∀ b, Gs3 b → Gs2 b ∨ Fr i b) (hlow : ∀ j, j < regM → hd3 j = hd2 j) (hR : ∀ u, Rg hd2 u → Rg hd3 u) (hz : SlotR w Gs3 Gb hd3 (modOb ob1 obs') z v),
                  ∃ Gs3 hd3 fp3, Inv N w0 Mv Gb Gs3 hd3 fp3 ⟨sl, modOb ob1 obs'⟩ a w ∧ (∀ b, Gs b → Gs3 b) ∧ (∀ b, Gs3 b → Gs b ∨ ∃ j, i ≤ j ∧ Fr j b) ∧ (∀ k b, fp3 k b → fp k b ∨ ∃ j, i ≤ j ∧ Fr j b) ∧
                    SlotsR w Gs3 Gb hd3 (modOb ob1 obs') (z :: zs') (v :: us) ∧ (∀ k, k ∉ obs'.map (·.1) → (modOb ob1 obs').getD k .gone = ob1.getD k .gone) ∧ ∀ k ∈ obs'.map (·.1), 4 * d + i ≤ k := by
                intro z Gs3 hd3 hI hg hg' hlow hR hz
                refine ⟨Gs3, hd3, fp2, hI, fun b hb => hg b (h2 b hb), fun b hb => ?_, fun k b hb => (h4 k b hb).imp id (fun ⟨j, hj, hh⟩ => ⟨j, by omega, hh⟩), ?_, h6, fun k hk => by have := h7 k hk; omega⟩
                · rcases hg' b hb with hb | hb
                  · exact (h3 b hb).imp id (fun ⟨j, hj, hh⟩ => ⟨j, by omega, hh⟩)
                  · exact .inr ⟨i, Nat.le_refl _, hb⟩
                · simp only [SlotsR]
                  exact ⟨v, us, rfl, hz, slots_move hg (fun _ _ => rfl) (fun k hk => ⟨hk, hlow k (Nat.lt_of_lt_of_le (ob_lt hk) h1.small), fun _ x => x⟩) hR _ _ h5⟩
              have hGG : (m.tn && rf) = false → ∀ b, Gof Gs' G m.tn b → Gof Gs2 Gb (m.tn && tn || tp) b := fun h b hb => Gof_mono h2 id b (hG m h b hb)
              have hmr : flat t = false → (m.tn && rf) = false := fun hf => by
                cases h1 : m.tn <;> cases h2 : rf <;> simp_all
              unfold OutR at hout
              split at hr
              · rename_i hbx
                rw [if_pos hbx] at hout
                simp only [Option.some.injEq, Prod.mk.injEq] at hr
                obtain ⟨rfl, rfl⟩ := hr
                have hlt := klt (hnone (.inl hbx))
                refine newkey (.inl hbx) rfl ?_ _ ?_
                · show BoxR _ _ _ _ _ _
                  cases hf : flat p.t with
                  | true => obtain ⟨b, o, cs, g1, g2, g3, g4, g5⟩ := hout; exact ⟨b, o, cs, g1, g2, g3.anyw hf _ _, g4, g5⟩
                  | false => exact hout.grow (by simpa using hGG (hmr (by rw [← hpt]; exact hf))) (fun _ h => h)
                · simp only [SlotR]
                  rw [getD_set_self, if_pos hlt]
                  obtain ⟨b, o, cs, g1, _⟩ := hout
                  refine ⟨rfl, fun t' ht' => ⟨b, o, by simp [g1], ?_⟩⟩
                  simp [pathOff, g1]
              · rename_i hbx
                rw [if_neg hbx] at hout
                split at hr
                · rename_i e x hown _
                  rw [if_pos hown] at hout
                  split at hr
                  · rename_i hdp
                    rw [if_pos hdp] at hout
                    obtain ⟨e', x', hp, hrow⟩ := hout
                    cases hp
                    simp only [Option.some.injEq, Prod.mk.injEq] at hr
                    obtain ⟨rfl, rfl⟩ := hr
                    have hlt := klt (hnone (.inr hown))
                    refine newkey (ob := .dp e x) (.inr hown) rfl hrow _ ?_
                    simp only [SlotR]
                    rw [getD_set_self, if_pos hlt]
                    exact ⟨rfl, by simp⟩
                  rename_i hdp
                  rw [if_neg hdp] at hout
                  obtain ⟨e', x', hp, hrow, hnx⟩ := hout
                  cases hp
                  have hmr' : (m.tn && rf) = false := hmr (by rw [← hpt]; rfl)
                  have hrow' : OwnRow w (Gof Gs2 Gb ((m.tn && tn || tp) && !flat e)) e x v (Fr i) := by
                    rcases hrow with hrow | ⟨b, o, cap, cs, g1, g2, g3, g4, g5, g6⟩
                    · exact .inl hrow
                    · refine .inr ⟨b, o, cap, cs, g1, g2, g3, ?_, g5, g6⟩
                      cases hf : flat e with
                      | true => exact g4.anyw hf _ _
                      | false => simpa using g4.move (hGG hmr') (fun _ _ => rfl)
                  split at hr
                  · simp only [Option.some.injEq, Prod.mk.injEq] at hr
                    obtain ⟨rfl, rfl⟩ := hr
                    have hlt := klt (hnone (.inr hown))
                    refine newkey (ob := .sl ((m.tn && tn || tp) && !flat e) m.nx e x) (.inr hown) rfl ⟨hrow', hnx⟩ _ ?_
                    simp only [SlotR]
                    rw [getD_set_self, if_pos hlt]
                    exact ⟨rfl, by simp⟩
                  · simp only [Option.some.injEq, Prod.mk.injEq] at hr
                    obtain ⟨rfl, rfl⟩ := hr
                    by_cases hnw : ∃ y, nwOr (own.contains (d + 2000000)) ((m.tn && tn || tp) && !flat e) e x = .nw y ∧ (⟨.sl e, x⟩ : PV) = ⟨.sl (.int .i64), (y : List Int)⟩
                    · obtain ⟨y, hy, hp⟩ := hnw
                      rw [hy]
                      cases hp
                      obtain ⟨hd3, q1, q2, q3, q4⟩ := h1.shareNw hfree hrow'
                      refine nokeyH _ _ hd3 q1 (fun _ h => .inl h) (fun _ h => h) q2 q3 ?_
                      simp only [SlotR]
                      refine ⟨?_, q4⟩
                      rcases hrow' with ⟨rfl, rfl⟩ | ⟨b, o, cap, cs, rfl, g2, g3, g4, g5, g6⟩
                      · exact .mkNil _
                      · exact .mkSl g2 (.inl (.inr g3)) (g4.anyw rfl _ _) g5
                    have hval : nwOr (own.contains (d + 2000000)) ((m.tn && tn || tp) && !flat e) e x = .val ((m.tn && tn || tp) && !flat e) (.sl e) x := by
                      unfold nwOr at hnw ⊢
                      split at hnw
                      · rename_i hb
                        rw [if_pos hb]
                        split at hnw
                        · rename_i y hy
                          exact absurd ⟨y, rfl, PV.is_eq hy⟩ hnw
                        · rfl
                      · rename_i hb
                        rw [if_neg hb]
                    rw [hval]
                    refine nokey _ _ (h1.share hfree) (fun _ h => .inl h) (fun _ h => h) ?_
                    simp only [SlotR]
                    rcases hrow' with ⟨rfl, rfl⟩ | ⟨b, o, cap, cs, rfl, g2, g3, g4, g5, g6⟩
                    · exact .mkNil e
                    · exact .mkSl g2 (.inl (.inr g3)) (g4.move (Gof_mono (fun _ h => .inl h) id) (fun _ _ => rfl)) g5
                · rename_i pt px hno _
                  simp only [Option.some.injEq, Prod.mk.injEq] at hr
                  obtain ⟨rfl, rfl⟩ := hr
                  by_cases hown : m.own = true
                  · rw [if_pos hown] at hout
                    have hout' : ∃ (e' : Ty) (x' : List (Den e')), (⟨pt, px⟩ : PV) = ⟨.sl e', x'⟩ := by
                      split at hout
                      · obtain ⟨e', x', hp, _⟩ := hout; exact ⟨e', x', hp⟩
                      · obtain ⟨e', x', hp, _⟩ := hout; exact ⟨e', x', hp⟩
                    obtain ⟨e', x', hp⟩ := hout'
                    cases hp; exact (hno _ x' hown rfl HEq.rfl).elim
                  · rw [if_neg hown] at hout
                    refine nokey _ _ h1 (fun _ h => h) (fun _ h => .inl h) ?_
                    cases hf : flat pt with
                    | true => exact mkVal_ok (hout.anyw hf _ _)
                    | false => exact mkVal_ok (hout.move (hGG (hmr (by rw [← hpt]; exact hf))) (fun _ _ => rfl))
        · rename_i hne; exact absurd hpt hne
end Go.Proofs.YtkgpkalclblhbaaGreatDoor.Eng
