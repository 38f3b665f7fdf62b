/-
  One step of a region on the machine; a row of steps; any order of them.
-/
import Derived.Test.YtkgpkalclblhbaaGreatDoorS20
namespace Go.Proofs.YtkgpkalclblhbaaGreatDoor.Eng
open Go Go.RowKit
set_option linter.unusedVariables false
set_option linter.unusedSimpArgs false

variable {P : Program} {T : Tab} {N : Nat} {w0 : World} {Mv : Mvp} {Gb Gs : BS} {hd : Nat → Value} {fp : Nat → BS} {s : St} {a : Act} {w w' : World}

theorem put_defers (a : Act) (d : Option Nat) (v : Value) : (a.put d v).defers = a.defers := by cases d <;> rfl
theorem split_inv {ops : Array Oper} {i : Nat} {d : Option Nat} {z z' : Slot} {m : List (Nat × Ob)} (h : Inv N w0 Mv Gb Gs hd fp (s.out d z m) a w) (hz : splitZ ops i z = some z') : Inv N w0 Mv Gb Gs hd fp (s.out d z' m) a w := by
  unfold splitZ at hz
  split at hz
  · cases d with
    | none => exact h
    | some d =>
      have key : ∀ v, SlotR w Gs Gb hd (modOb s.ob m) z v → SlotR w Gs Gb hd (modOb s.ob m) z' v := by
        intro v hv
        split at hz
        · cases hz; exact hv
        · cases hz; simp only [SlotR] at hv ⊢; exact hv.of_bool
        · cases hz
      refine ⟨h.ev, h.le, by have := h.len; simpa [St.out] using this, fun j => ?_, h.obs, h.own, h.disj, h.gs, h.gb, h.pin, h.fix, h.small, h.reg⟩
      have := h.slots j
      simp only [St.out] at this ⊢
      by_cases hj : j = d
      · subst hj
        rw [getD_set_self] at this ⊢
        split
        · rename_i hl; rw [if_pos hl] at this; exact key _ this
        · simp only [SlotR]
      · rw [getD_set_ne' _ _ _ hj] at this ⊢; exact this
  · cases hz; exact h
theorem wanted_ok {ops : Array Oper} (h : Inv N w0 Mv Gb Gs hd fp s a w) {o : Oper} {b : Bool} (hw : wantedS ops s o = some b) : Region.wanted o (yielded ops a.tmps) = b := by
  unfold wantedS at hw
  unfold Region.wanted
  cases hg : o.guard with
  | none => rw [hg] at hw; simp at hw; simp [hw]
  | some gw =>
    obtain ⟨j, want⟩ := gw
    rw [hg] at hw
    simp only at hw ⊢
    unfold yielded
    cases hd' : (ops[j]?).bind (·.dst) with
    | none => rw [hd'] at hw; simp at hw; subst hw; simp
    | some d =>
      rw [hd'] at hw
      simp only at hw
      have hs := h.slots d
      simp only [Option.bind_some]
      split at hw
      · rename_i b' hz
        rw [hz] at hs
        simp only [SlotR] at hs
        cases hw
        have : a.tmps[d]? = some (.bool b') := by
          rw [Array.getD_eq_getD_getElem?] at hs
          cases hq : a.tmps[d]? with
          | none => rw [hq] at hs; simp [undef] at hs
          | some v => rw [hq] at hs; simp at hs; rw [hs]
        rw [this]
        simp
      · rename_i hz
        rw [hz] at hs
        simp only [SlotR] at hs
        cases hw
        have : ∀ b', a.tmps[d]? ≠ some (.bool b') := by
          intro b' hq
          rw [Array.getD_eq_getD_getElem?, hq] at hs
          simp [undef] at hs
        cases hq : a.tmps[d]? with
        | none => simp
        | some v =>
          have hv : v = undef := by rw [Array.getD_eq_getD_getElem?, hq] at hs; simpa using hs
          subst hv
          simp [undef]
      · cases hw
theorem step_ok (hT : TabOk P T) {call : (g : Nat) → List PV → Option (T.R g)} (hS : SoundM P T Mv call) (hFn : ∀ g f, T.fn g = some f → FnOk P g f) (h : Inv N w0 Mv Gb Gs hd fp s a w) {own : List Nat} {ops : Array Oper} {i : Nat} {o : Oper} (hi : ops[i]? = some o)
    {z : Slot} {m : List (Nat × Ob)} {lg : Log} (hc : core1 T call own ops i o s = some (z, m, lg)) {K : Act → World → Prop} {Q : Exit → Act → World → Prop}
    (hK : ∀ a' w' Gs' hd' fp', Inv N w0 Mv Gb Gs' hd' fp' (s.out o.dst z m) a' w' → a'.defers = a.defers → K a' w') : wpOp P ops Q i K a w := by
  unfold wpOp
  rw [hi]
  simp only
  unfold core1 at hc
  split at hc
  · rename_i hw
    rw [wanted_ok h hw]
    simp only [if_true]
    left
    split at hc
    · rename_i z0 m0 lg0 hco
      split at hc
      · rename_i z1 hz
        cases hc
        have hK' : ∀ v w' Gs' hd' fp', Inv N w0 Mv Gb Gs' hd' fp' (s.out o.dst z0 m) (a.put o.dst v) w' → K (a.put o.dst v) w' := fun v w' Gs' hd' fp' h' => hK _ w' Gs' hd' fp' (split_inv h' hz) (put_defers _ _ _)
        unfold coreOp at hco
        split at hco
        · rename_i g xs ts ho
          split at hco
          · rename_i f d hf hdst
            split at hco
            · rename_i avs hav
              split at hco
              · rename_i ps tn ha
                split at hco
                · rename_i hchk
                  simp only [Bool.and_eq_true] at hchk
                  obtain ⟨q, hq, hco⟩ := Option.bind_eq_some_iff.1 hco
                  split at hco
                  · rename_i c z2 m2 hout
                    split at hco
                    · rename_i hfr
                      cases hco
                      exact call_ok h ho hf hdst hav ha hchk.1.1 hchk.1.2 (hS.1 g) hS.2 hq (hFn g f hf) hout hfr hK'
                    · cases hco
                  · cases hco
                · cases hco
              · cases hco
            · cases hco
          · cases hco
        · split at hco
          · rename_i c z2 m2 hop
            split at hco
            · rename_i hct
              cases hco
              subst hct
              obtain ⟨v, w1, Gs1, hd1, fp1, hr, h1⟩ := op_ok hT h hop
              unfold Oper.wp
              rcases hr with hr | ⟨hr, rfl⟩
              · rw [hr]; exact hK' v w1 _ _ _ h1
              · rw [hr]; exact hK' undef w1 _ _ _ h1
            · cases hco
          · cases hco
      · cases hc
    · cases hc
  · rename_i hw
    rw [wanted_ok h hw]
    simp only [Bool.false_eq_true, if_false]
    cases hc
    exact hK _ w Gs hd fp (by rw [St.out_nil]; exact h.put o.dst (z := .und) (v := undef) (by simp only [SlotR])) (put_defers _ _ _)
  · cases hc

/-- A row of steps, each with its log. -/
def RunsL (T : Tab) (call : (g : Nat) → List PV → Option (T.R g)) (own : List Nat) (ops : Array Oper) (lam : Nat → Log) : List Nat → St → St → Prop
  | [], s, s' => s = s'
  | i :: L, s, s' => ∃ o z m, ops[i]? = some o ∧ core1 T call own ops i o s = some (z, m, lam i) ∧ RunsL T call own ops lam L (s.out o.dst z m) s'
theorem runs_ok (hT : TabOk P T) {call : (g : Nat) → List PV → Option (T.R g)} (hS : SoundM P T Mv call) (hFn : ∀ g f, T.fn g = some f → FnOk P g f) {own : List Nat} {ops : Array Oper} {lam : Nat → Log} {Q : Exit → Act → World → Prop} :
    ∀ (L : List Nat) {s s' : St} {Gs : BS} {hd : Nat → Value} {fp : Nat → BS} {a : Act} {w : World} (h : Inv N w0 Mv Gb Gs hd fp s a w), RunsL T call own ops lam L s s' →
    (∀ a' w' Gs' hd' fp', Inv N w0 Mv Gb Gs' hd' fp' s' a' w' → a'.defers = a.defers → Q .normal a' w') → wpOps P ops Q L a w
  | [], s, s', Gs, hd, fp, a, w, h, hr, hQ => by
    simp only [RunsL] at hr
    subst hr
    exact hQ a w Gs hd fp h rfl
  | i :: L, s, s', Gs, hd, fp, a, w, h, hr, hQ => by
    simp only [RunsL] at hr
    obtain ⟨o, z, m, h1, h2, h3⟩ := hr
    rw [wpOps_cons]
    refine step_ok hT hS hFn h h1 h2 (fun a' w' Gs' hd' fp' h' hdf => ?_)
    exact runs_ok hT hS hFn L h' h3 (fun a2 w2 Gs2 hd2 fp2 h2 hdf2 => hQ a2 w2 Gs2 hd2 fp2 h2 (hdf2.trans hdf))
theorem RunsL.congr {call : (g : Nat) → List PV → Option (T.R g)} {own : List Nat} {ops : Array Oper} {lam lam' : Nat → Log} : ∀ {L : List Nat} {s s' : St}, (∀ i ∈ L, lam i = lam' i) → RunsL T call own ops lam L s s' → RunsL T call own ops lam' L s s'
  | [], _, _, _, h => h
  | i :: L, s, s', hl, h => by
    obtain ⟨o, z, m, h1, h2, h3⟩ := h
    exact ⟨o, z, m, h1, by rw [← hl i (by simp)]; exact h2, RunsL.congr (fun j hj => hl j (by simp [hj])) h3⟩
/-- The text's order, as it is carried out, is a row of steps. -/
theorem execOps_runs {call : (g : Nat) → List PV → Option (T.R g)} {R : Type} {own : List Nat} {ops : Array Oper} {K : St → List Log → Option R} {r : R} : ∀ (l : List Oper) (i : Nat) {s : St} {lgs : List Log}, l = ops.toList.drop i → execOps T call own ops i l s lgs K = some r →
    ∃ s' lam, RunsL T call own ops lam (List.range' i l.length) s s' ∧ K s' (((List.range' i l.length).map lam).reverse ++ lgs) = some r
  | [], i, s, lgs, hl, h => ⟨s, fun _ => ⟨[], []⟩, rfl, by simpa [execOps] using h⟩
  | o :: l, i, s, lgs, hl, h => by
    simp only [execOps] at h
    obtain ⟨z, m, lg, h1, h2⟩ := stepOp_core h
    have hoi : ops[i]? = some o := by
      have : (ops.toList.drop i)[0]? = some o := by rw [← hl]; rfl
      simpa using this
    have hl' : l = ops.toList.drop (i + 1) := by
      rw [← List.drop_drop, ← hl]; rfl
    obtain ⟨s', lam, h3, h4⟩ := execOps_runs l (i + 1) hl' h2
    refine ⟨s', upd lam i lg, ?_, ?_⟩
    · simp only [List.length_cons, List.range'_succ]
      refine ⟨o, z, m, hoi, by rw [upd_same]; exact h1, h3.congr (fun j hj => ?_)⟩
      rw [List.mem_range'_1] at hj
      rw [upd_ne _ _ (by omega)]
    · simp only [List.length_cons, List.range'_succ, List.map_cons, List.reverse_cons, upd_same, List.append_assoc, List.singleton_append]
      have : (List.range' (i + 1) l.length).map (upd lam i lg) = (List.range' (i + 1) l.length).map lam := by
        apply List.map_congr_left
        intro j hj
        rw [List.mem_range'_1] at hj
        rw [upd_ne _ _ (by omega)]
      rw [this]
      exact h4

/-! ### Two steps that are apart may change places -/
theorem disj_spec {a b : List Nat} (h : disj a b = true) : ∀ k ∈ a, k ∉ b := by
  unfold disj at h
  rw [List.all_eq_true] at h
  intro k hk
  have := h k hk
  simpa using this
theorem modOb_get? {l : List Ob} : ∀ {m : List (Nat × Ob)} {k : Nat}, k ∉ m.map (·.1) → (modOb l m)[k]? = l[k]?
  | [], _, _ => rfl
  | (j, b) :: r, k, h => by
    simp only [List.map_cons, List.mem_cons, not_or] at h
    simp only [modOb]
    rw [List.getElem?_set_ne (fun e => h.1 e.symm)]
    exact modOb_get? h.2
theorem modOb_set_comm : ∀ (m : List (Nat × Ob)) (l : List Ob) (k : Nat) (b : Ob), k ∉ m.map (·.1) → modOb (l.set k b) m = (modOb l m).set k b
  | [], _, _, _, _ => rfl
  | (j, c) :: r, l, k, b, h => by
    simp only [List.map_cons, List.mem_cons, not_or] at h
    simp only [modOb]
    rw [modOb_set_comm r l k b h.2, List.set_comm _ _ h.1]
theorem modOb_comm : ∀ (m m' : List (Nat × Ob)) (l : List Ob), (∀ k ∈ m.map (·.1), k ∉ m'.map (·.1)) → modOb (modOb l m) m' = modOb (modOb l m') m
  | [], _, _, _ => rfl
  | (k, b) :: r, m', l, h => by
    simp only [modOb]
    rw [modOb_set_comm m' _ k b (h k (by simp)), modOb_comm r m' l (fun j hj => h j (by simp only [List.map_cons, List.mem_cons]; exact .inr hj))]
theorem out_comm (s : St) {d d' : Option Nat} (z z' : Slot) (m m' : List (Nat × Ob)) (hd : ∀ x, d = some x → d' ≠ some x) (hm : ∀ k ∈ m.map (·.1), k ∉ m'.map (·.1)) : (s.out d z m).out d' z' m' = (s.out d' z' m').out d z m := by
  unfold St.out
  simp only [St.mk.injEq]
  refine ⟨?_, modOb_comm m m' s.ob hm⟩
  cases d with
  | none => rfl
  | some x => cases d' with
    | none => rfl
    | some y =>
      have : x ≠ y := fun e => hd x rfl (by rw [e])
      simp only
      rw [List.set_comm _ _ this]
theorem lg_md {call : (g : Nat) → List PV → Option (T.R g)} {own : List Nat} {ops : Array Oper} {i : Nat} {o : Oper} {z : Slot} {m : List (Nat × Ob)} {lg : Log} (h : core1 T call own ops i o s = some (z, m, lg)) : lg.md = m.map (·.1) ∧ (wantedS ops s o = some true → lg.rd = looks T s o) := by
  unfold core1 at h
  split at h
  · rename_i hw
    split at h
    · rename_i z0 m0 lg0 hco
      split at h
      · cases h
        unfold coreOp at hco
        split at hco
        · split at hco
          · split at hco
            · split at hco
              · split at hco
                · obtain ⟨q, hq, hco⟩ := Option.bind_eq_some_iff.1 hco
                  split at hco
                  · split at hco
                    · cases hco; exact ⟨rfl, fun _ => rfl⟩
                    · cases hco
                  · cases hco
                · cases hco
              · cases hco
            · cases hco
          · cases hco
        · split at hco
          · split at hco
            · cases hco; exact ⟨rfl, fun _ => rfl⟩
            · cases hco
          · cases hco
      · cases h
    · cases h
  · rename_i hw; cases h; exact ⟨rfl, fun hh => by rw [hw] at hh; cases hh⟩
  · cases h
theorem rd_out {d : Option Nat} {z : Slot} {m : List (Nat × Ob)} (s : St) {t : Option Ty} {x : Operand} (h : ∀ i, d = some i → x ≠ .tmp i) : rd (s.out d z m) t x = rd s t x := by
  cases x with
  | tmp i =>
    simp only [rd, St.out]
    cases d with
    | none => rfl
    | some j => exact getD_set_ne' _ _ _ (fun e => h j rfl (by rw [e]))
  | _ => rfl
theorem notSeen_spec {d : Option Nat} {o : Oper} (h : notSeen T d o = true) : ∀ i, d = some i → ∀ x ∈ opnds T o, x.2 ≠ .tmp i := by
  rintro i rfl x hx e
  unfold notSeen at h
  simp only [List.all_eq_true] at h
  have := h x hx
  rw [e] at this
  simp at this
theorem wanted_out {ops : Array Oper} {d : Option Nat} {z : Slot} {m : List (Nat × Ob)} (s : St) {o : Oper} (h : ∀ i, d = some i → i ∉ o.looksAt ops) : wantedS ops (s.out d z m) o = wantedS ops s o := by
  unfold wantedS
  cases hg : o.guard with
  | none => rfl
  | some gw =>
    obtain ⟨j, want⟩ := gw
    simp only
    cases hd' : (ops[j]?).bind (·.dst) with
    | none => rfl
    | some e =>
      simp only [St.out]
      cases d with
      | none => rfl
      | some i =>
        simp only
        rw [getD_set_ne' _ _ _ (fun hh => h i rfl (by
          subst hh
          unfold Oper.looksAt
          rw [hg]
          simp only [List.mem_append]
          right
          rw [hd']; simp))]
theorem commute {call : (g : Nat) → List PV → Option (T.R g)} {own : List Nat} {ops : Array Oper} {i j : Nat} {oi oj : Oper} {zi zj : Slot} {mi mj : List (Nat × Ob)} {li lj : Log} (hi : core1 T call own ops i oi s = some (zi, mi, li))
    (hj : core1 T call own ops j oj (s.out oi.dst zi mi) = some (zj, mj, lj)) (hap : apartB T ops oi oj li lj = true ∨ apartB T ops oj oi lj li = true) :
    core1 T call own ops j oj s = some (zj, mj, lj) ∧ core1 T call own ops i oi (s.out oj.dst zj mj) = some (zi, mi, li) ∧ (s.out oi.dst zi mi).out oj.dst zj mj = (s.out oj.dst zj mj).out oi.dst zi mi := by
  obtain ⟨a1, a2, a3, n1, n2, k1, k2, k3⟩ : (∀ d, oi.dst = some d → d ∉ oj.looksAt ops) ∧ (∀ d, oi.dst = some d → oj.dst ≠ some d) ∧ (∀ d, oj.dst = some d → d ∉ oi.looksAt ops) ∧ notSeen T oi.dst oj = true ∧ notSeen T oj.dst oi = true ∧
      (∀ k ∈ li.md, k ∉ lj.rd) ∧ (∀ k ∈ li.md, k ∉ lj.md) ∧ (∀ k ∈ lj.md, k ∉ li.rd) := by
    rcases hap with hap | hap
    · simp only [apartB, Bool.and_eq_true] at hap
      obtain ⟨⟨⟨⟨⟨h1, h2⟩, h3⟩, h4⟩, h5⟩, h6⟩ := hap
      obtain ⟨b1, b2, b3⟩ := Oper.apart_spec h1
      exact ⟨b1, b2, b3, h2, h3, disj_spec h4, disj_spec h5, disj_spec h6⟩
    · simp only [apartB, Bool.and_eq_true] at hap
      obtain ⟨⟨⟨⟨⟨h1, h2⟩, h3⟩, h4⟩, h5⟩, h6⟩ := hap
      obtain ⟨b1, b2, b3⟩ := Oper.apart_spec h1
      exact ⟨b3, fun d h1 h2 => b2 d h2 h1, b1, h3, h2, disj_spec h6, fun k hk hk' => disj_spec h5 k hk' hk, disj_spec h4⟩
  have mdi := (lg_md hi).1
  have mdj := (lg_md hj).1
  have e1 : core1 T call own ops j oj s = some (zj, mj, lj) := by
    rw [← hj]
    by_cases hw : wantedS ops s oj = some true
    · refine core_local (fun x hx => (rd_out s (fun d hd => notSeen_spec n1 d hd x hx)).symm) (wanted_out s a1).symm (fun k hk => ?_)
      have hw' : wantedS ops (s.out oi.dst zi mi) oj = some true := by rw [wanted_out s a1]; exact hw
      have hrd := (lg_md hj).2 hw'
      have hlk : looks T (s.out oi.dst zi mi) oj = looks T s oj := by
        unfold looks
        split
        · rfl
        · congr 1
          exact flatMap_same (fun x hx => by rw [rd_out s (fun d hd => notSeen_spec n1 d hd x hx)])
      rw [hlk] at hrd
      refine (modOb_get? ?_).symm
      rw [← mdi]
      intro hkm
      exact k1 k hkm (by rw [hrd]; exact hk)
    · have hw' : wantedS ops (s.out oi.dst zi mi) oj = wantedS ops s oj := wanted_out s a1
      unfold core1
      rw [hw']
      split
      · rename_i hh; exact absurd hh hw
      · rfl
      · rfl
  have e2 : core1 T call own ops i oi (s.out oj.dst zj mj) = some (zi, mi, li) := by
    rw [← hi]
    by_cases hw : wantedS ops s oi = some true
    · refine (core_local (fun x hx => (rd_out s (fun d hd => notSeen_spec n2 d hd x hx)).symm) (wanted_out s a3).symm (fun k hk => ?_)).symm
      have hrd := (lg_md hi).2 hw
      refine (modOb_get? ?_).symm
      rw [← mdj]
      intro hkm
      exact k3 k hkm (by rw [hrd]; exact hk)
    · have hw' : wantedS ops (s.out oj.dst zj mj) oi = wantedS ops s oi := wanted_out s a3
      unfold core1
      rw [hw']
      split
      · rename_i hh; exact absurd hh hw
      · rfl
      · rfl
  exact ⟨e1, e2, out_comm s zi zj mi mj a2 (by rw [← mdi, ← mdj]; exact k2)⟩
end Go.Proofs.YtkgpkalclblhbaaGreatDoor.Eng
