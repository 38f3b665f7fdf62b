/-
  A call, seen from the caller.
-/
import Derived.Test.YtkgpkalclblhbaaGreatDoorS15
namespace Go.Proofs.YtkgpkalclblhbaaGreatDoor.Eng
open Go Go.RowKit
set_option linter.unusedVariables false
set_option linter.unusedSimpArgs false

variable {P : Program} {T : Tab} {N : Nat} {w0 : World} {Mv : Mvp} {Gb Gs : BS} {hd : Nat → Value} {fp : Nat → BS} {s : St} {a : Act} {w w' : World}

/-- The keys of what is handed over, by the parameter's place. -/
def heldAt : Nat → List (Ty × PM) → List V → Nat → Option Nat
  | i, (_, .ln) :: prs, _ :: vs, j => heldAt (i + 1) prs vs j
  | i, (_, .ptr) :: prs, v :: vs, j => if j = i then keyOf v.z else heldAt (i + 1) prs vs j
  | i, (_, .mv) :: prs, v :: vs, j => if j = i then keyOf v.z else heldAt (i + 1) prs vs j
  | i, (_, .io) :: prs, v :: vs, j => if j = i then keyOf v.z else heldAt (i + 1) prs vs j
  | i, (_, .dio) :: prs, v :: vs, j => if j = i then keyOf v.z else heldAt (i + 1) prs vs j
  | _, _, _, _ => none
theorem heldAt_ge : ∀ {prs : List (Ty × PM)} {vs : List V} {i j k : Nat}, heldAt i prs vs j = some k → i ≤ j ∧ j < i + prs.length ∧ k ∈ heldKeys prs vs
  | (t, .ln) :: prs, v :: vs, i, j, k, h => by
    simp only [heldAt] at h
    obtain ⟨h1, h2, h3⟩ := heldAt_ge h
    exact ⟨by omega, by simp; omega, by simpa [heldKeys] using h3⟩
  | (t, .ptr) :: prs, v :: vs, i, j, k, h => by
    simp only [heldAt] at h
    split at h
    · rename_i e; subst e; exact ⟨Nat.le_refl _, by simp, by simp [heldKeys, h]⟩
    · obtain ⟨h1, h2, h3⟩ := heldAt_ge h
      exact ⟨by omega, by simp; omega, by simp [heldKeys, h3]⟩
  | (t, .mv) :: prs, v :: vs, i, j, k, h => by
    simp only [heldAt] at h
    split at h
    · rename_i e; subst e; exact ⟨Nat.le_refl _, by simp, by simp [heldKeys, h]⟩
    · obtain ⟨h1, h2, h3⟩ := heldAt_ge h
      exact ⟨by omega, by simp; omega, by simp [heldKeys, h3]⟩
  | (t, .io) :: prs, v :: vs, i, j, k, h => by
    simp only [heldAt] at h
    split at h
    · rename_i e; subst e; exact ⟨Nat.le_refl _, by simp, by simp [heldKeys, h]⟩
    · obtain ⟨h1, h2, h3⟩ := heldAt_ge h
      exact ⟨by omega, by simp; omega, by simp [heldKeys, h3]⟩
  | (t, .dio) :: prs, v :: vs, i, j, k, h => by
    simp only [heldAt] at h
    split at h
    · rename_i e; subst e; exact ⟨Nat.le_refl _, by simp, by simp [heldKeys, h]⟩
    · obtain ⟨h1, h2, h3⟩ := heldAt_ge h
      exact ⟨by omega, by simp; omega, by simp [heldKeys, h3]⟩
  | [], _, _, _, _, h => by simp [heldAt] at h
  | (t, .ln) :: prs, [], _, _, _, h => by simp [heldAt] at h
  | (t, .ptr) :: prs, [], _, _, _, h => by simp [heldAt] at h
  | (t, .mv) :: prs, [], _, _, _, h => by simp [heldAt] at h
  | (t, .io) :: prs, [], _, _, _, h => by simp [heldAt] at h
  | (t, .dio) :: prs, [], _, _, _, h => by simp [heldAt] at h
theorem noDup_append : ∀ {l r : List Nat}, noDup (l ++ r) = true → noDup l = true ∧ noDup r = true ∧ ∀ k ∈ l, k ∉ r
  | [], r, h => ⟨rfl, h, fun _ h => by simp at h⟩
  | k :: l, r, h => by
    simp only [List.cons_append, noDup, Bool.and_eq_true] at h
    obtain ⟨h1, h2, h3⟩ := noDup_append h.2
    have h4 : k ∉ l ++ r := by have := h.1; simp at this; simp [this]
    simp only [List.mem_append, not_or] at h4
    refine ⟨by simp only [noDup, Bool.and_eq_true]; exact ⟨by simpa using h4.1, h1⟩, h2, fun j hj => ?_⟩
    rcases List.mem_cons.1 hj with rfl | hj
    · exact h4.2
    · exact h3 j hj
theorem heldAt_inj : ∀ {prs : List (Ty × PM)} {vs : List V} {i j j' k : Nat}, noDup (heldKeys prs vs) = true → heldAt i prs vs j = some k → heldAt i prs vs j' = some k → j = j'
  | (t, .ln) :: prs, v :: vs, i, j, j', k, hn, h, h' => by
    simp only [heldAt] at h h'
    exact heldAt_inj (by simpa [heldKeys] using hn) h h'
  | (t, .ptr) :: prs, v :: vs, i, j, j', k, hn, h, h' => by
    simp only [heldAt] at h h'
    simp only [heldKeys] at hn
    obtain ⟨h1, h2, h3⟩ := noDup_append hn
    split at h <;> split at h'
    · omega
    · exact absurd (heldAt_ge h').2.2 (h3 k (by simp [h]))
    · exact absurd (heldAt_ge h).2.2 (h3 k (by simp [h']))
    · exact heldAt_inj h2 h h'
  | (t, .mv) :: prs, v :: vs, i, j, j', k, hn, h, h' => by
    simp only [heldAt] at h h'
    simp only [heldKeys] at hn
    obtain ⟨h1, h2, h3⟩ := noDup_append hn
    split at h <;> split at h'
    · omega
    · exact absurd (heldAt_ge h').2.2 (h3 k (by simp [h]))
    · exact absurd (heldAt_ge h).2.2 (h3 k (by simp [h']))
    · exact heldAt_inj h2 h h'
  | (t, .io) :: prs, v :: vs, i, j, j', k, hn, h, h' => by
    simp only [heldAt] at h h'
    simp only [heldKeys] at hn
    obtain ⟨h1, h2, h3⟩ := noDup_append hn
    split at h <;> split at h'
    · omega
    · exact absurd (heldAt_ge h').2.2 (h3 k (by simp [h]))
    · exact absurd (heldAt_ge h).2.2 (h3 k (by simp [h']))
    · exact heldAt_inj h2 h h'
  | (t, .dio) :: prs, v :: vs, i, j, j', k, hn, h, h' => by
    simp only [heldAt] at h h'
    simp only [heldKeys] at hn
    obtain ⟨h1, h2, h3⟩ := noDup_append hn
    split at h <;> split at h'
    · omega
    · exact absurd (heldAt_ge h').2.2 (h3 k (by simp [h]))
    · exact absurd (heldAt_ge h).2.2 (h3 k (by simp [h']))
    · exact heldAt_inj h2 h h'
  | [], _, _, _, _, _, _, h, _ => by simp [heldAt] at h
  | (t, .ln) :: prs, [], _, _, _, _, _, h, _ => by simp [heldAt] at h
  | (t, .ptr) :: prs, [], _, _, _, _, _, h, _ => by simp [heldAt] at h
  | (t, .mv) :: prs, [], _, _, _, _, _, h, _ => by simp [heldAt] at h
  | (t, .io) :: prs, [], _, _, _, _, _, h, _ => by simp [heldAt] at h
  | (t, .dio) :: prs, [], _, _, _, _, _, h, _ => by simp [heldAt] at h

/-- What is handed over at a place. -/
def argF (fp : Nat → BS) (prs : List (Ty × PM)) (vs : List V) : Nat → BS := fun j b => ∃ k, heldAt 0 prs vs j = some k ∧ fp k b
/-- What the callee may keep parts of. -/
def argG (Gs Gb : BS) (fp : Nat → BS) (tn rf : Bool) (F : Nat → BS) : BS := fun b => Gs b ∨ (tn = true ∨ rf = true) ∧ Gb b ∨ rf = true ∧ (∃ k, fp k b) ∧ ∀ j, ¬ F j b

theorem BoxR.grow {G G' fp fp' : BS} {t : Ty} {x : Den t} {v : Value} (h : BoxR w G t x v fp) (hg : ∀ b, G b → G' b) (hf : ∀ b, fp b → fp' b) : BoxR w G' t x v fp' := h.move hg (fun _ _ => rfl) hf
theorem OwnRow.grow {G G' fp fp' : BS} {e : Ty} {x : List (Den e)} {v : Value} (h : OwnRow w G e x v fp) (hg : ∀ b, G b → G' b) (hf : ∀ b, fp b → fp' b) : OwnRow w G' e x v fp' := h.move hg (fun _ _ => rfl) hf

/-- What variables that are handed over may have parts of. -/
def argG0 (Gs Gb : BS) (tp : Bool) : BS := fun b => Gs b ∨ tp = true ∧ Gb b
/-- What is lent, in what may be looked at. -/
theorem lendV_ok (h : Inv N w0 Mv Gb Gs hd fp s a w) {z : Slot} {v : Value} (hz : SlotR w Gs Gb hd s.ob z v) {tn : Bool} {q : PV} (hq : lendV (viewZ s z) = some (tn, q)) {G : BS}
    (hG : ∀ b, Gof Gs Gb tn b → G b) (hF : ∀ k ∈ lendK (viewZ s z), ∀ b, fp k b → G b) : VRep w G q.t q.x v := by
  unfold lendV at hq
  split at hq
  · rename_i k e x hz' hb'
    simp only [Option.some.injEq, Prod.mk.injEq] at hq
    obtain ⟨rfl, rfl⟩ := hq
    have hk : lendK (viewZ s z) = [k] := by unfold lendK; rw [hz', hb']
    simp only [viewZ] at hz' hb'
    subst hz'
    simp only [obOf, keyOf] at hb'
    simp only [SlotR] at hz
    have h0 := h.obs k
    rw [hb'] at h0
    rw [hz.2]
    exact (DpR.rep h0).move (hF k (by rw [hk]; simp)) (fun _ _ => rfl)
  · rename_i hne
    have hk : lendK (viewZ s z) = (pubM (viewZ s z)).map (·.1) := by
      unfold lendK
      split
      · rename_i k e x h1 h2; exact (hne k e x h1 h2).elim
      · rfl
    rw [hk] at hF
    exact lend_ok h.obs hz hq hG hF
theorem args_rel (h : Inv N w0 Mv Gb Gs hd fp s a w) {G0 G : BS} {F : Nat → BS} : ∀ (prs : List (Ty × PM)) (xs : List Slot) (us : List Value) (i : Nat) {ps : List PV} {tn : Bool}, SlotsR w Gs Gb hd s.ob xs us → argsOf prs (xs.map (viewZ s)) = some (ps, tn) →
    (∀ b, Gs b → G0 b) → (∀ b, tpOf prs (xs.map (viewZ s)) = true → Gb b → G0 b) → (∀ b, Gs b → G b) → (∀ b, tn = true → Gb b → G b) → (∀ k ∈ lentKeys prs (xs.map (viewZ s)), ∀ b, fp k b → G b) → (∀ j k b, heldAt i prs (xs.map (viewZ s)) j = some k → fp k b → F j b) →
    ArgsR w G0 G F i prs ps us
  | [], [], us, i, ps, tn, hzs, h1, _, _, _, _, _, _ => by simp only [SlotsR] at hzs; subst hzs; simp [argsOf] at h1; obtain ⟨rfl, rfl⟩ := h1; trivial
  | [], x :: xs, us, i, ps, tn, _, h1, _, _, _, _, _, _ => by simp [argsOf] at h1
  | pr :: prs, [], us, i, ps, tn, _, h1, _, _, _, _, _, _ => by simp [argsOf] at h1
  | (t, m) :: prs, x :: xs, us, i, ps, tn, hzs, h1, g01, g02, g1, g2, g3, g5 => by
    simp only [SlotsR] at hzs
    obtain ⟨u, us, rfl, hz, hzs⟩ := hzs
    simp only [List.map_cons, argsOf] at h1
    split at h1
    · rename_i p b ps' c hp hps
      simp only [Option.some.injEq, Prod.mk.injEq] at h1
      obtain ⟨rfl, rfl⟩ := h1
      have hG : ∀ c, Gof Gs Gb b c → G c := fun c hc => hc.elim (g1 c) (fun q => g2 c (by simp [q.1]) q.2)
      have rest := args_rel h prs xs us (i + 1) (F := F) (G := G) (G0 := G0) hzs hps g01 (fun b hb => g02 b (by cases m <;> simp [tpOf, hb])) g1 (fun b hb => g2 b (by simp [hb])) (fun k hk => g3 k (by cases m <;> simp [lentKeys, hk]))
        (fun j k b hj hb => g5 j k b (by
          have := (heldAt_ge hj).1
          cases m <;> simp only [List.map_cons, heldAt]
          · exact hj
          · rw [if_neg (by omega)]; exact hj
          · rw [if_neg (by omega)]; exact hj
          · rw [if_neg (by omega)]; exact hj
          · rw [if_neg (by omega)]; exact hj) hb)
      cases m with
      | ln =>
        simp only [argOf] at hp
        split at hp
        · rename_i b' q hq
          split at hp
          · rename_i y hy
            simp only [Option.some.injEq, Prod.mk.injEq] at hp
            obtain ⟨rfl, rfl⟩ := hp
            refine ⟨rfl, ?_, rest⟩
            simp only
            exact VRep.to' (lendV_ok h hz hq hG (fun k hk b hb => g3 k (by simp only [List.map_cons, lentKeys]; exact List.mem_append_left _ hk) b hb)) hy
          · cases hp
        · cases hp
      | ptr =>
        simp only [argOf] at hp
        split at hp
        · rename_i k tn' t' y hz' hb'
          split at hp
          · rename_i ht
            simp only [Option.some.injEq, Prod.mk.injEq] at hp
            obtain ⟨rfl, rfl⟩ := hp
            refine ⟨ht, ?_, rest⟩
            simp only [viewZ] at hz' hb'
            rw [hz'] at hz hb'
            simp only [obOf, keyOf] at hb'
            simp only [SlotR] at hz
            obtain ⟨bl, o', e1, e2⟩ := hz.2 t' (by rw [hb']; rfl)
            have h0 := h.obs k
            rw [hb'] at h0
            have hv : u = hd k := by rw [e2, e1]; simp [pathOff]
            simp only
            rw [hv]
            exact BoxR.grow h0 (fun c hc => hc.elim (g01 c) (fun q => g02 c (by simp only [List.map_cons, tpOf, viewZ, hz']; simp only [obOf, keyOf, hb', q.1, Bool.true_or]) q.2)) (g5 i k · (by simp only [List.map_cons, heldAt, if_true, viewZ, hz', keyOf]))
          · cases hp
        · cases hp
      | mv =>
        simp only [argOf] at hp
        split at hp
        · rename_i k tn' nx e y hz' hb'
          split at hp
          · rename_i ht
            simp only [Option.some.injEq, Prod.mk.injEq] at hp
            obtain ⟨rfl, rfl⟩ := hp
            refine ⟨ht.symm, ⟨e, y, rfl, ?_⟩, rest⟩
            simp only [viewZ] at hz' hb'
            rw [hz'] at hz hb'
            simp only [obOf, keyOf] at hb'
            simp only [SlotR] at hz
            have h0 := h.obs k
            rw [hb'] at h0
            show OwnRow w G e y (u) (F i)
            rw [hz.2]
            exact OwnRow.grow h0.1 hG (g5 i k · (by simp only [List.map_cons, heldAt, if_true, viewZ, hz', keyOf]))
          · cases hp
        · cases hp
      | dio =>
        simp only [argOf] at hp
        split at hp
        · rename_i k e y hz' hb'
          split at hp
          · rename_i ht
            simp only [Option.some.injEq, Prod.mk.injEq] at hp
            obtain ⟨rfl, rfl⟩ := hp
            refine ⟨ht.symm, ⟨e, y, rfl, ?_⟩, rest⟩
            simp only [viewZ] at hz' hb'
            rw [hz'] at hz hb'
            simp only [obOf, keyOf] at hb'
            simp only [SlotR] at hz
            have h0 := h.obs k
            rw [hb'] at h0
            show DpR w e y u (F i)
            rw [hz.2]
            exact DpR.move h0 (fun _ _ => rfl) (g5 i k · (by simp only [List.map_cons, heldAt, if_true, viewZ, hz', keyOf]))
          · cases hp
        · cases hp
      | io =>
        simp only [argOf] at hp
        split at hp
        · rename_i k tn' nx e y hz' hb'
          split at hp
          · rename_i ht
            simp only [Option.some.injEq, Prod.mk.injEq] at hp
            obtain ⟨rfl, rfl⟩ := hp
            refine ⟨ht.1.symm, ⟨e, y, rfl, ?_⟩, rest⟩
            simp only [viewZ] at hz' hb'
            rw [hz'] at hz hb'
            simp only [obOf, keyOf] at hb'
            simp only [SlotR] at hz
            have h0 := h.obs k
            rw [hb'] at h0
            show OwnRow w G e y (u) (F i)
            rw [hz.2]
            exact OwnRow.grow h0.1 hG (g5 i k · (by simp only [List.map_cons, heldAt, if_true, viewZ, hz', keyOf]))
          · cases hp
        · rename_i k tn' e y hz' hb'
          split at hp
          · rename_i ht
            simp only [Option.some.injEq, Prod.mk.injEq] at hp
            obtain ⟨rfl, rfl⟩ := hp
            refine ⟨ht.1.symm, ⟨e, y, rfl, ?_⟩, rest⟩
            simp only [viewZ] at hz' hb'
            rw [hz'] at hz hb'
            simp only [obOf, keyOf] at hb'
            simp only [SlotR] at hz
            have h0 := h.obs k
            rw [hb'] at h0
            show OwnRow w G e y (u) (F i)
            rw [hz.2]
            exact OwnRow.grow h0 hG (g5 i k · (by simp only [List.map_cons, heldAt, if_true, viewZ, hz', keyOf]))
          · cases hp
        · cases hp
    · cases h1
theorem tp_tn : ∀ {prs : List (Ty × PM)} {vs : List V} {ps : List PV} {tn : Bool}, argsOf prs vs = some (ps, tn) → tpOf prs vs = true → tn = true
  | [], [], _, _, _, h => by simp [tpOf] at h
  | [], _ :: _, _, _, h1, _ => by simp [argsOf] at h1
  | _ :: _, [], _, _, h1, _ => by simp [argsOf] at h1
  | (t, m) :: prs, v :: vs, ps, tn, h1, h => by
    simp only [argsOf] at h1
    split at h1
    · rename_i p b ps' c hp hps
      simp only [Option.some.injEq, Prod.mk.injEq] at h1
      obtain ⟨_, rfl⟩ := h1
      cases m with
      | ptr =>
        simp only [tpOf, Bool.or_eq_true] at h
        rcases h with h | h
        · simp only [argOf] at hp
          split at hp
          · rename_i k tn' t' y hz' hb'
            split at hp
            · cases hp
              rw [hb'] at h
              simp only at h
              simp [h]
            · cases hp
          · cases hp
        · simp [tp_tn hps h]
      | _ => simp only [tpOf] at h; simp [tp_tn hps h]
    · cases h1
/-- The callee is handed what it may be handed. -/
theorem good_args (h : Inv N w0 Mv Gb Gs hd fp s a w) {f : FnT} {xs : List Slot} {us : List Value} {ps : List PV} {tn : Bool} (hz : SlotsR w Gs Gb hd s.ob xs us) (hone : oneG f.pg us) (ha : argsOf f.pars (xs.map (viewZ s)) = some (ps, tn)) (hn : noDup (heldKeys f.pars (xs.map (viewZ s))) = true)
    (hdj : disj (lentKeys f.pars (xs.map (viewZ s))) (heldKeys f.pars (xs.map (viewZ s))) = true) :
    GoodArgs w (argG0 Gs Gb (tpOf f.pars (xs.map (viewZ s)))) (argG Gs Gb fp tn (!(lentKeys f.pars (xs.map (viewZ s))).isEmpty) (argF fp f.pars (xs.map (viewZ s)))) (argF fp f.pars (xs.map (viewZ s))) f ps us := by
  have hsz : N ≤ w.heap.size := by have := h.le; have := h.ev.size; omega
  refine ⟨args_rel h f.pars xs us 0 hz ha (fun b hb => .inl hb) (fun b ht hb => .inr ⟨ht, hb⟩) (fun b hb => .inl hb) (fun b ht hb => .inr (.inl ⟨.inl ht, hb⟩)) (fun k hk b hb => .inr (.inr ⟨?_, ⟨k, hb⟩, ?_⟩)) (fun j k b hj hb => ⟨k, hj, hb⟩), ?_, ?_, ?_, ?_, ?_, hone⟩
  · cases hl : lentKeys f.pars (xs.map (viewZ s)) with
    | nil => rw [hl] at hk; simp at hk
    | cons _ _ => rfl
  · rintro j ⟨k', hk', hb'⟩
    have := h.disj k k' b hb hb'
    subst this
    have h2 := (heldAt_ge hk').2.2
    unfold disj at hdj
    rw [List.all_eq_true] at hdj
    have := hdj k hk
    simp at this
    exact this h2
  · rintro b (hb | ⟨ht, hb⟩)
    · exact .inl hb
    · exact .inr (.inl ⟨.inl (tp_tn ha ht), hb⟩)
  · rintro i b ⟨k, hk, hb⟩
    obtain ⟨o1, o2, o3, o4⟩ := h.own k b hb
    refine ⟨o1, ?_⟩
    rintro (hh | ⟨_, hh⟩ | ⟨_, _, hh⟩)
    · exact o3 hh
    · exact o4 hh
    · exact hh i ⟨k, hk, hb⟩
  · rintro i j b ⟨k, hk, hb⟩ ⟨k', hk', hb'⟩
    have := h.disj k k' b hb hb'
    subst this
    exact heldAt_inj hn hk hk'
  · rintro b (hh | ⟨_, hh⟩ | ⟨_, ⟨k, hh⟩, _⟩)
    · exact (h.gs b hh).1
    · have := (h.gb b hh).1; omega
    · exact (h.own k b hh).1
  · rintro i b ⟨k, hk, hb⟩
    have := heldAt_ge hk
    omega
end Go.Proofs.YtkgpkalclblhbaaGreatDoor.Eng
