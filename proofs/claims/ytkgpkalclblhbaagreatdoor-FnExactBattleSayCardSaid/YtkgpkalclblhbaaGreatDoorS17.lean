/-
  Behind a call.
-/
import Derived.Test.YtkgpkalclblhbaaGreatDoorS16
namespace Go.Proofs.YtkgpkalclblhbaaGreatDoor.Eng
open Go Go.RowKit
set_option linter.unusedVariables false
set_option linter.unusedSimpArgs false

variable {P : Program} {T : Tab} {N : Nat} {w0 : World} {Mv : Mvp} {Gb Gs : BS} {hd : Nat → Value} {fp : Nat → BS} {s : St} {a : Act} {w w' : World}

theorem modOb_len : ∀ (m : List (Nat × Ob)) (l : List Ob), (modOb l m).length = l.length
  | [], _ => rfl
  | (k, b) :: r, l => by simp [modOb, modOb_len r l]
theorem modOb_not : ∀ {m : List (Nat × Ob)} {l : List Ob} {k : Nat} (d : Ob), k ∉ m.map (·.1) → (modOb l m).getD k d = l.getD k d
  | [], _, _, _, _ => rfl
  | (j, b) :: r, l, k, d, h => by
    simp only [List.map_cons, List.mem_cons, not_or] at h
    simp only [modOb]
    rw [getD_set_ne' _ _ _ h.1]
    exact modOb_not d h.2
theorem modOb_mem : ∀ {m : List (Nat × Ob)} {l : List Ob} {k : Nat} {b : Ob} (d : Ob), noDup (m.map (·.1)) = true → (k, b) ∈ m → k < l.length → (modOb l m).getD k d = b
  | [], _, _, _, _, _, h, _ => by simp at h
  | (j, c) :: r, l, k, b, d, hn, h, hk => by
    simp only [List.map_cons, noDup, Bool.and_eq_true] at hn
    simp only [modOb]
    rcases List.mem_cons.1 h with h1 | h1
    · cases h1
      rw [getD_set_self, modOb_len, if_pos hk]
    · have hne : k ≠ j := by
        rintro rfl
        have := hn.1
        simp at this
        exact this b h1
      rw [getD_set_ne' _ _ _ hne]
      exact modOb_mem d hn.2 h1 hk
theorem key_lt {l : List Ob} {k : Nat} (h : l.getD k .none ≠ .none) : k < l.length := by
  rcases Nat.lt_or_ge k l.length with h' | h'
  · exact h'
  · rw [List.getD_eq_getElem?_getD, List.getElem?_eq_none h'] at h; exact absurd rfl h

/-- What has become of one thing that was handed over at place j. -/
def BehR (w' : World) (s : St) (Gp G : BS) (hd : Nat → Value) (F : Nat → BS) (prs : List (Ty × PM)) (tp : Bool) (i : Nat) (kb : Nat × Ob) (j : Nat) : Prop :=
  (kb.2 = .gone ∧ isNone (s.ob.getD kb.1 .none) = false ∧ obBox (s.ob.getD kb.1 .none) = false) ∨
  (∃ t y, kb.2 = .box (tp && !flat t) t y ∧ obShape (s.ob.getD kb.1 .none) = some (true, t) ∧ PtrAt prs (j - i) ∧ BoxR w' Gp t y (hd kb.1) (F j)) ∨
  (∃ e y, ((kb.2 = .sl false false e y ∧ obBox (s.ob.getD kb.1 .none) = false) ∨ kb.2 = .io false e y) ∧ obShape (s.ob.getD kb.1 .none) = some (false, e) ∧ PtrAt prs (j - i) ∧ flat e = true ∧ OwnRow w' G e y (hd kb.1) (F j)) ∨
  (∃ e y, kb.2 = .dp e y ∧ obBox (s.ob.getD kb.1 .none) = false ∧ obShape (s.ob.getD kb.1 .none) = some (false, e) ∧ PtrAt prs (j - i) ∧ DpR w' e y (hd kb.1) (F j))
theorem ptrAt_cons {pr : Ty × PM} {prs : List (Ty × PM)} {i j : Nat} (h : PtrAt prs (j - (i + 1))) (hj : i + 1 ≤ j) : PtrAt (pr :: prs) (j - i) := by
  obtain ⟨t, m, h1, h2⟩ := h
  exact ⟨t, m, by rw [show j - i = (j - (i + 1)) + 1 by omega]; simpa using h1, h2⟩
theorem BehR.cons {w' : World} {s : St} {Gp G : BS} {hd : Nat → Value} {F : Nat → BS} {pr : Ty × PM} {prs : List (Ty × PM)} {tp : Bool} {i : Nat} {kb : Nat × Ob} {j : Nat} (h : BehR w' s Gp G hd F prs tp (i + 1) kb j) (hj : i + 1 ≤ j) : BehR w' s Gp G hd F (pr :: prs) tp i kb j := by
  rcases h with h | ⟨t, y, e1, e2, e3, e4⟩ | ⟨e, y, e1, e2, e3, e4, e5⟩ | ⟨e, y, e1, e2, e3, e4, e5⟩
  · exact .inl h
  · exact .inr (.inl ⟨t, y, e1, e2, ptrAt_cons e3 hj, e4⟩)
  · exact .inr (.inr (.inl ⟨e, y, e1, e2, ptrAt_cons e3 hj, e4, e5⟩))
  · exact .inr (.inr (.inr ⟨e, y, e1, e2, e3, ptrAt_cons e4 hj, e5⟩))
/-- What becomes of what was handed over. -/
theorem boxMods_spec {tp : Bool} {Gp G : BS} {F : Nat → BS} (h : Inv N w0 Mv Gb Gs hd fp s a w) : ∀ (prs : List (Ty × PM)) (xs : List Slot) (us : List Value) (i : Nat) {ps : List PV} {bs : List (Nat × Ob)} {qs : List PV} {tn0 : Bool}, SlotsR w Gs Gb hd s.ob xs us → argsOf prs (xs.map (viewZ s)) = some (qs, tn0) →
    boxMods tp prs (xs.map (viewZ s)) ps = some bs → PtrsR w' Gp G F i prs us ps →
    bs.map (·.1) = heldKeys prs (xs.map (viewZ s)) ∧ ∀ kb ∈ bs, ∃ j, heldAt i prs (xs.map (viewZ s)) j = some kb.1 ∧ BehR w' s Gp G hd F prs tp i kb j
  | [], [], us, i, ps, bs, qs, tn0, _, _, hb, _ => by
    cases ps with
    | nil => simp [boxMods] at hb; subst hb; exact ⟨rfl, fun kb h => by simp at h⟩
    | cons _ _ => simp [boxMods] at hb
  | [], x :: xs, us, i, ps, bs, qs, tn0, _, ha, _, _ => by simp [argsOf] at ha
  | pr :: prs, [], us, i, ps, bs, qs, tn0, _, ha, _, _ => by simp [argsOf] at ha
  | (t, .ln) :: prs, x :: xs, us, i, ps, bs, qs, tn0, hzs, ha, hb, hp => by
    simp only [SlotsR] at hzs
    obtain ⟨u, us, rfl, hzz, hzs⟩ := hzs
    simp only [List.map_cons, argsOf] at ha
    split at ha
    · rename_i _ _ _ _ _ hps
      simp only [List.map_cons, boxMods] at hb
      simp only [List.map_cons, PtrsR] at hp
      obtain ⟨h1, h2⟩ := boxMods_spec h prs xs us (i + 1) hzs hps hb hp
      refine ⟨by simp only [List.map_cons, heldKeys]; exact h1, fun kb hk => ?_⟩
      obtain ⟨j, h3, h4⟩ := h2 kb hk
      exact ⟨j, by simp only [List.map_cons, heldAt]; exact h3, h4.cons (heldAt_ge h3).1⟩
    · cases ha
  | (t, .ptr) :: prs, x :: xs, us, i, ps, bs, qs, tn0, hzs, ha, hb, hp => by
    simp only [SlotsR] at hzs
    obtain ⟨u, us, rfl, hzz, hzs⟩ := hzs
    simp only [List.map_cons, argsOf] at ha
    split at ha
    · rename_i _ _ _ _ hq hps
      cases ps with
      | nil => simp [boxMods] at hb
      | cons p ps =>
        simp only [List.map_cons, boxMods] at hb
        simp only [List.map_cons, PtrsR] at hp
        split at hb
        · rename_i k path y r hz hy hr
          split at hb
          · rename_i hc
            cases hb
            obtain ⟨h1, h2⟩ := boxMods_spec h prs xs us (i + 1) hzs hps hr hp.2.2
            simp only [argOf] at hq
            split at hq
            · rename_i k' tn' t' y' hz' hb'
              split at hq
              · rename_i ht
                rw [hz'] at hz
                cases hz
                simp only [viewZ] at hz' hb'
                rw [hz'] at hzz hb'
                simp only [obOf, keyOf] at hb'
                simp only [SlotR] at hzz
                obtain ⟨bl, o', e1, e2⟩ := hzz.2 t' (by rw [hb']; rfl)
                have hv : u = hd k := by rw [e2, e1]; simp [pathOff]
                refine ⟨by simp only [List.map_cons, heldKeys, viewZ, hz', keyOf, Option.toList]; rw [h1]; rfl, fun kb hk => ?_⟩
                rcases List.mem_cons.1 hk with rfl | hk
                · refine ⟨i, by simp only [List.map_cons, heldAt, if_true, viewZ, hz', keyOf], .inr (.inl ⟨t, y, rfl, by rw [hb']; simp [obShape, ht], ⟨t, .ptr, by simp, rfl⟩, ?_⟩)⟩
                  have hbx := hp.2.1
                  rw [hv] at hbx
                  obtain ⟨pt, px⟩ := p
                  simp only at hc hy hbx
                  subst hc
                  simp [PV.to] at hy
                  subst hy
                  exact hbx
                · obtain ⟨j, h3, h4⟩ := h2 kb hk
                  have := (heldAt_ge h3).1
                  exact ⟨j, by simp only [List.map_cons, heldAt]; rw [if_neg (by omega)]; exact h3, h4.cons this⟩
              · cases hq
            · cases hq
          · cases hb
        · cases hb
    · cases ha
  | (t, .io) :: prs, x :: xs, us, i, ps, bs, qs, tn0, hzs, ha, hb, hp => by
    simp only [SlotsR] at hzs
    obtain ⟨u, us, rfl, hzz, hzs⟩ := hzs
    simp only [List.map_cons, argsOf] at ha
    split at ha
    · rename_i _ _ _ _ hq hps
      cases ps with
      | nil => simp [boxMods] at hb
      | cons p ps =>
        simp only [List.map_cons, boxMods] at hb
        simp only [List.map_cons, PtrsR] at hp
        split at hb
        · rename_i k e y r hz hr
          split at hb
          · rename_i hc
            cases hb
            obtain ⟨h1, h2⟩ := boxMods_spec h prs xs us (i + 1) hzs hps hr hp.2.2
            simp only [argOf] at hq
            split at hq
            · rename_i k' tn' nx' e' y' hz' hb'
              split at hq
              · rename_i ht
                rw [hz'] at hz
                cases hz
                have hee : e' = e := by
                  have := ht.1.symm.trans hc.1
                  cases this
                  rfl
                subst hee
                have eb : ioBack (viewZ s x).b e' y = .sl false false e' y := by rw [hb']; rfl
                rw [eb]
                simp only [viewZ] at hz' hb'
                rw [hz'] at hzz hb'
                simp only [obOf, keyOf] at hb'
                simp only [SlotR] at hzz
                refine ⟨by simp only [List.map_cons, heldKeys, viewZ, hz', keyOf, Option.toList]; rw [h1]; rfl, fun kb hk => ?_⟩
                rcases List.mem_cons.1 hk with rfl | hk
                · refine ⟨i, by simp only [List.map_cons, heldAt, if_true, viewZ, hz', keyOf], .inr (.inr (.inl ⟨e', y, .inl ⟨rfl, by rw [hb']; rfl⟩, by rw [hb']; rfl, ⟨t, .io, by simp, rfl⟩, hc.2, ?_⟩))⟩
                  obtain ⟨e2, x2, hpe, hrow⟩ := hp.2.1
                  cases hpe
                  rw [hzz.2] at hrow
                  exact hrow
                · obtain ⟨j, h3, h4⟩ := h2 kb hk
                  have := (heldAt_ge h3).1
                  exact ⟨j, by simp only [List.map_cons, heldAt]; rw [if_neg (by omega)]; exact h3, h4.cons this⟩
              · cases hq
            · rename_i k' tn' e' y' hz' hb'
              split at hq
              · rename_i ht
                rw [hz'] at hz
                cases hz
                have hee : e' = e := by
                  have := ht.1.symm.trans hc.1
                  cases this
                  rfl
                subst hee
                have eb : ioBack (viewZ s x).b e' y = .io false e' y := by rw [hb']; rfl
                rw [eb]
                simp only [viewZ] at hz' hb'
                rw [hz'] at hzz hb'
                simp only [obOf, keyOf] at hb'
                simp only [SlotR] at hzz
                refine ⟨by simp only [List.map_cons, heldKeys, viewZ, hz', keyOf, Option.toList]; rw [h1]; rfl, fun kb hk => ?_⟩
                rcases List.mem_cons.1 hk with rfl | hk
                · refine ⟨i, by simp only [List.map_cons, heldAt, if_true, viewZ, hz', keyOf], .inr (.inr (.inl ⟨e', y, .inr rfl, by rw [hb']; rfl, ⟨t, .io, by simp, rfl⟩, hc.2, ?_⟩))⟩
                  obtain ⟨e2, x2, hpe, hrow⟩ := hp.2.1
                  cases hpe
                  rw [hzz.2] at hrow
                  exact hrow
                · obtain ⟨j, h3, h4⟩ := h2 kb hk
                  have := (heldAt_ge h3).1
                  exact ⟨j, by simp only [List.map_cons, heldAt]; rw [if_neg (by omega)]; exact h3, h4.cons this⟩
              · cases hq
            · cases hq
          · cases hb
        · cases hb
    · cases ha
  | (t, .dio) :: prs, x :: xs, us, i, ps, bs, qs, tn0, hzs, ha, hb, hp => by
    simp only [SlotsR] at hzs
    obtain ⟨u, us, rfl, hzz, hzs⟩ := hzs
    simp only [List.map_cons, argsOf] at ha
    split at ha
    · rename_i _ _ _ _ hq hps
      cases ps with
      | nil => simp [boxMods] at hb
      | cons p ps =>
        simp only [List.map_cons, boxMods] at hb
        simp only [List.map_cons, PtrsR] at hp
        split at hb
        · rename_i k e y r hz hr
          split at hb
          · rename_i hc
            cases hb
            obtain ⟨h1, h2⟩ := boxMods_spec h prs xs us (i + 1) hzs hps hr hp.2.2
            simp only [argOf] at hq
            split at hq
            · rename_i k' e' y' hz' hb'
              split at hq
              · rename_i ht
                rw [hz'] at hz
                cases hz
                have hee : e' = e := by
                  have := ht.symm.trans hc
                  cases this
                  rfl
                subst hee
                simp only [viewZ] at hz' hb'
                rw [hz'] at hzz hb'
                simp only [obOf, keyOf] at hb'
                simp only [SlotR] at hzz
                refine ⟨by simp only [List.map_cons, heldKeys, viewZ, hz', keyOf, Option.toList]; rw [h1]; rfl, fun kb hk => ?_⟩
                rcases List.mem_cons.1 hk with rfl | hk
                · refine ⟨i, by simp only [List.map_cons, heldAt, if_true, viewZ, hz', keyOf], .inr (.inr (.inr ⟨e', y, rfl, by rw [hb']; rfl, by rw [hb']; rfl, ⟨t, .dio, by simp, rfl⟩, ?_⟩))⟩
                  obtain ⟨e2, x2, hpe, hrow⟩ := hp.2.1
                  cases hpe
                  rw [hzz.2] at hrow
                  exact hrow
                · obtain ⟨j, h3, h4⟩ := h2 kb hk
                  have := (heldAt_ge h3).1
                  exact ⟨j, by simp only [List.map_cons, heldAt]; rw [if_neg (by omega)]; exact h3, h4.cons this⟩
              · cases hq
            · cases hq
          · cases hb
        · cases hb
    · cases ha
  | (t, .mv) :: prs, x :: xs, us, i, ps, bs, qs, tn0, hzs, ha, hb, hp => by
    simp only [SlotsR] at hzs
    obtain ⟨u, us, rfl, hzz, hzs⟩ := hzs
    simp only [List.map_cons, argsOf] at ha
    split at ha
    · rename_i _ _ _ _ hq hps
      simp only [List.map_cons, boxMods] at hb
      simp only [List.map_cons, PtrsR] at hp
      split at hb
      · rename_i k r hz hr
        cases hb
        obtain ⟨h1, h2⟩ := boxMods_spec h prs xs us (i + 1) hzs hps hr hp
        simp only [argOf] at hq
        split at hq
        · rename_i k' tn' nx e y hz' hb'
          have hkk : k' = k := by rw [hz'] at hz; simpa [keyOf] using hz
          subst hkk
          simp only [viewZ] at hz' hb'
          rw [hz'] at hb'
          simp only [obOf, keyOf] at hb'
          refine ⟨by simp only [List.map_cons, heldKeys, viewZ, hz', keyOf, Option.toList]; rw [h1]; rfl, fun kb hk => ?_⟩
          rcases List.mem_cons.1 hk with rfl | hk
          · exact ⟨i, by simp only [List.map_cons, heldAt, if_true, viewZ, hz', keyOf], .inl ⟨rfl, by rw [hb']; rfl, by rw [hb']; rfl⟩⟩
          · obtain ⟨j, h3, h4⟩ := h2 kb hk
            have := (heldAt_ge h3).1
            exact ⟨j, by simp only [List.map_cons, heldAt]; rw [if_neg (by omega)]; exact h3, h4.cons this⟩
        · cases hq
      · cases hb
    · cases ha

/-- The state behind a call, the results left aside. -/
theorem Inv.behind (h : Inv N w0 Mv Gb Gs hd fp s a w) {prs : List (Ty × PM)} {vs : List V} {tp : Bool} {Gs' G2 : BS} {bs : List (Nat × Ob)} (hn : noDup (heldKeys prs vs) = true) (hk : bs.map (·.1) = heldKeys prs vs)
    (hb : ∀ kb ∈ bs, ∃ j, heldAt 0 prs vs j = some kb.1 ∧ BehR w' s Gs' G2 hd (argF fp prs vs) prs tp 0 kb j)
    (hev : Ev w.heap.size (fun b => ∃ i, argF fp prs vs i b) w w') (hgs : ∀ b, Gs' b → b < w'.heap.size ∧ (w.heap.size ≤ b ∨ (∃ i, argF fp prs vs i b) ∨ argG0 Gs Gb tp b) ∧ ∀ i, PtrAt prs i → ¬ argF fp prs vs i b) :
    Inv N w0 Mv Gb (fun b => Gs b ∨ (Gs' b ∧ (w.heap.size ≤ b ∨ ∃ i, argF fp prs vs i b))) hd (fun k b => fp k b ∧ ∀ kb ∈ bs, kb.1 = k → kb.2 ≠ .gone) ⟨s.sl, modOb s.ob bs⟩ a w' := by
  have hnd : noDup (bs.map (·.1)) = true := by rw [hk]; exact hn
  have hle := h.le
  have hes := h.ev.size
  have same : ∀ b, b < w.heap.size → (¬ ∃ i, argF fp prs vs i b) → w'.heap[b]? = w.heap[b]? := hev.block
  have e1 : ∀ b, Gs b ∨ Gb b → w'.heap[b]? = w.heap[b]? := fun b hb => by
    refine same b ?_ ?_
    · rcases hb with hb | hb
      · exact (h.gs b hb).1
      · have := (h.gb b hb).1; omega
    · rintro ⟨i, k, _, hf⟩
      have := h.own k b hf
      exact hb.elim this.2.2.1 this.2.2.2
  have e2 : ∀ k b, k ∉ bs.map (·.1) → fp k b → w'.heap[b]? = w.heap[b]? := fun k b hkn hf => by
    refine same b (h.own k b hf).1 ?_
    rintro ⟨i, k', hk', hf'⟩
    have := h.disj k k' b hf hf'
    subst this
    rw [hk] at hkn
    exact hkn (heldAt_ge hk').2.2
  have lt : ∀ kb ∈ bs, kb.1 < s.ob.length := fun kb hkb => by
    obtain ⟨j, _, h2⟩ := hb kb hkb
    refine key_lt ?_
    rcases h2 with ⟨_, h2, _⟩ | ⟨t, y, _, h2, _⟩ | ⟨e, y, _, h2, _⟩ | ⟨e, y, _, _, h2, _⟩
    · intro hh; rw [hh] at h2; cases h2
    · intro hh; rw [hh] at h2; cases h2
    · intro hh; rw [hh] at h2; cases h2
    · intro hh; rw [hh] at h2; cases h2
  have mine : ∀ b, (w.heap.size ≤ b ∨ ∃ i, argF fp prs vs i b) → N ≤ b ∨ Mv b := fun b hb => by
    rcases hb with hb | ⟨i, k, _, hf⟩
    · left; omega
    · exact (h.own k b hf).2.1
  have hkk : ∀ k, isNone (s.ob.getD k .none) = false → isNone ((modOb s.ob bs).getD k .none) = false ∧ hd k = hd k ∧ (∀ r, obShape ((modOb s.ob bs).getD k .none) = some r → obShape (s.ob.getD k .none) = some r) := fun k hk0 => by
    by_cases hm : k ∈ bs.map (·.1)
    · obtain ⟨kb, hkb, rfl⟩ := List.mem_map.1 hm
      have := modOb_mem (l := s.ob) (b := kb.2) .none hnd hkb (lt kb hkb)
      simp only [this]
      obtain ⟨j, _, h2⟩ := hb kb hkb
      rcases h2 with ⟨h2, _⟩ | ⟨t, y, h2, h3, _⟩ | ⟨e, y, ⟨h2, _⟩ | h2, h3, _⟩ | ⟨e, y, h2, _, h3, _⟩
      · rw [h2]; exact ⟨rfl, trivial, fun r hr => by cases hr⟩
      · rw [h2]; exact ⟨rfl, trivial, fun r hr => by rw [h3]; exact hr⟩
      · rw [h2]; exact ⟨rfl, trivial, fun r hr => by rw [h3]; exact hr⟩
      · rw [h2]; exact ⟨rfl, trivial, fun r hr => by rw [h3]; exact hr⟩
      · rw [h2]; exact ⟨rfl, trivial, fun r hr => by rw [h3]; exact hr⟩
    · simp only [modOb_not .none hm]; exact ⟨hk0, trivial, fun _ x => x⟩
  refine ⟨⟨hev.os.trans h.ev.os, hev.tape.trans h.ev.tape, hev.output.trans h.ev.output, Nat.le_trans hes hev.size, fun b hN hM => ?_⟩, hle, h.len, fun i => slot_move (fun _ x => .inl x) e1 hkk (fun _ h => h) _ _ (h.slots i), fun k => ?_, fun k b hf => ?_, fun k j b hi hj => h.disj k j b hi.1 hj.1, fun b hb' => ?_, h.gb, fun k v F hp => ?_, h.fix, by simp only [modOb_len]; exact h.small, h.reg.move (fun _ x => .inl x) (fun b hb => e1 b (.inl hb)) (fun _ h => h)⟩
  rotate_right
  · obtain ⟨p1, p2, p3⟩ := h.pin k v F hp
    by_cases hm : k ∈ bs.map (·.1)
    · obtain ⟨kb, hkb, rfl⟩ := List.mem_map.1 hm
      have hg := modOb_mem (l := s.ob) (b := kb.2) .none hnd hkb (lt kb hkb)
      obtain ⟨j, _, h2⟩ := hb kb hkb
      have alive : kb.2 ≠ .gone ∧ obBox kb.2 = true := by
        rcases h2 with ⟨_, _, h2⟩ | ⟨t, y, h2, h3, _⟩ | ⟨e, y, ⟨_, h2⟩ | h2, _⟩ | ⟨e, y, _, h2, _⟩
        · rw [h2] at p1; cases p1
        · rw [h2]; exact ⟨(by intro hh; cases hh), rfl⟩
        · rw [h2] at p1; cases p1
        · rw [h2]; exact ⟨(by intro hh; cases hh), rfl⟩
        · rw [h2] at p1; cases p1
      · refine ⟨by simp only [hg]; exact alive.2, p2, fun b => ⟨fun hh => (p3 b).1 hh.1, fun hh => ⟨(p3 b).2 hh, fun kb' hkb' e => ?_⟩⟩⟩
        have := modOb_mem (l := s.ob) (b := kb'.2) .none hnd hkb' (lt kb' hkb')
        rw [e, hg] at this
        rw [← this]
        exact alive.1
    · refine ⟨by simp only [modOb_not .none hm]; exact p1, p2, fun b => ⟨fun hh => (p3 b).1 hh.1, fun hh => ⟨(p3 b).2 hh, fun kb hkb e => absurd (List.mem_map.2 ⟨kb, hkb, e⟩) hm⟩⟩⟩
  · rw [same b (by omega) (by rintro ⟨i, k, _, hf⟩; exact (h.own k b hf).2.1.elim (by omega) hM)]
    exact h.ev.block b hN hM
  · by_cases hm : k ∈ bs.map (·.1)
    · obtain ⟨kb, hkb, rfl⟩ := List.mem_map.1 hm
      have := modOb_mem (l := s.ob) (b := kb.2) .none hnd hkb (lt kb hkb)
      simp only [this]
      obtain ⟨j, hj, h2⟩ := hb kb hkb
      rcases h2 with ⟨h2, _⟩ | ⟨t, y, h2, h3, h4, h5⟩ | ⟨e, y, h2, h3, h4, h6, h7⟩ | ⟨e, y, h2, _, h3, h4, h5⟩
      · rw [h2]; trivial
      · rw [h2]
        show BoxR _ _ _ _ _ _
        have hfp : ∀ b, argF fp prs vs j b → fp kb.1 b ∧ ∀ kb' ∈ bs, kb'.1 = kb.1 → kb'.2 ≠ .gone := by
          rintro b ⟨k', hk', hf⟩
          rw [hj] at hk'
          cases hk'
          refine ⟨hf, fun kb' hkb' e => ?_⟩
          have := modOb_mem (l := s.ob) (b := kb'.2) .none hnd hkb' (lt kb' hkb')
          rw [e] at this
          have h8 := modOb_mem (l := s.ob) (b := kb.2) .none hnd hkb (lt kb hkb)
          rw [h8] at this
          rw [← this, h2]
          intro hh; cases hh
        cases hf : flat t with
        | true =>
          obtain ⟨b, o, cs, g1, g2, g3, g4, g5⟩ := h5
          exact ⟨b, o, cs, g1, hfp b g2, g3.anyw hf _ _, g4, g5⟩
        | false =>
          refine h5.grow ?_ hfp
          intro c hc
          rcases (hgs c hc).2.1 with hq | hq | hq | hq
          · exact .inl (.inr ⟨hc, .inl hq⟩)
          · exact .inl (.inr ⟨hc, .inr hq⟩)
          · exact .inl (.inl hq)
          · exact .inr ⟨by simp [hq.1], hq.2⟩
      · have hng : kb.2 ≠ .gone := by
          rcases h2 with ⟨h2, _⟩ | h2 <;> rw [h2] <;> intro hh <;> cases hh
        have hfp : ∀ b, argF fp prs vs j b → fp kb.1 b ∧ ∀ kb' ∈ bs, kb'.1 = kb.1 → kb'.2 ≠ .gone := by
          rintro b ⟨k', hk', hf⟩
          rw [hj] at hk'
          cases hk'
          refine ⟨hf, fun kb' hkb' e => ?_⟩
          have := modOb_mem (l := s.ob) (b := kb'.2) .none hnd hkb' (lt kb' hkb')
          rw [e] at this
          have h8 := modOb_mem (l := s.ob) (b := kb.2) .none hnd hkb (lt kb hkb)
          rw [h8] at this
          rw [← this]
          exact hng
        have hrow : ∀ tn, OwnRow w' (Gof (fun b => Gs b ∨ (Gs' b ∧ (w.heap.size ≤ b ∨ ∃ i, argF fp prs vs i b))) Gb tn) e y (hd kb.1) (fun b => fp kb.1 b ∧ ∀ kb' ∈ bs, kb'.1 = kb.1 → kb'.2 ≠ .gone) := fun tn => by
          rcases h7 with g | ⟨b, o, cap, cs, g1, g2, g3, g4, g5, g6⟩
          · exact .inl g
          · exact .inr ⟨b, o, cap, cs, g1, g2, hfp b g3, g4.anyw h6 _ _, g5, g6⟩
        rcases h2 with ⟨h2, _⟩ | h2
        · rw [h2]; exact ⟨hrow _, fun hh => by cases hh⟩
        · rw [h2]; exact hrow _
      · have hfp : ∀ b, argF fp prs vs j b → fp kb.1 b ∧ ∀ kb' ∈ bs, kb'.1 = kb.1 → kb'.2 ≠ .gone := by
          rintro b ⟨k', hk', hf⟩
          rw [hj] at hk'
          cases hk'
          refine ⟨hf, fun kb' hkb' e => ?_⟩
          have := modOb_mem (l := s.ob) (b := kb'.2) .none hnd hkb' (lt kb' hkb')
          rw [e] at this
          have h8 := modOb_mem (l := s.ob) (b := kb.2) .none hnd hkb (lt kb hkb)
          rw [h8] at this
          rw [← this, h2]
          intro hh; cases hh
        rw [h2]
        exact DpR.move h5 (fun _ _ => rfl) hfp
    · simp only [modOb_not .none hm]
      refine (h.obs k).move (fun _ x => .inl x) (fun b hh => hh.elim (e1 b) (e2 k b hm)) (fun b hf => ⟨hf, fun kb hkb e => ?_⟩) hkk (fun _ h => h)
      exact absurd (List.mem_map.2 ⟨kb, hkb, e⟩) hm
  · obtain ⟨o1, o2, o3, o4⟩ := h.own k b hf.1
    refine ⟨Nat.lt_of_lt_of_le o1 hev.size, o2, fun hh => ?_, o4⟩
    rcases hh with hh | hh
    · exact o3 hh
    · obtain ⟨hh, h2⟩ := hh
      have h3 := (hgs b hh).2.2
      rcases h2 with h2 | ⟨i, k', hk', hf'⟩
      · omega
      · have := h.disj k k' b hf.1 hf'
        subst this
        have hkm : k ∈ bs.map (·.1) := by rw [hk]; exact (heldAt_ge hk').2.2
        obtain ⟨kb, hkb, rfl⟩ := List.mem_map.1 hkm
        obtain ⟨j, hj, h4⟩ := hb kb hkb
        rcases h4 with ⟨h4, _⟩ | ⟨t, y, _, _, h4, _⟩ | ⟨e, y, _, _, h4, _⟩ | ⟨e, y, _, _, _, h4, _⟩
        · exact hf.2 kb hkb rfl h4
        · exact h3 j h4 ⟨kb.1, hj, hf.1⟩
        · exact h3 j h4 ⟨kb.1, hj, hf.1⟩
        · exact h3 j h4 ⟨kb.1, hj, hf.1⟩
  · rcases hb' with hb' | hb'
    · exact ⟨Nat.lt_of_lt_of_le (h.gs b hb').1 hev.size, (h.gs b hb').2⟩
    · exact ⟨(hgs b hb'.1).1, (mine b hb'.2).imp id .inl⟩
end Go.Proofs.YtkgpkalclblhbaaGreatDoor.Eng
