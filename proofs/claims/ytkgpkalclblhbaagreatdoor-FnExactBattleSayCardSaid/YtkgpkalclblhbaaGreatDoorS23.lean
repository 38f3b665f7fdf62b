/-
  A loop's head: what is kept is kept under keys of its own, all else is let go.
-/
import Derived.Test.YtkgpkalclblhbaaGreatDoorS22
namespace Go.Proofs.YtkgpkalclblhbaaGreatDoor.Eng
open Go Go.RowKit
set_option linter.unusedVariables false
set_option linter.unusedSimpArgs false

variable {P : Program} {T : Tab} {N : Nat} {w0 : World} {Mv : Mvp} {Gb Gs : BS} {hd : Nat → Value} {fp : Nat → BS} {s : St} {a : Act} {w w' : World}

theorem getD_replicate' {α : Type} (n i : Nat) (x : α) : (List.replicate n x).getD i x = x := by
  rw [List.getD_eq_getElem?_getD, List.getElem?_replicate]
  split <;> rfl
theorem OwnRow.take {w : World} {G : BS} {e : Ty} {x : List (Den e)} {v : Value} {fp : BS} (h : OwnRow w G e x v fp) {a : Option Addr} {n cap hi : Nat} (hv : v = .slice a n cap) (h2 : hi ≤ n) :
    OwnRow w G e (x.take hi) (.slice (if cap = 0 then a else a.map (·.add (0 * sz e))) (hi - 0) (cap - 0)) fp := by
  rcases h with ⟨h, hx⟩ | ⟨b, o, c, cs, h1, h2', h3, h4, h5, h6⟩
  · rw [hv] at h
    cases h
    left
    have : hi = 0 := by omega
    subst this
    simp
  · rw [hv] at h1
    cases h1
    right
    have hl : (x.take hi).length = hi := by rw [List.length_take]; omega
    refine ⟨b, o, cap, cs.take (hi * sz e), ?_, by rw [hl]; omega, h3, h4.take hi, rangeAt_take h5 _, h6⟩
    rw [hl]
    split <;> simp [Addr.add]
/-- A slot is written as its place reads. -/
theorem Inv.setSlot (h : Inv N w0 Mv Gb Gs hd fp s a w) (i : Nat) {z : Slot} (hz : SlotR w Gs Gb hd s.ob z (a.tmps.getD i undef)) : Inv N w0 Mv Gb Gs hd fp ⟨s.sl.set i z, s.ob⟩ a w := by
  refine ⟨h.ev, h.le, by simp [h.len], fun j => ?_, h.obs, h.own, h.disj, h.gs, h.gb, h.pin, h.fix, h.small, h.reg⟩
  by_cases hj : j = i
  · subst hj
    simp only
    rw [getD_set_self]
    split
    · exact hz
    · simp only [SlotR]
  · simp only
    rw [getD_set_ne' _ _ _ hj]
    exact h.slots j
def noPin (Mv : Mvp) : Mvp := ⟨Mv.bs, fun _ _ _ => False, Mv.g0, Mv.q⟩
theorem Inv.base (h : Inv N w0 Mv Gb Gs hd fp s a w) (n m : Nat) (hn : n = a.tmps.size) (hm : m ≤ regM) : Inv N w0 (noPin Mv) Gb Gs hd (fun _ _ => False) ⟨List.replicate n .dead, List.replicate m .none⟩ a w := by
  refine ⟨h.ev, h.le, by simp [hn], fun i => ?_, fun k => ?_, fun k b hb => hb.elim, fun k j b hb => hb.elim, h.gs, h.gb, fun k v F hF => hF.elim, h.fix, by simpa using hm, h.reg⟩
  · simp only [getD_replicate', SlotR]
  · simp only [getD_replicate', ObR]
/-- Memory behind what has none may be called anything. -/
theorem gof_flag {w : World} {Gs Gb : BS} {tn tn' : Bool} {e : Ty} (h : tn = true → tn' = true ∨ flat e = true) :
    (∀ {x cs}, RepL w (Gof Gs Gb tn) e x cs → RepL w (Gof Gs Gb tn') e x cs) ∧ (∀ {x cs}, RepC w (Gof Gs Gb tn) e x cs → RepC w (Gof Gs Gb tn') e x cs) := by
  by_cases hf : flat e = true
  · exact ⟨fun hr => hr.anyw hf _ _, fun hr => hr.anyw hf _ _⟩
  · have hm : ∀ b, Gof Gs Gb tn b → Gof Gs Gb tn' b := Gof_mono (fun _ x => x) (fun ht => (h ht).resolve_right hf)
    exact ⟨fun hr => hr.move hm (fun _ _ => rfl), fun hr => hr.move hm (fun _ _ => rfl)⟩
theorem OwnRow.flag {w : World} {Gs Gb : BS} {tn tn' : Bool} {e : Ty} {x : List (Den e)} {v : Value} {fp : BS} (h : OwnRow w (Gof Gs Gb tn) e x v fp) (ht : tn = true → tn' = true ∨ flat e = true) : OwnRow w (Gof Gs Gb tn') e x v fp := by
  rcases h with h | ⟨b, o, cap, cs, h1, h2, h3, h4, h5, h6⟩
  · exact .inl h
  · exact .inr ⟨b, o, cap, cs, h1, h2, h3, (gof_flag ht).1 h4, h5, h6⟩
theorem BoxR.flag {w : World} {Gs Gb : BS} {tn tn' : Bool} {t : Ty} {x : Den t} {v : Value} {fp : BS} (h : BoxR w (Gof Gs Gb tn) t x v fp) (ht : tn = true → tn' = true ∨ flat t = true) : BoxR w (Gof Gs Gb tn') t x v fp := by
  obtain ⟨b, o, cs, h1, h3, h4, h5, h6⟩ := h
  exact ⟨b, o, cs, h1, h3, (gof_flag ht).2 h4, h5, h6⟩
theorem VRep.flag {w : World} {Gs Gb : BS} {tn tn' : Bool} {t : Ty} {x : Den t} {v : Value} (h : VRep w (Gof Gs Gb tn) t x v) (ht : tn = true → tn' = true ∨ flat t = true) : VRep w (Gof Gs Gb tn') t x v := by
  obtain ⟨cs, h1, h2⟩ := h
  exact ⟨cs, (gof_flag ht).2 h1, h2⟩
theorem mkVal_flag {w : World} {Gs Gb : BS} {hd : Nat → Value} {ob : List Ob} {tn tn' : Bool} {t : Ty} {x : Den t} {v : Value} (h : VRep w (Gof Gs Gb tn) t x v) (ht : tn = true → tn' = true) : SlotR w Gs Gb hd ob (mkVal tn' t x) v := by
  unfold mkVal
  simp only [SlotR]
  refine h.flag (fun hh => ?_)
  rw [ht hh]
  cases flat t <;> simp

/-- What is said of the state being built. -/
structure Acc (N : Nat) (w0 : World) (Mv : Mvp) (Gb Gs : BS) (hd : Nat → Value) (fp : Nat → BS) (a : Act) (w : World) (K : List Nat) (acc : St) (hd' : Nat → Value) (fp' : Nat → BS) : Prop where
  inv : Inv N w0 (noPin Mv) Gb Gs hd' fp' acc a w
  from' : ∀ j b, fp' j b → ∃ k ∈ K, fp k b
  box : ∀ k, obBox (acc.ob.getD k .none) = true → hd' k = hd k ∧ fp' k = fp k
  rg : ∀ v, Rg hd v → Rg hd' v
theorem gone_none {l : List Ob} {k : Nat} (h : l.getD k .gone = .none) : k < l.length := by
  rcases Nat.lt_or_ge k l.length with h' | h'
  · exact h'
  · rw [List.getD_eq_getElem?_getD, List.getElem?_eq_none h'] at h; cases h
theorem acc_free (h : Inv N w0 Mv Gb Gs hd fp s a w) {K : List Nat} {acc : St} {hd' : Nat → Value} {fp' : Nat → BS} (hA : Acc N w0 Mv Gb Gs hd fp a w K acc hd' fp') {k b : Nat} (hk : k ∉ K) (hb : fp k b) : Free N (noPin Mv) Gb Gs fp' w b :=
  ⟨(h.own k b hb).1, (h.own k b hb).2.1, (h.own k b hb).2.2.1, (h.own k b hb).2.2.2, fun j hj => by
    obtain ⟨k', hk', hb'⟩ := hA.from' j b hj
    exact hk (h.disj k' k b hb' hb ▸ hk')⟩
theorem canonF_ok {sp : St} (h : Inv N w0 Mv Gb Gs hd fp sp a w) {sl0 : List Slot} : ∀ (ks : List LK) (l : List Slot) (vs : List Value) (key : Nat) {K : List Nat} {ob : List Ob} {hd' : Nat → Value} {fp' : Nat → BS} (hA : Acc N w0 Mv Gb Gs hd fp a w K ⟨sl0, ob⟩ hd' fp'),
    SlotsR w Gs Gb hd sp.ob l vs → (∀ z ∈ valF ks l, ∀ v, SlotR w Gs Gb hd sp.ob z v → ∀ tn p, dataV (viewZ s z) = some (tn, p) → VRep w (Gof Gs Gb tn) p.t p.x v) →
    (∀ k ∈ takeF ks l, k ∉ K) → (takeF ks l).Nodup → (∀ k ∈ takeF ks l, sp.ob.getD k .none = s.ob.getD k .none) →
    ∀ {zs : List Slot} {ob' : List Ob}, canonF s ob key ks l = some (zs, ob') → ∃ K' hd2 fp2, Acc N w0 Mv Gb Gs hd fp a w K' ⟨sl0, ob'⟩ hd2 fp2 ∧ SlotsR w Gs Gb hd2 ob' zs vs ∧ ∀ k ∈ K', k ∈ takeF ks l ∨ k ∈ K
  | [], [], vs, key, K, ob, hd', fp', hA, hz, _, _, _, _, zs, ob', hc => by
    simp only [canonF, Option.some.injEq, Prod.mk.injEq] at hc
    obtain ⟨rfl, rfl⟩ := hc
    simp only [SlotsR] at hz
    subst hz
    exact ⟨K, hd', fp', hA, by simp only [SlotsR], fun k hk => .inr hk⟩
  | [], _ :: _, _, _, _, _, _, _, _, _, _, _, _, _, _, _, hc => by simp [canonF] at hc
  | _ :: _, [], _, _, _, _, _, _, _, _, _, _, _, _, _, _, hc => by simp [canonF] at hc
  | lk :: ks, z :: l, vs, key, K, ob, hd', fp', hA, hz, hv, hK, hN, hob, zs, ob', hc => by
    simp only [SlotsR] at hz
    obtain ⟨v, r, rfl, hz1, hz2⟩ := hz
    simp only [canonF] at hc
    split at hc
    · cases hc
    · rename_i zs1 ob1 hrec
      have hsubT : ∀ k ∈ takeF ks l, k ∈ takeF (lk :: ks) (z :: l) := fun k hk => by cases lk <;> simp [takeF, hk]
      have hsubV : ∀ y ∈ valF ks l, y ∈ valF (lk :: ks) (z :: l) := fun k hk => by cases lk <;> simp [valF, hk]
      have hN1 : (takeF ks l).Nodup := by
        cases lk <;> simp only [takeF] at hN
        · exact hN
        · exact (List.nodup_append.1 hN).2.1
        · exact hN
        · exact hN
        · exact hN
        · exact hN
        · exact hN
      obtain ⟨K1, hd1, fp1, hA1, hS1, hK1⟩ := canonF_ok h ks l r _ hA hz2 (fun y hy => hv y (hsubV y hy)) (fun k hk => hK k (hsubT k hk)) hN1 (fun k hk => hob k (hsubT k hk)) hrec
      have hK1' : ∀ k ∈ K1, k ∈ takeF (lk :: ks) (z :: l) ∨ k ∈ K := fun k hk => (hK1 k hk).imp (hsubT k) id
      cases lk with
      | val tn =>
        simp only at hc
        split at hc
        · rename_i b t x hdv
          split at hc
          · rename_i hb
            simp only [Option.some.injEq, Prod.mk.injEq] at hc
            obtain ⟨rfl, rfl⟩ := hc
            have hdv' : dataV (viewZ s z) = some (b, ⟨t, x⟩) := by
              cases z with
              | agg _ _ => simp [data1] at hdv
              | _ => exact hdv
            have hr := hv z (by simp [valF]) v hz1 b ⟨t, x⟩ hdv'
            refine ⟨K1, hd1, fp1, hA1, ?_, hK1'⟩
            simp only [SlotsR]
            exact ⟨v, r, rfl, mkVal_flag hr (fun hh => hb.1.resolve_left (by simp [hh])), hS1⟩
          · cases hc
        · cases hc
      | own tn =>
        simp only at hc
        split at hc
        · rename_i hfr
          have hlt := gone_none hfr
          have hne : ∀ k, isNone (ob1.getD k .none) = false → k ≠ key := fun k hk e => by
            subst e
            rw [List.getD_eq_getElem?_getD, List.getElem?_eq_getElem hlt] at hfr hk
            simp only [Option.getD_some] at hfr hk
            rw [hfr] at hk; cases hk
          have tail : ∀ (ob0 : Ob) (v0 : Value), SlotsR w Gs Gb (upd hd1 key v0) (ob1.set key ob0) zs1 r := fun ob0 v0 =>
            slots_move (fun _ x => x) (fun _ _ => rfl) (fun k hk => by
              rw [getD_set_ne' _ _ _ (hne k hk), upd_ne _ _ (hne k hk)]; exact ⟨hk, rfl, fun _ x => x⟩) (fun v hv => (rg_upd (Nat.lt_of_lt_of_le hlt hA1.inv.small)).2 hv) _ _ hS1
          split at hc
          · rename_i k b nx e x hob2
            split at hc
            · rename_i hb
              simp only [Option.some.injEq, Prod.mk.injEq] at hc
              obtain ⟨rfl, rfl⟩ := hc
              have hkt : k ∈ takeF (.own tn :: ks) (.ref k :: l) := by simp [takeF, keyOf]
              have hok := hob k hkt
              simp only [obOf, keyOf] at hob2
              have hobk := h.obs k
              rw [hok, hob2] at hobk
              simp only [SlotR] at hz1
              have hkK : k ∉ K1 := fun hk => by
                rcases hK1 k hk with hk | hk
                · simp only [takeF, keyOf, Option.toList, List.cons_append, List.nil_append, List.nodup_cons] at hN
                  exact hN.1 hk
                · exact hK k hkt hk
              have hnew := hA1.inv.newKey hfr (v := hd k) (F := fp k) (fun b hb => acc_free h hA1 hkK hb) (ob := .sl (tn && !flat e) false e x) rfl
                ⟨hobk.1.flag (fun hh => by have := hb.resolve_left (by simp [hh]); subst this; cases flat e <;> simp), by simp⟩
              refine ⟨k :: K1, _, _, ⟨hnew, fun j b hb => ?_, fun j hj => ?_, fun v hv => (rg_upd (Nat.lt_of_lt_of_le hlt hA1.inv.small)).2 (hA1.rg v hv)⟩, ?_, fun j hj => ?_⟩
              · by_cases hji : j = key
                · subst hji; rw [upd_same] at hb; exact ⟨k, by simp, hb⟩
                · rw [upd_ne _ _ hji] at hb; obtain ⟨k', h1, h2⟩ := hA1.from' j b hb; exact ⟨k', by simp [h1], h2⟩
              · by_cases hji : j = key
                · subst hji; simp only [getD_set_self, if_pos hlt, obBox] at hj; cases hj
                · rw [upd_ne _ _ hji, upd_ne _ _ hji]; simp only at hj; rw [getD_set_ne' _ _ _ hji] at hj; exact hA1.box j hj
              · simp only [SlotsR]
                refine ⟨v, r, rfl, ?_, tail _ _⟩
                simp only [SlotR]
                rw [getD_set_self, if_pos hlt]
                exact ⟨rfl, by rw [upd_same]; exact hz1.2⟩
              · rcases List.mem_cons.1 hj with rfl | hj
                · exact .inl hkt
                · exact hK1' j hj
            · cases hc
          · rename_i e
            simp only [Option.some.injEq, Prod.mk.injEq] at hc
            obtain ⟨rfl, rfl⟩ := hc
            simp only [SlotR] at hz1
            have hnew := hA1.inv.newKey hfr (v := .slice none 0 0) (F := fun _ => False) (fun b hb => hb.elim) (ob := .sl (tn && !flat e) false e []) rfl ⟨.inl ⟨rfl, rfl⟩, by simp⟩
            refine ⟨K1, _, _, ⟨hnew, fun j b hb => ?_, fun j hj => ?_, fun v hv => (rg_upd (Nat.lt_of_lt_of_le hlt hA1.inv.small)).2 (hA1.rg v hv)⟩, ?_, hK1'⟩
            · by_cases hji : j = key
              · subst hji; rw [upd_same] at hb; exact hb.elim
              · rw [upd_ne _ _ hji] at hb; exact hA1.from' j b hb
            · by_cases hji : j = key
              · subst hji; simp only [getD_set_self, if_pos hlt, obBox] at hj; cases hj
              · rw [upd_ne _ _ hji, upd_ne _ _ hji]; simp only at hj; rw [getD_set_ne' _ _ _ hji] at hj; exact hA1.box j hj
            · simp only [SlotsR]
              refine ⟨v, r, rfl, ?_, tail _ _⟩
              simp only [SlotR]
              rw [getD_set_self, if_pos hlt]
              exact ⟨rfl, by rw [upd_same]; exact hz1⟩
          · cases hc
        · cases hc
      | _ => simp at hc
/-- 'sp' is the state behind the publishing of what is kept as data; 's' the one before. -/
theorem canonAll_ok {sp : St} (h : Inv N w0 Mv Gb Gs hd fp sp a w) (hsl : sp.sl = s.sl) (hlen : a.tmps.size = s.sl.length)
    : ∀ (l : List (Nat × LK)) (K : List Nat) {acc : St} {hd' : Nat → Value} {fp' : Nat → BS} (hA : Acc N w0 Mv Gb Gs hd fp a w K acc hd' fp'),
      (∀ z ∈ valSlots s l, ∀ v, SlotR w Gs Gb hd sp.ob z v → ∀ tn p, dataV (viewZ s z) = some (tn, p) → VRep w (Gof Gs Gb tn) p.t p.x v) →
      (∀ k, k ∈ takeKeys s l → k ∉ K) → (takeKeys s l).Nodup →
      (∀ k ∈ takeKeys s l, sp.ob.getD k .none = s.ob.getD k .none) →
      ∀ {s' : St}, canonAll s acc l = some s' → ∃ K' hd2 fp2, Acc N w0 Mv Gb Gs hd fp a w K' s' hd2 fp2
  | [], K, acc, hd', fp', hA, _, _, _, _, s', hc => by
    simp only [canonAll] at hc
    cases hc
    exact ⟨K, hd', fp', hA⟩
  | (i, lk) :: r, K, acc, hd', fp', hA, hv, hK, hN, hob, s', hc => by
    simp only [canonAll] at hc
    split at hc
    · rename_i acc' h1
      have hsubT : ∀ k ∈ takeKeys s r, k ∈ takeKeys s ((i, lk) :: r) := fun k hk => by cases lk <;> simp [takeKeys, hk]
      have hob' : ∀ k ∈ takeKeys s r, sp.ob.getD k .none = s.ob.getD k .none := fun k hk => hob k (hsubT k hk)
      cases lk with
      | val tn =>
        simp only [canonOne] at h1
        split at h1
        · rename_i b t x hdv
          split at h1
          · rename_i hb
            cases h1
            have hr := hv (s.sl.getD i .dead) (by simp [valSlots]) (a.tmps.getD i undef) (by have := h.slots i; rwa [hsl] at this) _ _ hdv
            have hz : ∀ ob hd'', SlotR w Gs Gb hd'' ob (mkVal tn t x) (a.tmps.getD i undef) := fun ob hd'' => mkVal_flag hr (fun hh => hb.resolve_left (by simp [hh]))
            refine canonAll_ok h hsl hlen r K (acc := ⟨acc.sl.set i (mkVal tn t x), acc.ob⟩) ⟨hA.inv.setSlot i (hz _ _), hA.from', hA.box, hA.rg⟩ (fun y hy => hv y (by simp [valSlots, hy])) (fun k hk => hK k (hsubT k hk)) (by simpa only [takeKeys] using hN) hob' hc
          · cases h1
        · cases h1
      | own tn =>
        have hv' : ∀ z ∈ valSlots s r, ∀ v, SlotR w Gs Gb hd sp.ob z v → ∀ tn p, dataV (viewZ s z) = some (tn, p) → VRep w (Gof Gs Gb tn) p.t p.x v := fun y hy => hv y (by simpa [valSlots] using hy)
        have hN' : (takeKeys s r).Nodup := by simp only [takeKeys] at hN; exact (List.nodup_append.1 hN).2.1
        simp only [canonOne] at h1
        split at h1
        · rename_i hfr
          have hlt := gone_none hfr
          have hslot := h.slots i
          rw [hsl] at hslot
          split at h1
          · rename_i k b nx e x hz ho
            split at h1
            · rename_i hb
              cases h1
              rw [hz] at hslot
              have hkey : keyOf (s.sl.getD i .dead) = some k := by rw [hz]; rfl
              have hok := hob k (by simp only [takeKeys, hkey]; simp)
              rw [hz] at ho
              simp only [obOf, keyOf] at ho
              have hobk := h.obs k
              rw [hok, ho] at hobk
              simp only [SlotR] at hslot
              have hkK : k ∉ K := hK k (by simp only [takeKeys, hkey]; simp)
              have hnew := hA.inv.newKey hfr (v := hd k) (F := fp k) (fun b hb => acc_free h hA hkK hb) (ob := .sl (tn && !flat e) false e x) rfl
                ⟨hobk.1.flag (fun hh => by have := hb.resolve_left (by simp [hh]); subst this; cases flat e <;> simp), by simp⟩
              have hnew2 := hnew.setSlot i (z := .ref (4 * i + 3)) (by
                simp only [SlotR]
                rw [getD_set_self, if_pos hlt]
                exact ⟨rfl, by rw [upd_same]; exact hslot.2⟩)
              refine canonAll_ok h hsl hlen r (k :: K) (acc := ⟨acc.sl.set i (.ref (4 * i + 3)), acc.ob.set (4 * i + 3) (.sl (tn && !flat e) false e x)⟩) ⟨hnew2, fun j b hb => ?_, fun j hj => ?_, fun v hv => (rg_upd (Nat.lt_of_lt_of_le hlt hA.inv.small)).2 (hA.rg v hv)⟩ hv' ?_ hN' hob' hc
              · by_cases hji : j = 4 * i + 3
                · subst hji; rw [upd_same] at hb; exact ⟨k, by simp, hb⟩
                · rw [upd_ne _ _ hji] at hb; obtain ⟨k', h1, h2⟩ := hA.from' j b hb; exact ⟨k', by simp [h1], h2⟩
              · by_cases hji : j = 4 * i + 3
                · subst hji; simp only [getD_set_self, if_pos hlt, obBox] at hj; cases hj
                · rw [upd_ne _ _ hji, upd_ne _ _ hji]; simp only at hj; rw [getD_set_ne' _ _ _ hji] at hj; exact hA.box j hj
              · intro j hj hjk
                rcases List.mem_cons.1 hjk with rfl | hjk
                · simp only [takeKeys, hkey] at hN
                  exact (List.nodup_append.1 hN).2.2 j (by simp) j hj rfl
                · exact hK j (hsubT j hj) hjk
            · cases h1
          · rename_i k hi b nx e x hz ho
            split at h1
            · rename_i hb
              cases h1
              rw [hz] at hslot
              have hkey : keyOf (s.sl.getD i .dead) = some k := by rw [hz]; rfl
              have hok := hob k (by simp only [takeKeys, hkey]; simp)
              rw [hz] at ho
              simp only [obOf, keyOf] at ho
              have hobk := h.obs k
              rw [hok, ho] at hobk
              simp only [SlotR] at hslot
              have hkK : k ∉ K := hK k (by simp only [takeKeys, hkey]; simp)
              obtain ⟨a0, n0, cap0, g1, g2, g3, g4⟩ := hslot.2 e (by rw [hok, ho]; rfl)
              have hrow := OwnRow.take hobk.1 g1 g3
              have hnew := hA.inv.newKey hfr (v := .slice (if cap0 = 0 then a0 else a0.map (·.add (0 * sz e))) (hi - 0) (cap0 - 0)) (F := fp k) (fun b hb => acc_free h hA hkK hb) (ob := .sl (tn && !flat e) false e (x.take hi)) rfl
                ⟨hrow.flag (fun hh => by have := hb.resolve_left (by simp [hh]); subst this; cases flat e <;> simp), by simp⟩
              have hnew2 := hnew.setSlot i (z := .ref (4 * i + 3)) (by
                simp only [SlotR]
                rw [getD_set_self, if_pos hlt]
                exact ⟨rfl, by rw [upd_same]; exact g4⟩)
              refine canonAll_ok h hsl hlen r (k :: K) (acc := ⟨acc.sl.set i (.ref (4 * i + 3)), acc.ob.set (4 * i + 3) (.sl (tn && !flat e) false e (x.take hi))⟩) ⟨hnew2, fun j b hb => ?_, fun j hj => ?_, fun v hv => (rg_upd (Nat.lt_of_lt_of_le hlt hA.inv.small)).2 (hA.rg v hv)⟩ hv' ?_ hN' hob' hc
              · by_cases hji : j = 4 * i + 3
                · subst hji; rw [upd_same] at hb; exact ⟨k, by simp, hb⟩
                · rw [upd_ne _ _ hji] at hb; obtain ⟨k', h1, h2⟩ := hA.from' j b hb; exact ⟨k', by simp [h1], h2⟩
              · by_cases hji : j = 4 * i + 3
                · subst hji; simp only [getD_set_self, if_pos hlt, obBox] at hj; cases hj
                · rw [upd_ne _ _ hji, upd_ne _ _ hji]; simp only at hj; rw [getD_set_ne' _ _ _ hji] at hj; exact hA.box j hj
              · intro j hj hjk
                rcases List.mem_cons.1 hjk with rfl | hjk
                · simp only [takeKeys, hkey] at hN
                  exact (List.nodup_append.1 hN).2.2 j (by simp) j hj rfl
                · exact hK j (hsubT j hj) hjk
            · cases h1
          · rename_i e hz
            cases h1
            rw [hz] at hslot
            simp only [SlotR] at hslot
            have hnew := hA.inv.newKey hfr (v := .slice none 0 0) (F := fun _ => False) (fun b hb => hb.elim) (ob := .sl (tn && !flat e) false e []) rfl ⟨.inl ⟨rfl, rfl⟩, by simp⟩
            have hnew2 := hnew.setSlot i (z := .ref (4 * i + 3)) (by
              simp only [SlotR]
              rw [getD_set_self, if_pos hlt]
              exact ⟨rfl, by rw [upd_same]; exact hslot⟩)
            refine canonAll_ok h hsl hlen r K (acc := ⟨acc.sl.set i (.ref (4 * i + 3)), acc.ob.set (4 * i + 3) (.sl (tn && !flat e) false e [])⟩) ⟨hnew2, fun j b hb => ?_, fun j hj => ?_, fun v hv => (rg_upd (Nat.lt_of_lt_of_le hlt hA.inv.small)).2 (hA.rg v hv)⟩ hv' ?_ hN' hob' hc
            · by_cases hji : j = 4 * i + 3
              · subst hji; rw [upd_same] at hb; exact hb.elim
              · rw [upd_ne _ _ hji] at hb; exact hA.from' j b hb
            · by_cases hji : j = 4 * i + 3
              · subst hji; simp only [getD_set_self, if_pos hlt, obBox] at hj; cases hj
              · rw [upd_ne _ _ hji, upd_ne _ _ hji]; simp only at hj; rw [getD_set_ne' _ _ _ hji] at hj; exact hA.box j hj
            · intro j hj hjk
              exact hK j (hsubT j hj) hjk
          · cases h1
        · cases h1
      | dp =>
        have hv' : ∀ z ∈ valSlots s r, ∀ v, SlotR w Gs Gb hd sp.ob z v → ∀ tn p, dataV (viewZ s z) = some (tn, p) → VRep w (Gof Gs Gb tn) p.t p.x v := fun y hy => hv y (by simpa [valSlots] using hy)
        have hN' : (takeKeys s r).Nodup := by simp only [takeKeys] at hN; exact (List.nodup_append.1 hN).2.1
        simp only [canonOne] at h1
        split at h1
        · rename_i hfr
          have hlt := gone_none hfr
          have hslot := h.slots i
          rw [hsl] at hslot
          split at h1
          · rename_i k e x hz ho
            · cases h1
              rw [hz] at hslot
              have hkey : keyOf (s.sl.getD i .dead) = some k := by rw [hz]; rfl
              have hok := hob k (by simp only [takeKeys, hkey]; simp)
              rw [hz] at ho
              simp only [obOf, keyOf] at ho
              have hobk := h.obs k
              rw [hok, ho] at hobk
              simp only [SlotR] at hslot
              have hkK : k ∉ K := hK k (by simp only [takeKeys, hkey]; simp)
              have hnew := hA.inv.newKey hfr (v := hd k) (F := fp k) (fun b hb => acc_free h hA hkK hb) (ob := .dp e x) rfl hobk
              have hnew2 := hnew.setSlot i (z := .ref (4 * i + 3)) (by
                simp only [SlotR]
                rw [getD_set_self, if_pos hlt]
                exact ⟨rfl, by rw [upd_same]; exact hslot.2⟩)
              refine canonAll_ok h hsl hlen r (k :: K) (acc := ⟨acc.sl.set i (.ref (4 * i + 3)), acc.ob.set (4 * i + 3) (.dp e x)⟩) ⟨hnew2, fun j b hb => ?_, fun j hj => ?_, fun v hv => (rg_upd (Nat.lt_of_lt_of_le hlt hA.inv.small)).2 (hA.rg v hv)⟩ hv' ?_ hN' hob' hc
              · by_cases hji : j = 4 * i + 3
                · subst hji; rw [upd_same] at hb; exact ⟨k, by simp, hb⟩
                · rw [upd_ne _ _ hji] at hb; obtain ⟨k', h1, h2⟩ := hA.from' j b hb; exact ⟨k', by simp [h1], h2⟩
              · by_cases hji : j = 4 * i + 3
                · subst hji; simp only [getD_set_self, if_pos hlt, obBox] at hj; cases hj
                · rw [upd_ne _ _ hji, upd_ne _ _ hji]; simp only at hj; rw [getD_set_ne' _ _ _ hji] at hj; exact hA.box j hj
              · intro j hj hjk
                rcases List.mem_cons.1 hjk with rfl | hjk
                · simp only [takeKeys, hkey] at hN
                  exact (List.nodup_append.1 hN).2.2 j (by simp) j hj rfl
                · exact hK j (hsubT j hj) hjk
          · rename_i k t x hz ho
            · cases h1
              rw [hz] at hslot
              have hkey : keyOf (s.sl.getD i .dead) = some k := by rw [hz]; rfl
              have hok := hob k (by simp only [takeKeys, hkey]; simp)
              rw [hz] at ho
              simp only [obOf, keyOf] at ho
              have hobk := h.obs k
              rw [hok, ho] at hobk
              simp only [SlotR] at hslot
              have hkK : k ∉ K := hK k (by simp only [takeKeys, hkey]; simp)
              have hnew := hA.inv.newKey hfr (v := hd k) (F := fp k) (fun b hb => acc_free h hA hkK hb) (ob := .mp t x) rfl hobk
              have hnew2 := hnew.setSlot i (z := .ref (4 * i + 3)) (by
                simp only [SlotR]
                rw [getD_set_self, if_pos hlt]
                exact ⟨rfl, by rw [upd_same]; exact hslot.2⟩)
              refine canonAll_ok h hsl hlen r (k :: K) (acc := ⟨acc.sl.set i (.ref (4 * i + 3)), acc.ob.set (4 * i + 3) (.mp t x)⟩) ⟨hnew2, fun j b hb => ?_, fun j hj => ?_, fun v hv => (rg_upd (Nat.lt_of_lt_of_le hlt hA.inv.small)).2 (hA.rg v hv)⟩ hv' ?_ hN' hob' hc
              · by_cases hji : j = 4 * i + 3
                · subst hji; rw [upd_same] at hb; exact ⟨k, by simp, hb⟩
                · rw [upd_ne _ _ hji] at hb; obtain ⟨k', h1, h2⟩ := hA.from' j b hb; exact ⟨k', by simp [h1], h2⟩
              · by_cases hji : j = 4 * i + 3
                · subst hji; simp only [getD_set_self, if_pos hlt, obBox] at hj; cases hj
                · rw [upd_ne _ _ hji, upd_ne _ _ hji]; simp only at hj; rw [getD_set_ne' _ _ _ hji] at hj; exact hA.box j hj
              · intro j hj hjk
                rcases List.mem_cons.1 hjk with rfl | hjk
                · simp only [takeKeys, hkey] at hN
                  exact (List.nodup_append.1 hN).2.2 j (by simp) j hj rfl
                · exact hK j (hsubT j hj) hjk
          · cases h1
        · cases h1
      | sd =>
        have hv' : ∀ z ∈ valSlots s r, ∀ v, SlotR w Gs Gb hd sp.ob z v → ∀ tn p, dataV (viewZ s z) = some (tn, p) → VRep w (Gof Gs Gb tn) p.t p.x v := fun y hy => hv y (by simpa [valSlots] using hy)
        have hN' : (takeKeys s r).Nodup := by simp only [takeKeys] at hN; exact (List.nodup_append.1 hN).2.1
        simp only [canonOne] at h1
        split at h1
        · rename_i hfr
          have hlt := gone_none hfr
          have hslot := h.slots i
          rw [hsl] at hslot
          split at h1
          · rename_i k x hz ho
            · cases h1
              rw [hz] at hslot
              have hkey : keyOf (s.sl.getD i .dead) = some k := by rw [hz]; rfl
              have hok := hob k (by simp only [takeKeys, hkey]; simp)
              rw [hz] at ho
              simp only [obOf, keyOf] at ho
              have hobk := h.obs k
              rw [hok, ho] at hobk
              simp only [SlotR] at hslot
              have hkK : k ∉ K := hK k (by simp only [takeKeys, hkey]; simp)
              have hnew := hA.inv.newKey hfr (v := hd k) (F := fp k) (fun b hb => acc_free h hA hkK hb) (ob := .sd x) rfl (SdR.move hobk (fun _ h => h) (fun _ _ => rfl) (fun _ h => h) hA.rg)
              have hnew2 := hnew.setSlot i (z := .ref (4 * i + 3)) (by
                simp only [SlotR]
                rw [getD_set_self, if_pos hlt]
                exact ⟨rfl, by rw [upd_same]; exact hslot.2⟩)
              refine canonAll_ok h hsl hlen r (k :: K) (acc := ⟨acc.sl.set i (.ref (4 * i + 3)), acc.ob.set (4 * i + 3) (.sd x)⟩) ⟨hnew2, fun j b hb => ?_, fun j hj => ?_, fun v hv => (rg_upd (Nat.lt_of_lt_of_le hlt hA.inv.small)).2 (hA.rg v hv)⟩ hv' ?_ hN' hob' hc
              · by_cases hji : j = 4 * i + 3
                · subst hji; rw [upd_same] at hb; exact ⟨k, by simp, hb⟩
                · rw [upd_ne _ _ hji] at hb; obtain ⟨k', h1, h2⟩ := hA.from' j b hb; exact ⟨k', by simp [h1], h2⟩
              · by_cases hji : j = 4 * i + 3
                · subst hji; simp only [getD_set_self, if_pos hlt, obBox] at hj; cases hj
                · rw [upd_ne _ _ hji, upd_ne _ _ hji]; simp only at hj; rw [getD_set_ne' _ _ _ hji] at hj; exact hA.box j hj
              · intro j hj hjk
                rcases List.mem_cons.1 hjk with rfl | hjk
                · simp only [takeKeys, hkey] at hN
                  exact (List.nodup_append.1 hN).2.2 j (by simp) j hj rfl
                · exact hK j (hsubT j hj) hjk
          · cases h1
        · cases h1
      | ptr =>
        have hv' : ∀ z ∈ valSlots s r, ∀ v, SlotR w Gs Gb hd sp.ob z v → ∀ tn p, dataV (viewZ s z) = some (tn, p) → VRep w (Gof Gs Gb tn) p.t p.x v := fun y hy => hv y (by simpa [valSlots] using hy)
        have hN' : (takeKeys s r).Nodup := by simp only [takeKeys] at hN; exact (List.nodup_append.1 hN).2.1
        simp only [canonOne] at h1
        split at h1
        · rename_i k b t x hz ho
          split at h1
          · rename_i hfr
            cases h1
            have hlt := gone_none hfr
            have hslot := h.slots i
            rw [hsl, hz] at hslot
            have hkey : keyOf (s.sl.getD i .dead) = some k := by rw [hz]; rfl
            have hok := hob k (by simp only [takeKeys, hkey]; simp)
            rw [hz] at ho
            simp only [obOf, keyOf] at ho
            have hobk := h.obs k
            rw [hok, ho] at hobk
            simp only [SlotR] at hslot
            have hkK : k ∉ K := hK k (by simp only [takeKeys, hkey]; simp)
            have hnew := hA.inv.newKey hfr (v := hd k) (F := fp k) (fun b hb => acc_free h hA hkK hb) (ob := .box b t x) rfl hobk
            obtain ⟨b1, o1, e1, e2⟩ := hslot.2 t (by rw [hok, ho]; rfl)
            have hnew2 := hnew.setSlot i (z := .ptr k []) (by
              simp only [SlotR]
              rw [getD_set_self, if_pos hlt]
              refine ⟨rfl, fun t' ht' => ?_⟩
              simp only [obShape, Option.some.injEq, Prod.mk.injEq, true_and] at ht'
              subst ht'
              exact ⟨b1, o1, by rw [upd_same]; exact e1, e2⟩)
            refine canonAll_ok h hsl hlen r (k :: K) (acc := ⟨acc.sl.set i (.ptr k []), acc.ob.set k (.box b t x)⟩) ⟨hnew2, fun j b hb => ?_, fun j hj => ?_, fun v hv => (rg_upd (Nat.lt_of_lt_of_le hlt hA.inv.small)).2 (hA.rg v hv)⟩ hv' ?_ hN' hob' hc
            · by_cases hji : j = k
              · subst hji; rw [upd_same] at hb; exact ⟨j, by simp, hb⟩
              · rw [upd_ne _ _ hji] at hb; obtain ⟨k', h1, h2⟩ := hA.from' j b hb; exact ⟨k', by simp [h1], h2⟩
            · by_cases hji : j = k
              · subst hji; rw [upd_same, upd_same]; exact ⟨rfl, rfl⟩
              · rw [upd_ne _ _ hji, upd_ne _ _ hji]; simp only at hj; rw [getD_set_ne' _ _ _ hji] at hj; exact hA.box j hj
            · intro j hj hjk
              rcases List.mem_cons.1 hjk with rfl | hjk
              · simp only [takeKeys, hkey] at hN
                exact (List.nodup_append.1 hN).2.2 j (by simp) j hj rfl
              · exact hK j (hsubT j hj) hjk
          · cases h1
        · rename_i k b e x hz ho
          split at h1
          · rename_i hfr
            cases h1
            have hlt := gone_none hfr
            have hslot := h.slots i
            rw [hsl, hz] at hslot
            have hkey : keyOf (s.sl.getD i .dead) = some k := by rw [hz]; rfl
            have hok := hob k (by simp only [takeKeys, hkey]; simp)
            rw [hz] at ho
            simp only [obOf, keyOf] at ho
            have hobk := h.obs k
            rw [hok, ho] at hobk
            simp only [SlotR] at hslot
            have hkK : k ∉ K := hK k (by simp only [takeKeys, hkey]; simp)
            have hnew := hA.inv.newKey hfr (v := hd k) (F := fp k) (fun b hb => acc_free h hA hkK hb) (ob := .io (!flat e) e x) rfl
              (OwnRow.flag hobk (fun hh => by cases flat e <;> simp))
            have hnew2 := hnew.setSlot i (z := .ref k) (by
              simp only [SlotR]
              rw [getD_set_self, if_pos hlt]
              exact ⟨rfl, by rw [upd_same]; exact hslot.2⟩)
            refine canonAll_ok h hsl hlen r (k :: K) (acc := ⟨acc.sl.set i (.ref k), acc.ob.set k (.io (!flat e) e x)⟩) ⟨hnew2, fun j b hb => ?_, fun j hj => ?_, fun v hv => (rg_upd (Nat.lt_of_lt_of_le hlt hA.inv.small)).2 (hA.rg v hv)⟩ hv' ?_ hN' hob' hc
            · by_cases hji : j = k
              · subst hji; rw [upd_same] at hb; exact ⟨j, by simp, hb⟩
              · rw [upd_ne _ _ hji] at hb; obtain ⟨k', h1, h2⟩ := hA.from' j b hb; exact ⟨k', by simp [h1], h2⟩
            · by_cases hji : j = k
              · subst hji; rw [upd_same, upd_same]; exact ⟨rfl, rfl⟩
              · rw [upd_ne _ _ hji, upd_ne _ _ hji]; simp only at hj; rw [getD_set_ne' _ _ _ hji] at hj; exact hA.box j hj
            · intro j hj hjk
              rcases List.mem_cons.1 hjk with rfl | hjk
              · simp only [takeKeys, hkey] at hN
                exact (List.nodup_append.1 hN).2.2 j (by simp) j hj rfl
              · exact hK j (hsubT j hj) hjk
          · cases h1
        · cases h1
      | agg t ks =>
        simp only [canonOne] at h1
        split at h1
        · rename_i t' l hag
          split at h1
          · rename_i htt
            split at h1
            · rename_i zs ob hcf
              cases h1
              have hslot := h.slots i
              rw [hsl] at hslot
              obtain ⟨vs, e, q2, q1⟩ := toAgg_ok hslot hag
              simp only [takeKeys, hag] at hK hN hob
              obtain ⟨K1, hd1, fp1, hA1, hS1, hK1⟩ := canonF_ok h (s := s) (sl0 := acc.sl) ks l vs (4 * i) (ob := acc.ob) hA q1 (fun z hz => hv z (by simp only [valSlots, hag]; exact List.mem_append_left _ hz)) (fun k hk => hK k (List.mem_append_left _ hk)) (List.nodup_append.1 hN).1 (fun k hk => hob k (List.mem_append_left _ hk)) hcf
              have hnew := hA1.inv.setSlot i (z := .agg t zs) (by simp only [SlotR]; exact ⟨vs, e, q2, hS1⟩)
              refine canonAll_ok h hsl hlen r K1 (acc := ⟨acc.sl.set i (.agg t zs), ob⟩) ⟨hnew, hA1.from', hA1.box, hA1.rg⟩ (fun z hz => hv z (by simp only [valSlots, hag]; exact List.mem_append_right _ hz)) (fun k hk hkk => ?_) (List.nodup_append.1 hN).2.1 hob' hc
              rcases hK1 k hkk with hkk | hkk
              · exact (List.nodup_append.1 hN).2.2 k hkk k hk rfl
              · exact hK k (List.mem_append_right _ hk) hkk
            · cases h1
          · cases h1
        · cases h1
      | bx t ks =>
        simp only [canonOne] at h1
        split at h1
        · rename_i k t' l hz ho
          split at h1
          · rename_i htt
            subst htt
            split at h1
            · rename_i zs ob hcf
              split at h1
              · rename_i hfr
                cases h1
                have hlt := gone_none hfr
                have hslot := h.slots i
                rw [hsl, hz] at hslot
                rw [hz] at ho
                have hT : takeKeys s ((i, .bx t' ks) :: r) = (k :: takeF ks l) ++ takeKeys s r := by simp only [takeKeys, hz, ho]
                have hV : valSlots s ((i, .bx t' ks) :: r) = valF ks l ++ valSlots s r := by simp only [valSlots, hz, ho]
                rw [hT] at hK hN hob
                rw [hV] at hv
                simp only [obOf, keyOf] at ho
                have hok := hob k (by simp)
                have hobk := h.obs k
                rw [hok, ho] at hobk
                obtain ⟨b, o, vs, g1, g2, g3, g4, g5, g6, g7⟩ := hobk
                simp only [SlotR] at hslot
                have hN0 := (List.nodup_append.1 hN).1
                obtain ⟨K1, hd1, fp1, hA1, hS1, hK1⟩ := canonF_ok h (s := s) (sl0 := acc.sl) ks l vs (k + 1) (ob := acc.ob) hA g4 (fun z hz => hv z (List.mem_append_left _ hz)) (fun j hj => hK j (by simp [hj])) (List.nodup_cons.1 hN0).2 (fun j hj => hob j (by simp [hj])) hcf
                have hkK : k ∉ K1 := fun hk => by
                  rcases hK1 k hk with hk | hk
                  · exact (List.nodup_cons.1 hN0).1 hk
                  · exact hK k (by simp) hk
                have hnew := hA1.inv.newKey hfr (v := hd k) (F := fp k) (fun b hb => acc_free h hA1 hkK hb) (ob := .bx t' zs) rfl ⟨b, o, vs, g1, g2, g3, hS1, g5, g6, g7⟩
                obtain ⟨b1, o1, e1, e2⟩ := hslot.2 t' (by rw [hok, ho]; rfl)
                have hnew2 := hnew.setSlot i (z := .ptr k []) (by
                  simp only [SlotR]
                  rw [getD_set_self, if_pos hlt]
                  refine ⟨rfl, fun t2 ht2 => ?_⟩
                  simp only [obShape, Option.some.injEq, Prod.mk.injEq, true_and] at ht2
                  subst ht2
                  exact ⟨b1, o1, by rw [upd_same]; exact e1, e2⟩)
                refine canonAll_ok h hsl hlen r (k :: K1) (acc := ⟨acc.sl.set i (.ptr k []), ob.set k (.bx t' zs)⟩) ⟨hnew2, fun j b hb => ?_, fun j hj => ?_, fun v hv => (rg_upd (Nat.lt_of_lt_of_le hlt hA1.inv.small)).2 (hA1.rg v hv)⟩ (fun z hz => hv z (List.mem_append_right _ hz)) (fun j hj hjk => ?_) (List.nodup_append.1 hN).2.1 hob' hc
                · by_cases hji : j = k
                  · subst hji; rw [upd_same] at hb; exact ⟨j, by simp, hb⟩
                  · rw [upd_ne _ _ hji] at hb; obtain ⟨k', h1, h2⟩ := hA1.from' j b hb; exact ⟨k', by simp [h1], h2⟩
                · by_cases hji : j = k
                  · subst hji; simp only [getD_set_self, if_pos hlt, obBox] at hj; cases hj
                  · rw [upd_ne _ _ hji, upd_ne _ _ hji]; simp only at hj; rw [getD_set_ne' _ _ _ hji] at hj; exact hA1.box j hj
                · rcases List.mem_cons.1 hjk with rfl | hjk
                  · exact (List.nodup_append.1 hN).2.2 j (by simp) j hj rfl
                  · rcases hK1 j hjk with hjk | hjk
                    · exact (List.nodup_append.1 hN).2.2 j (by simp [hjk]) j hj rfl
                    · exact hK j (by simp [hj]) hjk
              · cases h1
            · cases h1
          · cases h1
        · cases h1
    · cases hc
theorem noDup_spec : ∀ {l : List Nat}, noDup l = true → l.Nodup
  | [], _ => .nil
  | k :: r, h => by
    simp only [noDup, Bool.and_eq_true, Bool.not_eq_true'] at h
    refine List.nodup_cons.2 ⟨?_, noDup_spec h.2⟩
    intro hk
    have := List.contains_iff_mem.2 hk
    rw [this] at h
    cases h.1
theorem sdObs_ok (h : Inv N w0 Mv Gb Gs hd fp s a w) : ∀ (l : List (Nat × LK)), ∃ Gs' hd' fp', Inv N w0 Mv Gb Gs' hd' fp' ⟨s.sl, sdObs s.sl l s.ob⟩ a w := by
  have go : ∀ (l : List (Nat × LK)) (ob : List Ob) (Gs : BS) (hd : Nat → Value) (fp : Nat → BS), Inv N w0 Mv Gb Gs hd fp ⟨s.sl, ob⟩ a w → ∃ Gs' hd' fp', Inv N w0 Mv Gb Gs' hd' fp' ⟨s.sl, sdObs s.sl l ob⟩ a w := by
    intro l
    induction l with
    | nil => intro ob Gs hd fp h; exact ⟨_, _, _, h⟩
    | cons x r ih =>
      intro ob Gs hd fp h
      obtain ⟨i, lk⟩ := x
      cases lk with
      | sd =>
        simp only [sdObs]
        have : ∃ Gs' hd' fp', Inv N w0 Mv Gb Gs' hd' fp' ⟨s.sl, sdOb ob (s.sl.getD i .dead)⟩ a w := by
          unfold sdOb
          split
          · split
            · rename_i k x hb
              exact h.toSd hb
            · exact ⟨_, _, _, h⟩
          · exact ⟨_, _, _, h⟩
        obtain ⟨Gs1, hd1, fp1, h1⟩ := this
        exact ih _ _ _ _ h1
      | _ => exact ih _ _ _ _ h
  exact fun l => go l s.ob Gs hd fp h
theorem canon1_ok (h : Inv N w0 Mv Gb Gs hd fp s a w) {f : FnT} {l : List (Nat × LK)} {s' : St} (hnk : f.nk ≤ regM) (hP : ∀ k v F, Mv.pin k v F → ∃ i t m, f.pars[i]? = some (t, m) ∧ m.boxed = true ∧ k = f.kb + i) (hc : canon1 f l s = some s') :
    ∃ Gs' hd' fp', Inv N w0 Mv Gb Gs' hd' fp' s' a w := by
  unfold canon1 at hc
  · split at hc
    · rename_i hn
      simp only [Bool.and_eq_true, beq_iff_eq] at hn
      split at hc
      · rename_i s2 h2
        split at hc
        · rename_i hpins
          cases hc
          have hND := noDup_spec hn.2.1
          obtain ⟨Gs1, fp1, h1, _, hv, _, hkk⟩ := pub_dataZ h (valSlots s l)
          have hA : Acc N w0 Mv Gb Gs1 hd fp1 a w [] ⟨List.replicate f.ntmps .dead, List.replicate f.nk .none⟩ hd (fun _ _ => False) :=
            ⟨h1.base _ _ (by rw [← hn.1]; exact h.len) hnk, fun j b hb => hb.elim, fun k hk => (by simp only [getD_replicate', obBox] at hk; cases hk), fun _ h => h⟩
          obtain ⟨K', hd2, fp2, hA2⟩ := canonAll_ok (s := s) h1 rfl h.len.symm l [] hA hv (fun k hk => by simp) hND (fun k hk => by
            have hnk : k ∉ (((valSlots s l).map (viewZ s)).flatMap pubM).map (·.1) := fun hm => by
              have h3 := hn.2.2
              unfold disj at h3
              rw [List.all_eq_true] at h3
              have := h3 k hm
              simp at this
              exact this hk
            exact modOb_not' _ hnk) h2
          refine ⟨Gs1, hd2, fp2, hA2.inv.ev, hA2.inv.le, hA2.inv.len, hA2.inv.slots, hA2.inv.obs, hA2.inv.own, hA2.inv.disj, hA2.inv.gs, hA2.inv.gb, fun k v F hF => ?_, h.fix, hA2.inv.small, hA2.inv.reg⟩
          obtain ⟨p1, p2, p3⟩ := h1.pin k v F hF
          obtain ⟨i, t, m, hi, hm, rfl⟩ := hP k v F hF
          unfold pinsOk at hpins
          rw [List.all_eq_true] at hpins
          have hb := hpins i (List.mem_range.2 (List.getElem?_eq_some_iff.1 hi).1)
          rw [hi] at hb
          have hb' : obBox (s'.ob.getD (f.kb + i) .none) = true := by
            revert hb
            generalize s'.ob.getD (f.kb + i) .none = z
            cases m with
            | ptr => cases z <;> simp [obBox]
            | io => cases z <;> simp [obBox]
            | ln => cases hm
            | mv => cases hm
            | dio => cases hm
          obtain ⟨q1, q2⟩ := hA2.box (f.kb + i) hb'
          exact ⟨hb', q1.trans p2, by rw [q2]; exact p3⟩
        · cases hc
      · cases hc
    · cases hc
theorem canon_ok (h : Inv N w0 Mv Gb Gs hd fp s a w) {f : FnT} {id : Nat} {s' : St} (hnk : f.nk ≤ regM) (hP : ∀ k v F, Mv.pin k v F → ∃ i t m, f.pars[i]? = some (t, m) ∧ m.boxed = true ∧ k = f.kb + i) (hc : canon f id s = some s') :
    ∃ Gs' hd' fp', Inv N w0 Mv Gb Gs' hd' fp' s' a w := by
  unfold canon at hc
  split at hc
  · rename_i l hl
    obtain ⟨Gs1, hd1, fp1, h1⟩ := sdObs_ok h l
    exact canon1_ok h1 hnk hP hc
  · cases hc
end Go.Proofs.YtkgpkalclblhbaaGreatDoor.Eng
