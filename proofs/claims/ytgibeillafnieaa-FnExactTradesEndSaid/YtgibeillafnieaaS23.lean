/-
  A loop's head: what is kept is kept under keys of its own, all else is let go.
-/
import Derived.Test.YtgibeillafnieaaS22
namespace Go.Proofs.Ytgibeillafnieaa.Eng
open Go Go.RowKit
set_option linter.unusedVariables false
set_option linter.unusedSimpArgs false

variable {P : Program} {T : Tab} {N : Nat} {w0 : World} {Mv : Mvp} {Gb Gs : BS} {hd : Nat → Value} {fp : Nat → BS} {s : St} {a : Act} {w w' : World}

theorem getD_replicate' {α : Type} (n i : Nat) (x : α) : (List.replicate n x).getD i x = x := by
  rw [List.getD_eq_getElem?_getD, List.getElem?_replicate]
  split <;> rfl
/-- A slot is written as its place reads. -/
theorem Inv.setSlot (h : Inv N w0 Mv Gb Gs hd fp s a w) (i : Nat) {z : Slot} (hz : SlotR w Gs Gb hd s.ob z (a.tmps.getD i undef)) : Inv N w0 Mv Gb Gs hd fp ⟨s.sl.set i z, s.ob⟩ a w := by
  refine ⟨h.ev, h.le, by simp [h.len], fun j => ?_, h.obs, h.own, h.disj, h.gs, h.gb, h.pin⟩
  by_cases hj : j = i
  · subst hj
    simp only
    rw [getD_set_self]
    split
    · exact hz
    · simp only [SlotR]
  · simp only
    rw [getD_set_ne' _ _ _ hj]
    exact h.slots j
def noPin (Mv : Mvp) : Mvp := ⟨Mv.bs, fun _ _ _ => False⟩
theorem Inv.base (h : Inv N w0 Mv Gb Gs hd fp s a w) (hd' : Nat → Value) (n m : Nat) (hn : n = a.tmps.size) : Inv N w0 (noPin Mv) Gb Gs hd' (fun _ _ => False) ⟨List.replicate n .dead, List.replicate m .none⟩ a w := by
  refine ⟨h.ev, h.le, by simp [hn], fun i => ?_, fun k => ?_, fun k b hb => hb.elim, fun k j b hb => hb.elim, h.gs, h.gb, fun k v F hF => hF.elim⟩
  · simp only [getD_replicate', SlotR]
  · simp only [getD_replicate', ObR]
/-- Memory behind what has none may be called anything. -/
theorem gof_flag {w : World} {Gs Gb : BS} {tn tn' : Bool} {e : Ty} (h : tn = true → tn' = true ∨ flat e = true) :
    (∀ {x cs}, RepL w (Gof Gs Gb tn) e x cs → RepL w (Gof Gs Gb tn') e x cs) ∧ (∀ {x cs}, RepC w (Gof Gs Gb tn) e x cs → RepC w (Gof Gs Gb tn') e x cs) := by
  by_cases hf : flat e = true
  · exact ⟨fun hr => hr.anyw hf _ _, fun hr => hr.anyw hf _ _⟩
  · have hm : ∀ b, Gof Gs Gb tn b → Gof Gs Gb tn' b := Gof_mono (fun _ x => x) (fun ht => (h ht).resolve_right hf)
    exact ⟨fun hr => hr.move hm (fun _ _ => rfl), fun hr => hr.move hm (fun _ _ => rfl)⟩
theorem OwnRow.flag {w : World} {Gs Gb : BS} {tn tn' : Bool} {e : Ty} {x : List (Den e)} {v : Value} {fp : BS} (h : OwnRow w (Gof Gs Gb tn) e x v fp) (ht : tn = true → tn' = true ∨ flat e = true) : OwnRow w (Gof Gs Gb tn') e x v fp := by
  rcases h with h | ⟨b, o, cap, cs, h1, h2, h3, h4, h5, h6⟩
  · exact .inl h
  · exact .inr ⟨b, o, cap, cs, h1, h2, h3, (gof_flag ht).1 h4, h5, h6⟩
theorem BoxR.flag {w : World} {Gs Gb : BS} {tn tn' : Bool} {t : Ty} {x : Den t} {v : Value} {fp : BS} (h : BoxR w (Gof Gs Gb tn) t x v fp) (ht : tn = true → tn' = true ∨ flat t = true) : BoxR w (Gof Gs Gb tn') t x v fp := by
  obtain ⟨b, o, cs, h1, h3, h4, h5, h6⟩ := h
  exact ⟨b, o, cs, h1, h3, (gof_flag ht).2 h4, h5, h6⟩
theorem VRep.flag {w : World} {Gs Gb : BS} {tn tn' : Bool} {t : Ty} {x : Den t} {v : Value} (h : VRep w (Gof Gs Gb tn) t x v) (ht : tn = true → tn' = true ∨ flat t = true) : VRep w (Gof Gs Gb tn') t x v := by
  obtain ⟨cs, h1, h2⟩ := h
  exact ⟨cs, (gof_flag ht).2 h1, h2⟩
theorem mkVal_flag {w : World} {Gs Gb : BS} {hd : Nat → Value} {ob : List Ob} {tn tn' : Bool} {t : Ty} {x : Den t} {v : Value} (h : VRep w (Gof Gs Gb tn) t x v) (ht : tn = true → tn' = true) : SlotR w Gs Gb hd ob (mkVal tn' t x) v := by
  unfold mkVal
  simp only [SlotR]
  refine h.flag (fun hh => ?_)
  rw [ht hh]
  cases flat t <;> simp

/-- What is said of the state being built. -/
structure Acc (N : Nat) (w0 : World) (Mv : Mvp) (Gb Gs : BS) (hd : Nat → Value) (fp : Nat → BS) (a : Act) (w : World) (K : List Nat) (acc : St) (hd' : Nat → Value) (fp' : Nat → BS) : Prop where
  inv : Inv N w0 (noPin Mv) Gb Gs hd' fp' acc a w
  from' : ∀ j b, fp' j b → ∃ k ∈ K, fp k b
  box : ∀ k, obBox (acc.ob.getD k .none) = true → hd' k = hd k ∧ fp' k = fp k
theorem gone_none {l : List Ob} {k : Nat} (h : l.getD k .gone = .none) : k < l.length := by
  rcases Nat.lt_or_ge k l.length with h' | h'
  · exact h'
  · rw [List.getD_eq_getElem?_getD, List.getElem?_eq_none h'] at h; cases h
theorem acc_free (h : Inv N w0 Mv Gb Gs hd fp s a w) {K : List Nat} {acc : St} {hd' : Nat → Value} {fp' : Nat → BS} (hA : Acc N w0 Mv Gb Gs hd fp a w K acc hd' fp') {k b : Nat} (hk : k ∉ K) (hb : fp k b) : Free N (noPin Mv) Gb Gs fp' w b :=
  ⟨(h.own k b hb).1, (h.own k b hb).2.1, (h.own k b hb).2.2.1, (h.own k b hb).2.2.2, fun j hj => by
    obtain ⟨k', hk', hb'⟩ := hA.from' j b hj
    exact hk (h.disj k' k b hb' hb ▸ hk')⟩
def valOps : List (Nat × LK) → List (Option Ty × Operand)
  | [] => []
  | (i, .val _) :: r => (none, .tmp i) :: valOps r
  | _ :: r => valOps r
theorem own_key {v : V} (h : isOwn v = true) : ∃ k, keyOf v.z = some k := by
  unfold isOwn at h
  split at h
  · rename_i hz _; exact ⟨_, by rw [hz]; rfl⟩
  · rename_i hz _; exact ⟨_, by rw [hz]; rfl⟩
  · cases h
/-- 'sp' is the state behind the publishing of what is kept as data; 's' the one before. -/
theorem canonAll_ok {sp : St} (h : Inv N w0 Mv Gb Gs hd fp sp a w) (hsl : sp.sl = s.sl) (hlen : a.tmps.size = s.sl.length)
    : ∀ (l : List (Nat × LK)) (K : List Nat) {acc : St} {hd' : Nat → Value} {fp' : Nat → BS} (hA : Acc N w0 Mv Gb Gs hd fp a w K acc hd' fp'),
      (∀ o ∈ valOps l, ∀ tn p, dataV (view s o) = some (tn, p) → VRep w (Gof Gs Gb tn) p.t p.x (a.eval o.2)) →
      (∀ k, k ∈ ownKeys s l → k ∉ K) → (ownKeys s l).Nodup →
      (∀ i k, (i, LK.ptr) ∈ l ∨ (∃ tn, (i, LK.own tn) ∈ l) → keyOf (s.sl.getD i .dead) = some k → sp.ob.getD k .none = s.ob.getD k .none) →
      ∀ {s' : St}, canonAll s acc l = some s' → ∃ K' hd2 fp2, Acc N w0 Mv Gb Gs hd fp a w K' s' hd2 fp2
  | [], K, acc, hd', fp', hA, _, _, _, _, s', hc => by
    simp only [canonAll] at hc
    cases hc
    exact ⟨K, hd', fp', hA⟩
  | (i, lk) :: r, K, acc, hd', fp', hA, hv, hK, hN, hob, s', hc => by
    simp only [canonAll] at hc
    split at hc
    · rename_i acc' h1
      have hob' : ∀ i k, (i, LK.ptr) ∈ r ∨ (∃ tn, (i, LK.own tn) ∈ r) → keyOf (s.sl.getD i .dead) = some k → sp.ob.getD k .none = s.ob.getD k .none := fun j k hj => hob j k (hj.imp (fun h => by simp [h]) (fun ⟨t, h⟩ => ⟨t, by simp [h]⟩))
      cases lk with
      | val tn =>
        simp only [canonOne] at h1
        split at h1
        · rename_i b t x hdv
          split at h1
          · rename_i hb
            cases h1
            have hr := hv (none, .tmp i) (by simp [valOps]) _ _ hdv
            simp only [Act.eval] at hr
            have hz : ∀ ob hd'', SlotR w Gs Gb hd'' ob (mkVal tn t x) (a.tmps.getD i undef) := fun ob hd'' => mkVal_flag hr (fun hh => hb.resolve_left (by simp [hh]))
            refine canonAll_ok h hsl hlen r K (acc := ⟨acc.sl.set i (mkVal tn t x), acc.ob⟩) ⟨hA.inv.setSlot i (hz _ _), hA.from', hA.box⟩ (fun o ho => hv o (by simp [valOps, ho])) ?_ ?_ hob' hc
            · intro k hk; exact hK k (by simp only [ownKeys]; exact List.mem_append_right _ hk)
            · simp only [ownKeys] at hN; exact (List.nodup_append.1 hN).2.1
          · cases h1
        · cases h1
      | own tn =>
        have hv' : ∀ o ∈ valOps r, ∀ tn p, dataV (view s o) = some (tn, p) → VRep w (Gof Gs Gb tn) p.t p.x (a.eval o.2) := fun o ho => hv o (by simpa [valOps] using ho)
        have hN' : (ownKeys s r).Nodup := by simp only [ownKeys] at hN; exact (List.nodup_append.1 hN).2.1
        simp only [canonOne] at h1
        split at h1
        · rename_i hfr
          have hlt := gone_none hfr
          have hslot := h.slots i
          rw [hsl] at hslot
          split at h1
          · rename_i k b nx e x hz ho
            split at h1
            · rename_i hb
              cases h1
              rw [hz] at hslot
              have hkey : keyOf (s.sl.getD i .dead) = some k := by rw [hz]; rfl
              have hok := hob i k (.inr ⟨tn, by simp⟩) hkey
              rw [hz] at ho
              simp only [obOf, keyOf] at ho
              have hobk := h.obs k
              rw [hok, ho] at hobk
              simp only [SlotR] at hslot
              have hkK : k ∉ K := hK k (by simp only [ownKeys]; rw [hkey]; simp)
              have hnew := hA.inv.newKey hfr (v := hd k) (F := fp k) (fun b hb => acc_free h hA hkK hb) (ob := .sl (tn && !flat e) false e x) rfl
                ⟨hobk.1.flag (fun hh => by have := hb.resolve_left (by simp [hh]); subst this; cases flat e <;> simp), by simp⟩
              have hnew2 := hnew.setSlot i (z := .ref (4 * i + 3)) (by
                simp only [SlotR]
                rw [getD_set_self, if_pos hlt]
                exact ⟨rfl, by rw [upd_same]; exact hslot.2⟩)
              refine canonAll_ok h hsl hlen r (k :: K) (acc := ⟨acc.sl.set i (.ref (4 * i + 3)), acc.ob.set (4 * i + 3) (.sl (tn && !flat e) false e x)⟩) ⟨hnew2, fun j b hb => ?_, fun j hj => ?_⟩ hv' ?_ hN' hob' hc
              · by_cases hji : j = 4 * i + 3
                · subst hji; rw [upd_same] at hb; exact ⟨k, by simp, hb⟩
                · rw [upd_ne _ _ hji] at hb; obtain ⟨k', h1, h2⟩ := hA.from' j b hb; exact ⟨k', by simp [h1], h2⟩
              · by_cases hji : j = 4 * i + 3
                · subst hji; simp only [getD_set_self, if_pos hlt, obBox] at hj; cases hj
                · rw [upd_ne _ _ hji, upd_ne _ _ hji]; simp only at hj; rw [getD_set_ne' _ _ _ hji] at hj; exact hA.box j hj
              · intro j hj hjk
                rcases List.mem_cons.1 hjk with rfl | hjk
                · simp only [ownKeys, hkey] at hN
                  exact (List.nodup_append.1 hN).2.2 j (by simp) j hj rfl
                · exact hK j (by simp only [ownKeys]; exact List.mem_append_right _ hj) hjk
            · cases h1
          · rename_i e hz
            cases h1
            rw [hz] at hslot
            simp only [SlotR] at hslot
            have hnew := hA.inv.newKey hfr (v := .slice none 0 0) (F := fun _ => False) (fun b hb => hb.elim) (ob := .sl (tn && !flat e) false e []) rfl ⟨.inl ⟨rfl, rfl⟩, by simp⟩
            have hnew2 := hnew.setSlot i (z := .ref (4 * i + 3)) (by
              simp only [SlotR]
              rw [getD_set_self, if_pos hlt]
              exact ⟨rfl, by rw [upd_same]; exact hslot⟩)
            refine canonAll_ok h hsl hlen r K (acc := ⟨acc.sl.set i (.ref (4 * i + 3)), acc.ob.set (4 * i + 3) (.sl (tn && !flat e) false e [])⟩) ⟨hnew2, fun j b hb => ?_, fun j hj => ?_⟩ hv' ?_ hN' hob' hc
            · by_cases hji : j = 4 * i + 3
              · subst hji; rw [upd_same] at hb; exact hb.elim
              · rw [upd_ne _ _ hji] at hb; exact hA.from' j b hb
            · by_cases hji : j = 4 * i + 3
              · subst hji; simp only [getD_set_self, if_pos hlt, obBox] at hj; cases hj
              · rw [upd_ne _ _ hji, upd_ne _ _ hji]; simp only at hj; rw [getD_set_ne' _ _ _ hji] at hj; exact hA.box j hj
            · intro j hj hjk
              exact hK j (by simp only [ownKeys]; exact List.mem_append_right _ hj) hjk
          · cases h1
        · cases h1
      | ptr =>
        have hv' : ∀ o ∈ valOps r, ∀ tn p, dataV (view s o) = some (tn, p) → VRep w (Gof Gs Gb tn) p.t p.x (a.eval o.2) := fun o ho => hv o (by simpa [valOps] using ho)
        have hN' : (ownKeys s r).Nodup := by simp only [ownKeys] at hN; exact (List.nodup_append.1 hN).2.1
        simp only [canonOne] at h1
        split at h1
        · rename_i k b t x hz ho
          split at h1
          · rename_i hfr
            cases h1
            have hlt := gone_none hfr
            have hslot := h.slots i
            rw [hsl, hz] at hslot
            have hkey : keyOf (s.sl.getD i .dead) = some k := by rw [hz]; rfl
            have hok := hob i k (.inl (by simp)) hkey
            rw [hz] at ho
            simp only [obOf, keyOf] at ho
            have hobk := h.obs k
            rw [hok, ho] at hobk
            simp only [SlotR] at hslot
            have hkK : k ∉ K := hK k (by simp only [ownKeys]; rw [hkey]; simp)
            have hnew := hA.inv.newKey hfr (v := hd k) (F := fp k) (fun b hb => acc_free h hA hkK hb) (ob := .box (!flat t) t x) rfl
              (BoxR.flag hobk (fun hh => by cases flat t <;> simp))
            obtain ⟨b1, o1, e1, e2⟩ := hslot.2 t (by rw [hok, ho]; rfl)
            have hnew2 := hnew.setSlot i (z := .ptr k []) (by
              simp only [SlotR]
              rw [getD_set_self, if_pos hlt]
              refine ⟨rfl, fun t' ht' => ?_⟩
              simp only [obShape, Option.some.injEq, Prod.mk.injEq, true_and] at ht'
              subst ht'
              exact ⟨b1, o1, by rw [upd_same]; exact e1, e2⟩)
            refine canonAll_ok h hsl hlen r (k :: K) (acc := ⟨acc.sl.set i (.ptr k []), acc.ob.set k (.box (!flat t) t x)⟩) ⟨hnew2, fun j b hb => ?_, fun j hj => ?_⟩ hv' ?_ hN' hob' hc
            · by_cases hji : j = k
              · subst hji; rw [upd_same] at hb; exact ⟨j, by simp, hb⟩
              · rw [upd_ne _ _ hji] at hb; obtain ⟨k', h1, h2⟩ := hA.from' j b hb; exact ⟨k', by simp [h1], h2⟩
            · by_cases hji : j = k
              · subst hji; rw [upd_same, upd_same]; exact ⟨rfl, rfl⟩
              · rw [upd_ne _ _ hji, upd_ne _ _ hji]; simp only at hj; rw [getD_set_ne' _ _ _ hji] at hj; exact hA.box j hj
            · intro j hj hjk
              rcases List.mem_cons.1 hjk with rfl | hjk
              · simp only [ownKeys, hkey] at hN
                exact (List.nodup_append.1 hN).2.2 j (by simp) j hj rfl
              · exact hK j (by simp only [ownKeys]; exact List.mem_append_right _ hj) hjk
          · cases h1
        · rename_i k b e x hz ho
          split at h1
          · rename_i hfr
            cases h1
            have hlt := gone_none hfr
            have hslot := h.slots i
            rw [hsl, hz] at hslot
            have hkey : keyOf (s.sl.getD i .dead) = some k := by rw [hz]; rfl
            have hok := hob i k (.inl (by simp)) hkey
            rw [hz] at ho
            simp only [obOf, keyOf] at ho
            have hobk := h.obs k
            rw [hok, ho] at hobk
            simp only [SlotR] at hslot
            have hkK : k ∉ K := hK k (by simp only [ownKeys]; rw [hkey]; simp)
            have hnew := hA.inv.newKey hfr (v := hd k) (F := fp k) (fun b hb => acc_free h hA hkK hb) (ob := .io (!flat e) e x) rfl
              (OwnRow.flag hobk (fun hh => by cases flat e <;> simp))
            have hnew2 := hnew.setSlot i (z := .ref k) (by
              simp only [SlotR]
              rw [getD_set_self, if_pos hlt]
              exact ⟨rfl, by rw [upd_same]; exact hslot.2⟩)
            refine canonAll_ok h hsl hlen r (k :: K) (acc := ⟨acc.sl.set i (.ref k), acc.ob.set k (.io (!flat e) e x)⟩) ⟨hnew2, fun j b hb => ?_, fun j hj => ?_⟩ hv' ?_ hN' hob' hc
            · by_cases hji : j = k
              · subst hji; rw [upd_same] at hb; exact ⟨j, by simp, hb⟩
              · rw [upd_ne _ _ hji] at hb; obtain ⟨k', h1, h2⟩ := hA.from' j b hb; exact ⟨k', by simp [h1], h2⟩
            · by_cases hji : j = k
              · subst hji; rw [upd_same, upd_same]; exact ⟨rfl, rfl⟩
              · rw [upd_ne _ _ hji, upd_ne _ _ hji]; simp only at hj; rw [getD_set_ne' _ _ _ hji] at hj; exact hA.box j hj
            · intro j hj hjk
              rcases List.mem_cons.1 hjk with rfl | hjk
              · simp only [ownKeys, hkey] at hN
                exact (List.nodup_append.1 hN).2.2 j (by simp) j hj rfl
              · exact hK j (by simp only [ownKeys]; exact List.mem_append_right _ hj) hjk
          · cases h1
        · cases h1
    · cases hc
theorem noDup_spec : ∀ {l : List Nat}, noDup l = true → l.Nodup
  | [], _ => .nil
  | k :: r, h => by
    simp only [noDup, Bool.and_eq_true, Bool.not_eq_true'] at h
    refine List.nodup_cons.2 ⟨?_, noDup_spec h.2⟩
    intro hk
    have := List.contains_iff_mem.2 hk
    rw [this] at h
    cases h.1
theorem valOps_own : ∀ {l : List (Nat × LK)} {o : Option Ty × Operand}, o ∈ valOps l → isOwn (view s o) = true → ∀ k, keyOf (rd s o.1 o.2) = some k → ∀ i, (i, LK.ptr) ∈ l ∨ (∃ tn, (i, LK.own tn) ∈ l) → (ownKeys s l).Nodup → keyOf (s.sl.getD i .dead) ≠ some k
  | (j, .val tn) :: r, o, ho, hw, k, hk, i, hi, hN => by
    simp only [ownKeys] at hN
    have hN2 := List.nodup_append.1 hN
    have hi' : (i, LK.ptr) ∈ r ∨ (∃ tn, (i, LK.own tn) ∈ r) := by simpa using hi
    simp only [valOps, List.mem_cons] at ho
    rcases ho with rfl | ho
    · intro hik
      have hin : k ∈ ownKeys s r := ownKeys_mem hi' hik
      have : k ∈ (if isOwn (view s (none, .tmp j)) = true then (keyOf (s.sl.getD j .dead)).toList else []) := by
        rw [if_pos hw]; simp only [rd] at hk; rw [hk]; simp
      exact hN2.2.2 k this k hin rfl
    · exact valOps_own ho hw k hk i hi' hN2.2.1
  | (j, .own tn) :: r, o, ho, hw, k, hk, i, hi, hN => by
    simp only [ownKeys] at hN
    have hN2 := List.nodup_append.1 hN
    simp only [valOps] at ho
    intro hik
    by_cases hij : i = j
    · subst hij
      have h2 : k ∈ ownKeys s r := valKeys_mem ho hw hk
      exact hN2.2.2 k (by rw [hik]; simp) k h2 rfl
    · have hi' : (i, LK.ptr) ∈ r ∨ (∃ tn, (i, LK.own tn) ∈ r) := by simpa [hij] using hi
      exact valOps_own ho hw k hk i hi' hN2.2.1 hik
  | (j, .ptr) :: r, o, ho, hw, k, hk, i, hi, hN => by
    simp only [ownKeys] at hN
    have hN2 := List.nodup_append.1 hN
    simp only [valOps] at ho
    intro hik
    by_cases hij : i = j
    · subst hij
      have h2 : k ∈ ownKeys s r := valKeys_mem ho hw hk
      exact hN2.2.2 k (by rw [hik]; simp) k h2 rfl
    · have hi' : (i, LK.ptr) ∈ r ∨ (∃ tn, (i, LK.own tn) ∈ r) := by simpa [hij] using hi
      exact valOps_own ho hw k hk i hi' hN2.2.1 hik
where
  ownKeys_mem : ∀ {l : List (Nat × LK)} {i k : Nat}, (i, LK.ptr) ∈ l ∨ (∃ tn, (i, LK.own tn) ∈ l) → keyOf (s.sl.getD i .dead) = some k → k ∈ ownKeys s l
    | (j, lk) :: r, i, k, hi, hk => by
      by_cases hj : (i, LK.ptr) ∈ r ∨ (∃ tn, (i, LK.own tn) ∈ r)
      · have := ownKeys_mem hj hk
        cases lk <;> simp only [ownKeys] <;> exact List.mem_append_right _ this
      · rcases hi with hi | ⟨tn, hi⟩
        · rcases List.mem_cons.1 hi with h | h
          · cases h; simp only [ownKeys]; exact List.mem_append_left _ (by rw [hk]; simp)
          · exact absurd (.inl h) hj
        · rcases List.mem_cons.1 hi with h | h
          · cases h; simp only [ownKeys]; exact List.mem_append_left _ (by rw [hk]; simp)
          · exact absurd (.inr ⟨tn, h⟩) hj
    | [], i, k, hi, hk => by simp at hi
  valKeys_mem : ∀ {l : List (Nat × LK)} {o : Option Ty × Operand} {k : Nat}, o ∈ valOps l → isOwn (view s o) = true → keyOf (rd s o.1 o.2) = some k → k ∈ ownKeys s l
    | (j, .val tn) :: r, o, k, ho, hw, hk => by
      simp only [valOps, List.mem_cons] at ho
      simp only [ownKeys]
      rcases ho with rfl | ho
      · refine List.mem_append_left _ ?_
        rw [if_pos hw]; simp only [rd] at hk; rw [hk]; simp
      · exact List.mem_append_right _ (valKeys_mem ho hw hk)
    | (j, .own tn) :: r, o, k, ho, hw, hk => by
      simp only [valOps] at ho; simp only [ownKeys]; exact List.mem_append_right _ (valKeys_mem ho hw hk)
    | (j, .ptr) :: r, o, k, ho, hw, hk => by
      simp only [valOps] at ho; simp only [ownKeys]; exact List.mem_append_right _ (valKeys_mem ho hw hk)
    | [], o, k, ho, _, _ => by simp [valOps] at ho
theorem pubM_own {v : V} {k : Nat} {b : Ob} (h : (k, b) ∈ pubM v) : isOwn v = true ∧ keyOf v.z = some k := by
  unfold pubM at h
  split at h
  · rename_i hz hb; simp at h; obtain ⟨rfl, _⟩ := h; exact ⟨by unfold isOwn; rw [hz, hb], by rw [hz]; rfl⟩
  · rename_i hz hb; simp at h; obtain ⟨rfl, _⟩ := h; exact ⟨by unfold isOwn; rw [hz, hb], by rw [hz]; rfl⟩
  · simp at h
theorem canon_ok (h : Inv N w0 Mv Gb Gs hd fp s a w) {f : FnT} {id : Nat} {s' : St} (hP : ∀ k v F, Mv.pin k v F → ∃ i t m, f.pars[i]? = some (t, m) ∧ m.pinned = true ∧ k = 4 * i) (hc : canon f id s = some s') :
    ∃ Gs' hd' fp', Inv N w0 Mv Gb Gs' hd' fp' s' a w := by
  unfold canon at hc
  split at hc
  · rename_i l hl
    split at hc
    · rename_i hn
      simp only [Bool.and_eq_true, beq_iff_eq] at hn
      split at hc
      · rename_i s2 h2
        split at hc
        · rename_i hpins
          cases hc
          have hND := noDup_spec hn.2
          obtain ⟨Gs1, fp1, h1, _, hv, _, hkk⟩ := pub_data h (valOps l)
          have hA : Acc N w0 Mv Gb Gs1 hd fp1 a w [] ⟨List.replicate f.ntmps .dead, List.replicate (4 * f.ntmps) .none⟩ hd (fun _ _ => False) :=
            ⟨h1.base hd _ _ (by rw [← hn.1]; exact h.len), fun j b hb => hb.elim, fun k hk => by simp only [getD_replicate', obBox] at hk; cases hk⟩
          obtain ⟨K', hd2, fp2, hA2⟩ := canonAll_ok (s := s) h1 rfl h.len.symm l [] hA hv (fun k hk => by simp) hND (fun i k hi hk => by
            have hnk : k ∉ (((valOps l).map (view s)).flatMap pubM).map (·.1) := by
              intro hm
              rw [List.mem_map] at hm
              obtain ⟨⟨k', b⟩, hm, rfl⟩ := hm
              rw [List.mem_flatMap] at hm
              obtain ⟨v, hv', hm⟩ := hm
              rw [List.mem_map] at hv'
              obtain ⟨o, ho, rfl⟩ := hv'
              obtain ⟨q1, q2⟩ := pubM_own hm
              exact valOps_own ho q1 _ q2 i hi hND hk
            have := modOb_get? (l := s.ob) hnk
            simp only [pubS, List.getD_eq_getElem?_getD, this]) h2
          refine ⟨Gs1, hd2, fp2, hA2.inv.ev, hA2.inv.le, hA2.inv.len, hA2.inv.slots, hA2.inv.obs, hA2.inv.own, hA2.inv.disj, hA2.inv.gs, hA2.inv.gb, fun k v F hF => ?_⟩
          obtain ⟨p1, p2, p3⟩ := h1.pin k v F hF
          obtain ⟨i, t, m, hi, hm, rfl⟩ := hP k v F hF
          unfold pinsOk at hpins
          rw [List.all_eq_true] at hpins
          have hb := hpins i (List.mem_range.2 (List.getElem?_eq_some_iff.1 hi).1)
          rw [hi] at hb
          have hb' : obBox (s'.ob.getD (4 * i) .none) = true := by
            revert hb
            generalize s'.ob.getD (4 * i) .none = z
            cases m with
            | ptr => cases z <;> simp [obBox]
            | io => cases z <;> simp [obBox]
            | ln => cases hm
            | mv => cases hm
          obtain ⟨q1, q2⟩ := hA2.box (4 * i) hb'
          exact ⟨hb', q1.trans p2, by rw [q2]; exact p3⟩
        · cases hc
      · cases hc
    · cases hc
  · cases hc
end Go.Proofs.Ytgibeillafnieaa.Eng
