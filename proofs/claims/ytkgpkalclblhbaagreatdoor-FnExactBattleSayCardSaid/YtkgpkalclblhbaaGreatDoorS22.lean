/-
  A region whose order is drawn.
-/
import Derived.Test.YtkgpkalclblhbaaGreatDoorS21
namespace Go.Proofs.YtkgpkalclblhbaaGreatDoor.Eng
open Go Go.RowKit
set_option linter.unusedVariables false
set_option linter.unusedSimpArgs false

variable {P : Program} {T : Tab} {N : Nat} {w0 : World} {Mv : Mvp} {Gb Gs : BS} {hd : Nat → Value} {fp : Nat → BS} {s : St} {a : Act} {w w' : World}

theorem RunsL.front {call : (g : Nat) → List PV → Option (T.R g)} {own : List Nat} {ops : Array Oper} {lam : Nat → Log} {i : Nat} {B : List Nat} : ∀ (A : List Nat) {s s' : St}, RunsL T call own ops lam (A ++ i :: B) s s' →
    (∀ j ∈ A, ∀ oi oj, ops[i]? = some oi → ops[j]? = some oj → apartB T ops oi oj (lam i) (lam j) = true) → RunsL T call own ops lam (i :: A ++ B) s s'
  | [], s, s', h, _ => h
  | j :: A, s, s', h, hA => by
    obtain ⟨oj, zj, mj, h1, h2, h3⟩ := h
    obtain ⟨oi, zi, mi, g1, g2, g3⟩ := RunsL.front A h3 (fun k hk => hA k (by simp [hk]))
    obtain ⟨c1, c2, c3⟩ := commute h2 g2 (.inr (hA j (by simp) oi oj g1 h1))
    refine ⟨oi, zi, mi, g1, c1, oj, zj, mj, h1, c2, ?_⟩
    rw [← c3]
    exact g3
theorem pairsWith_spec {ops : Array Oper} {i : Nat} {x : Log} : ∀ {l : List Log}, pairsWith T ops i x l = true → ∀ j, j < l.length → ∀ y, l.reverse[j]? = some y → pairOk T ops i j x y = true
  | [], _, j, hj, _, _ => by simp at hj
  | z :: r, h, j, hj, y, hy => by
    simp only [pairsWith, Bool.and_eq_true] at h
    simp only [List.reverse_cons] at hy
    simp only [List.length_cons] at hj
    by_cases hjr : j < r.length
    · rw [List.getElem?_append_left (by simpa using hjr)] at hy
      exact pairsWith_spec h.2 j hjr y hy
    · have : j = r.length := by omega
      subst this
      rw [List.getElem?_append_right (by simp)] at hy
      simp at hy
      subst hy
      exact h.1
theorem pairsOk_spec {ops : Array Oper} : ∀ {l : List Log}, pairsOk T ops l = true → ∀ i j, j < i → ∀ x y, l.reverse[i]? = some x → l.reverse[j]? = some y → pairOk T ops i j x y = true
  | [], _, i, j, _, x, y, hx, _ => by simp at hx
  | z :: r, h, i, j, hji, x, y, hx, hy => by
    simp only [pairsOk, Bool.and_eq_true] at h
    simp only [List.reverse_cons] at hx hy
    have hi : i < r.length + 1 := by
      rcases Nat.lt_or_ge i (r.length + 1) with h | h
      · exact h
      · rw [List.getElem?_eq_none (by simpa using h)] at hx; cases hx
    rw [List.getElem?_append_left (by simp; omega)] at hy
    by_cases hir : i < r.length
    · rw [List.getElem?_append_left (by simpa using hir)] at hx
      exact pairsOk_spec h.2 i j hji x y hx hy
    · have : i = r.length := by omega
      subst this
      rw [List.getElem?_append_right (by simp)] at hx
      simp at hx
      subst hx
      exact pairsWith_spec h.1 j hji y hy
theorem anc_listed {ops : Array Oper} {listed : Array Bool} (hc : ∀ k, listed.getD k false = true → ∀ o, ops[k]? = some o → ∀ e ∈ o.after, Region.binds .any e = true → listed.getD e.on false = true) {j : Nat} :
    ∀ (n i : Nat), (∀ o, ops[i]? = some o → ∀ e ∈ o.after, Region.binds .any e = true → listed.getD e.on false = true) → anc ops j n i = true → listed.getD j false = true
  | 0, i, _, h => by simp [anc] at h
  | n + 1, i, hi, h => by
    unfold anc at h
    split at h
    · rename_i o ho
      rw [Array.any_eq_true'] at h
      obtain ⟨e, he, h⟩ := h
      simp only [Bool.and_eq_true, Bool.or_eq_true, beq_iff_eq] at h
      have hl := hi o ho e he h.1
      rcases h.2 with h2 | h2
      · rw [← h2]; exact hl
      · exact anc_listed hc n e.on (fun o' ho' => hc e.on hl o' ho') h2.2
    · cases h
theorem edgesOk_spec {ops : Array Oper} (h : edgesOk ops = true) {i : Nat} {o : Oper} (ho : ops[i]? = some o) : ∀ e ∈ o.after, Region.binds .any e = true → e.on < i := by
  unfold edgesOk at h
  rw [List.all_eq_true] at h
  have hlt : i < ops.size := (Array.getElem?_eq_some_iff.1 ho).1
  have := h i (List.mem_range.2 hlt)
  rw [ho] at this
  simp only [Array.all_eq_true_iff_forall_mem] at this
  intro e he hb
  have := this e he
  rw [hb] at this
  simpa using this
theorem any_ok (hT : TabOk P T) {call : (g : Nat) → List PV → Option (T.R g)} (hS : SoundM P T Mv call) (hFn : ∀ g f, T.fn g = some f → FnOk P g f) {own : List Nat} {ops : Array Oper} {lam : Nat → Log} {Q : Exit → Act → World → Prop} (he : edgesOk ops = true)
    (hp : ∀ i j, j < i → i < ops.size → pairOk T ops i j (lam i) (lam j) = true) :
    ∀ (fuel : Nat) (listed : Array Bool) (L : List Nat) {s s' : St} {Gs : BS} {hd : Nat → Value} {fp : Nat → BS} {a : Act} {w : World} (h : Inv N w0 Mv Gb Gs hd fp s a w), RunsL T call own ops lam L s s' →
    L.length = fuel → L.Pairwise (· < ·) → listed.size = ops.size → (∀ j, j ∈ L ↔ listed.getD j true = false) →
    (∀ k, listed.getD k false = true → ∀ o, ops[k]? = some o → ∀ e ∈ o.after, Region.binds .any e = true → listed.getD e.on false = true) →
    (∀ a' w' Gs' hd' fp', Inv N w0 Mv Gb Gs' hd' fp' s' a' w' → a'.defers = a.defers → Q .normal a' w') → wpAny P .any ops Q fuel listed a w
  | 0, listed, L, s, s', Gs, hd, fp, a, w, h, hr, hl, hpw, hsz, hm, hc, hQ => by
    obtain rfl := List.eq_nil_of_length_eq_zero hl
    simp only [RunsL] at hr
    subst hr
    refine ⟨?_, hQ a w Gs hd fp h rfl⟩
    rw [List.eq_nil_iff_forall_not_mem]
    intro j hj
    have := (hm j).2 (mem_ready.1 hj).1
    simp at this
  | n + 1, listed, L, s, s', Gs, hd, fp, a, w, h, hr, hl, hpw, hsz, hm, hc, hQ => by
    refine ⟨fun hnil => ?_, fun i hi => ?_⟩
    · exfalso
      match L, hl with
      | i :: L', _ =>
        have hi := (hm i).1 (by simp)
        have hir : i ∈ Region.ready .any ops listed := by
          refine mem_ready.2 ⟨hi, ?_⟩
          have hlt : i < ops.size := by
            rcases Nat.lt_or_ge i ops.size with h | h
            · exact h
            · rw [← hsz] at h; simp [Array.getElem?_eq_none h] at hi
          refine ⟨ops[i], Array.getElem?_eq_getElem hlt, fun e he' hb => ?_⟩
          have hlt' := edgesOk_spec he (Array.getElem?_eq_getElem hlt) e he' hb
          have hne : ¬ listed.getD e.on true = false := by
            rw [← hm]
            intro hmem
            rcases List.mem_cons.1 hmem with h | h
            · omega
            · have := List.rel_of_pairwise_cons hpw h; omega
          have hlt2 : e.on < listed.size := by omega
          simp [hlt2] at hne ⊢
          exact hne
        rw [hnil] at hir
        simp at hir
    · have hri := mem_ready.1 hi
      obtain ⟨A, B, rfl⟩ := List.append_of_mem ((hm i).2 hri.1)
      have hlt : i < ops.size := by
        obtain ⟨o, ho, _⟩ := hri.2
        exact (Array.getElem?_eq_some_iff.1 ho).1
      have hA : ∀ j ∈ A, j < i := fun j hj => (List.pairwise_append.1 hpw).2.2 j hj i (by simp)
      have hr' := hr.front A (fun j hj oi oj hoi hoj => by
        have hpk := hp i j (hA j hj) hlt
        unfold pairOk at hpk
        rw [hoi, hoj] at hpk
        simp only [Bool.or_eq_true] at hpk
        rcases hpk with hpk | hpk
        · exact hpk
        · exfalso
          have := anc_listed hc ops.size i (fun o ho e hee hb => by
            obtain ⟨o', ho', hall⟩ := hri.2
            rw [ho] at ho'
            cases ho'
            exact hall e hee hb) hpk
          have h2 := (hm j).1 (by simp [hj])
          have hjlt : j < listed.size := by have := hA j hj; omega
          simp [hjlt] at this h2
          rw [this] at h2
          cases h2)
      obtain ⟨o, z, m, h1, h2, h3⟩ := hr'
      refine step_ok hT hS hFn h h1 h2 (fun a' w' Gs' hd' fp' h' hdf => ?_)
      refine any_ok hT hS hFn he hp n (listed.setIfInBounds i true) (A ++ B) h' h3 (by simp at hl ⊢; omega) ?_ (by simp [hsz]) (fun j => ?_) (fun k hk o' ho' e hee hb => ?_) (fun a2 w2 Gs2 hd2 fp2 h2 hdf2 => hQ a2 w2 Gs2 hd2 fp2 h2 (hdf2.trans hdf))
      · exact hpw.sublist (List.Sublist.append (List.Sublist.refl A) (List.sublist_cons_self i B))
      · have hnd : (A ++ i :: B).Nodup := hpw.imp (fun h => Nat.ne_of_lt h)
        by_cases hji : j = i
        · subst hji
          have : j < listed.size := by omega
          simp [this]
          have := List.nodup_append.1 hnd
          refine ⟨fun hj => this.2.2 j hj j (by simp) rfl, fun hj => (List.nodup_cons.1 this.2.1).1 hj⟩
        · rw [getD_set_ne true (fun e => hji e.symm), ← hm]
          simp [hji]
      · by_cases hki : k = i
        · subst hki
          obtain ⟨o2, ho2, hall⟩ := hri.2
          rw [ho'] at ho2
          cases ho2
          exact getD_set_true (hall e hee hb)
        · rw [getD_set_ne false (fun e => hki e.symm)] at hk
          exact getD_set_true (hc k hk o' ho' e hee hb)

/-- A region. -/
theorem region_ok (hm : P.follows .mixedOrders = true) (hT : TabOk P T) {call : (g : Nat) → List PV → Option (T.R g)} (hS : SoundM P T Mv call) (hFn : ∀ g f, T.fn g = some f → FnOk P g f) (h : Inv N w0 Mv Gb Gs hd fp s a w) {R : Type} {own : List Nat} {id : Nat} {ops : Array Oper} {draw : Bool} {K : St → Option R} {r : R}
    (hx : execRegion T call own ops draw s K = some r) :
    ∃ s', K s' = some r ∧ ∀ (Q : Exit → Act → World → Prop), (∀ a' w' Gs' hd' fp', Inv N w0 Mv Gb Gs' hd' fp' s' a' w' → a'.defers = a.defers → Q .normal a' w') → (Code.region id ops draw).wp P Q a w := by
  unfold execRegion at hx
  obtain ⟨s', lam, hr, hx⟩ := execOps_runs ops.toList 0 (by simp) hx
  split at hx
  · rename_i hd
    refine ⟨s', hx, fun Q hQ => ?_⟩
    simp only [Array.length_toList] at hr hd
    cases draw with
    | false =>
      refine wp_region ?_
      rw [List.range_eq_range']
      exact runs_ok hT hS hFn _ h hr hQ
    | true =>
      simp only [Bool.not_true, Bool.false_or, List.append_nil, Bool.and_eq_true] at hd
      refine wp_region_any hm ?_
      refine any_ok hT hS hFn hd.2 (lam := lam) (fun i j hji hi => ?_) ops.size _ (List.range' 0 ops.size) h.drew hr (by simp) ?_ (by simp) (fun j => ?_) (fun k hk => ?_) hQ
      · have hj : j < ops.size := by omega
        refine pairsOk_spec hd.1 i j hji _ _ ?_ ?_
        · rw [List.reverse_reverse]; simp [hi]
        · rw [List.reverse_reverse]; simp [hj]
      · rw [← List.range_eq_range']; exact List.pairwise_lt_range
      · rw [List.mem_range'_1]
        by_cases hj : j < ops.size
        · simp [hj]
        · simp [hj]
      · exfalso
        by_cases hj : k < ops.size
        · simp [hj] at hk
        · simp [hj] at hk
  · cases hx
end Go.Proofs.YtkgpkalclblhbaaGreatDoor.Eng
