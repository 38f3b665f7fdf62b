/-
  Writing into a row of one's own; a row appended to a part of itself.
-/
import Derived.Test.YtkgpkalclblhbaaGreatDoorS9
namespace Go.Proofs.YtkgpkalclblhbaaGreatDoor.Eng
open Go Go.RowKit
set_option linter.unusedVariables false
set_option linter.unusedSimpArgs false

variable {P : Program} {T : Tab} {N : Nat} {w0 : World} {Mv : Mvp} {Gb Gs : BS} {hd : Nat → Value} {fp : Nat → BS} {s : St} {a : Act} {w w' : World}
theorem rangeAt_set {b o : Nat} {cs ds : List Value} (h : w.rangeAt b o cs) {off : Nat} (hle : off + ds.length ≤ cs.length) (ht : w.there b (o + off) ds.length) : (w.setCells b (o + off) ds).rangeAt b o (cs.take off ++ (ds ++ cs.drop (off + ds.length))) := fun j v hv => by
  by_cases h1 : j < off
  · rw [List.getElem?_append_left (by simp; omega), List.getElem?_take, if_pos h1] at hv
    rw [World.cell?_setCells_out b ds (o + off) w _ (fun _ _ => by left; simp only []; omega)]
    exact h j v hv
  · rw [List.getElem?_append_right (by simp; omega)] at hv
    have hl : (cs.take off).length = off := by simp; omega
    rw [hl] at hv
    by_cases h2 : j - off < ds.length
    · rw [List.getElem?_append_left h2] at hv
      have := World.rangeAt_setCells_same w b (o + off) ds ht (j - off) v hv
      rwa [show o + off + (j - off) = o + j by omega] at this
    · rw [List.getElem?_append_right (by omega), List.getElem?_drop] at hv
      rw [World.cell?_setCells_out b ds (o + off) w _ (fun _ _ => by right; simp only []; omega)]
      exact h j v (by rw [show j = off + ds.length + (j - off - ds.length) by omega]; exact hv)
theorem there_set {b o n c : Nat} {ds : List Value} (h : w.there b o n) (ht : w.there b c ds.length) : (w.setCells b c ds).there b o n := fun j hj => by
  obtain ⟨h1, h2⟩ := h j hj
  refine ⟨?_, by rw [World.frozen?_setCells]; exact h2⟩
  by_cases hin : c ≤ o + j ∧ o + j < c + ds.length
  · have := World.cell?_setCells_in b ds c w (fun q hq => (ht q hq).1) (o + j - c) (by omega)
    rw [show c + (o + j - c) = o + j by omega] at this
    rw [this]; rfl
  · rw [World.cell?_setCells_out b ds c w _ (fun _ _ => by simp only []; omega)]
    exact h1
theorem there_sub {b o n k l : Nat} (h : w.there b o n) (hk : k + l ≤ n) : w.there b (o + k) l := fun j hj => by
  have := h (k + j) (by omega); rwa [show o + k + j = o + (k + j) by omega]

theorem own_write {G : BS} {e : Ty} {xs ys : List (Den e)} {b o cap : Nat} {cs ds : List Value} (g4 : RepL w G e xs cs) (g5 : w.rangeAt b o cs) (g6 : w.there b o (cap * sz e)) (g2 : xs.length ≤ cap) (hy : RepL w G e ys ds) (p : Nat)
    (hp : p + ys.length ≤ xs.length) (hmv : ∀ c, G c → (w.setCells b (o + p * sz e) ds).heap[c]? = w.heap[c]?) :
    w.there b (o + p * sz e) ds.length ∧ RepL (w.setCells b (o + p * sz e) ds) G e (xs.take p ++ (ys ++ xs.drop (p + ys.length))) (cs.take (p * sz e) ++ (ds ++ cs.drop (p * sz e + ds.length))) ∧
      (w.setCells b (o + p * sz e) ds).rangeAt b o (cs.take (p * sz e) ++ (ds ++ cs.drop (p * sz e + ds.length))) ∧ (w.setCells b (o + p * sz e) ds).there b o (cap * sz e) := by
  have hl := g4.len
  have hd := hy.len
  have e1 : (p + ys.length) * sz e ≤ xs.length * sz e := Nat.mul_le_mul_right _ hp
  have e2 : xs.length * sz e ≤ cap * sz e := Nat.mul_le_mul_right _ g2
  rw [Nat.add_mul] at e1
  have hth : w.there b (o + p * sz e) ds.length := there_sub g6 (by omega)
  have hdrop := g4.drop (p + ys.length)
  rw [Nat.add_mul, ← hd] at hdrop
  exact ⟨hth, ((g4.take p).append (hy.append hdrop)).move (fun _ h => h) hmv, rangeAt_set g5 (by omega) hth, there_set g6 hth⟩
theorem ob_same {l : List Ob} {k : Nat} {b : Ob} (h : l.getD k .none = b) (hb : b ≠ .none) : l.set k b = l := by
  have hk : k < l.length := by
    rcases Nat.lt_or_ge k l.length with h' | h'
    · exact h'
    · rw [List.getD_eq_getElem?_getD, List.getElem?_eq_none h'] at h; exact absurd h.symm hb
  rw [List.getD_eq_getElem?_getD, List.getElem?_eq_getElem hk] at h
  simp only [Option.getD_some] at h
  rw [← h, List.set_getElem_self]
/-- A part of a row that begins it, and what is appended to it out of the same row. -/
theorem append_view (hT : TabOk P T) (h : Inv N w0 Mv Gb Gs hd fp s a w) {t : TypeId} {e : Ty} (ht : rowT T t = some e) (ty : TypeId) {k : Nat} {tn nx : Bool} {xs : List (Den e)} (hob : s.ob.getD k .none = .sl tn nx e xs) {hi lo : Nat} {n cap : Nat} {va : Option Addr}
    (hk : hd k = .slice va n cap) (h1 : hi ≤ lo) (h2 : lo ≤ xs.length) :
    ∃ w1, (Builtin.append_ #[t, t] ty #[.slice (if cap = 0 then va else va.map (·.add (0 * sz e))) (hi - 0) (cap - 0), .slice (if cap = lo then va else va.map (·.add (lo * sz e))) (xs.length - lo) (cap - lo)]).run P w =
        .ok (.slice (if cap = 0 then va else va.map (·.add (0 * sz e))) (hi + (xs.length - lo) - 0) (cap - 0)) w1 ∧
      Inv N w0 Mv Gb Gs hd fp ⟨s.sl, s.ob.set k (.sl tn nx e (xs.take hi ++ (xs.drop lo ++ xs.drop (hi + (xs.length - lo)))))⟩ a w1 := by
  obtain ⟨eid, i, hu, hi', hs, hby, zz, hz, hzc⟩ := elem_facts hT ht
  have h0 := h.obs k
  rw [hob] at h0
  have haddr : ∀ va : Option Addr, va.map (·.add (0 * sz e)) = va := fun va => by cases va <;> simp [Addr.add]
  rcases h0.1 with ⟨g1, g2⟩ | ⟨b, o, cap', cs, g1, g2, g3, g4, g5, g6⟩
  · rw [hk] at g1
    cases g1
    subst g2
    simp only [List.length_nil, Nat.le_zero] at h2
    obtain rfl : lo = 0 := h2
    obtain rfl : hi = 0 := by omega
    refine ⟨w, ?_, ?_⟩
    · have := run_append_nilnil (P := P) w t ty eid i hu hi' (.slice none 0 0) rfl (run_firstCells_none (P := P) w i.size 0 0 0)
      simpa using this
    · rw [ob_same (b := .sl tn nx e _) (by rw [hob]; simp) (by simp)]
      exact h
  · rw [hk] at g1
    cases g1
    have hcl := g4.len
    have hyr : RepL w (Gof Gs Gb tn) e (xs.drop lo) (cs.drop (lo * sz e)) := g4.drop lo
    have hyl := hyr.len
    have hlen : (xs.drop lo).length = xs.length - lo := by simp
    rw [hlen] at hyl
    have hmv : ∀ c, Gof Gs Gb tn c → (w.setCells b (o + hi * sz e) (cs.drop (lo * sz e))).heap[c]? = w.heap[c]? := fun c hc => setCells_block b _ _ w c (fun e => by
      subst e; exact hc.elim (h.own k c g3).2.2.1 (fun q => (h.own k c g3).2.2.2 q.2))
    obtain ⟨w1, w2, w3, w4⟩ := own_write g4 g5 g6 g2 hyr hi (by rw [hlen]; omega) hmv
    rw [hlen] at w2
    have hlo : lo * sz e ≤ xs.length * sz e := Nat.mul_le_mul_right _ h2
    have hy2 : (if cap = lo then some (⟨b, o, none⟩ : Addr) else (some (⟨b, o, none⟩ : Addr)).map (·.add (lo * sz e))) = some ⟨b, if cap = lo then o else o + lo * sz e, none⟩ := by
      split
      · rfl
      · simp [Addr.add_mid]
    have hfirst : (Builtin.firstCells i.size (xs.length - lo) (.slice (some ⟨b, if cap = lo then o else o + lo * sz e, none⟩) (xs.length - lo) (cap - lo))).run P w = .ok (cs.drop (lo * sz e)).toArray w := by
      refine run_firstCells_some (P := P) w i.size (xs.length - lo) _ (xs.length - lo) (cap - lo) _ (by rw [hs]; exact hyl) (fun j v hv => ?_)
      rw [Addr.add_mid]
      split
      · rename_i hc
        have : cs.drop (lo * sz e) = [] := List.drop_eq_nil_of_le (by
          have : xs.length * sz e ≤ lo * sz e := Nat.mul_le_mul_right _ (by omega)
          omega)
        rw [this] at hv
        simp at hv
      · rw [List.getElem?_drop] at hv
        have := g5 _ v hv
        rwa [show o + (lo * sz e + j) = o + lo * sz e + j by omega] at this
    have hr := run_append_fit (P := P) w t ty eid i hu hi' b o hi cap (xs.length - lo) (.slice (some ⟨b, if cap = lo then o else o + lo * sz e, none⟩) (xs.length - lo) (cap - lo)) rfl (cs.drop (lo * sz e)) hfirst (by rw [hs]; exact hyl) (by omega) (by rw [hs, ← hyl]; exact w1) hyr.one
    refine ⟨w.setCells b (o + hi * i.size) (cs.drop (lo * sz e)), ?_, ?_⟩
    · rw [hy2, haddr, ite_self]
      simp only [Nat.sub_zero]
      exact hr
    · rw [hs]
      refine h.store (k := k) (b := b) g3 (ob := .sl tn nx e (xs.take hi ++ (xs.drop lo ++ xs.drop (hi + (xs.length - lo))))) (by rw [hob]; rfl) (fun h => by rw [hob] at h; cases h) (by rw [hob]; rfl) rfl (o + hi * sz e) (cs.drop (lo * sz e)) ⟨.inr ⟨b, o, cap, _, ?_, ?_, g3, w2, w3, w4⟩, fun hnx hx => ?_⟩
      · rw [hk]
        congr 1
        simp
        omega
      · simp; omega
      · have hl : (xs.take hi ++ (xs.drop lo ++ xs.drop (hi + (xs.length - lo)))).length = xs.length := by simp; omega
        rw [hx] at hl
        have : xs = [] := List.eq_nil_of_length_eq_zero hl.symm
        exact h0.2 hnx this
end Go.Proofs.YtkgpkalclblhbaaGreatDoor.Eng
