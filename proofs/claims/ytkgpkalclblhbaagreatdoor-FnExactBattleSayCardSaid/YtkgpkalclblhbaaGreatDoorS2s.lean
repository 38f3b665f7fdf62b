/-
  Rows of rows of one's own: kept as rows that nobody writes any more, and taken back.
-/
import Derived.Test.YtkgpkalclblhbaaGreatDoorS2
namespace Go.Proofs.YtkgpkalclblhbaaGreatDoor.Eng
open Go Go.RowKit
set_option linter.unusedVariables false
set_option linter.unusedSimpArgs false

variable {N : Nat} {w0 : World} {Mv : Mvp} {Gb Gs : BS} {hd : Nat → Value} {fp : Nat → BS} {s : St} {a : Act} {w w' : World}

theorem ob_lt {l : List Ob} {k : Nat} (hk : isNone (l.getD k .none) = false) : k < l.length := by
  rcases Nat.lt_or_ge k l.length with h | h
  · exact h
  · rw [List.getD_eq_getElem?_getD, List.getElem?_eq_none h] at hk; cases hk
/-- What lies under a key is kept otherwise: blocks that are not kept are shared from here on. -/
theorem Inv.regive (h : Inv N w0 Mv Gb Gs hd fp s a w) {k : Nat} (hk : isNone (s.ob.getD k .none) = false) (hnb : obBox (s.ob.getD k .none) = false) {ob : Ob} (hsh : obShape ob = obShape (s.ob.getD k .none)) (hn : isNone ob = false)
    {hd' : Nat → Value} (hhd : ∀ j, j < regM → hd' j = hd j) {F : BS} (hF : ∀ b, F b → fp k b) (hR : ∀ v, Rg hd v → Rg hd' v) (hreg : RegW N Mv.bs (fun b => Gs b ∨ (fp k b ∧ ¬ F b)) hd' w)
    (hr : ObR w (fun b => Gs b ∨ (fp k b ∧ ¬ F b)) Gb hd' s.ob (hd k) F ob) :
    Inv N w0 Mv Gb (fun b => Gs b ∨ (fp k b ∧ ¬ F b)) hd' (upd fp k F) ⟨s.sl, s.ob.set k ob⟩ a w := by
  have hlt := ob_lt hk
  have hsm := h.small
  have hlow : ∀ j, isNone (s.ob.getD j .none) = false → hd' j = hd j := fun j hj => hhd j (Nat.lt_of_lt_of_le (ob_lt hj) hsm)
  have hkk : ∀ j, isNone (s.ob.getD j .none) = false → isNone ((s.ob.set k ob).getD j .none) = false ∧ hd' j = hd j ∧ (∀ r, obShape ((s.ob.set k ob).getD j .none) = some r → obShape (s.ob.getD j .none) = some r) := fun j hj => by
    by_cases hjk : j = k
    · subst hjk; simp only [getD_set_self, hlt, if_true]; exact ⟨hn, hlow j hj, fun r hr => by rw [← hsh]; exact hr⟩
    · simp only [getD_set_ne' _ _ _ hjk]; exact ⟨hj, hlow j hj, fun _ x => x⟩
  refine ⟨h.ev, h.le, h.len, fun i => slot_move (fun _ x => .inl x) (fun _ _ => rfl) hkk hR _ _ (h.slots i), fun j => ?_, fun j b hb => ?_, fun i j b hi hj => ?_, fun b hb => ?_, h.gb, fun j v F hp => ?_, h.fix, by simp only [List.length_set]; exact hsm, hreg⟩
  rotate_right
  · obtain ⟨p1, p2, p3⟩ := h.pin j v F hp
    have hjk : j ≠ k := fun e => by subst e; rw [hnb] at p1; cases p1
    have hj : isNone (s.ob.getD j .none) = false := by revert p1; cases s.ob.getD j .none <;> simp [obBox, isNone]
    simp only [getD_set_ne' _ _ _ hjk, upd_ne _ _ hjk]; exact ⟨p1, by rw [hlow j hj]; exact p2, p3⟩
  · by_cases hjk : j = k
    · subst hjk
      simp only [getD_set_self, hlt, if_true, upd_same]
      rw [hlow j hk]
      exact hr.move (fun _ x => x) (fun _ _ => rfl) (fun _ x => x) (fun i hi => ⟨(hkk i hi).1, rfl, (hkk i hi).2.2⟩) (fun _ h => h)
    · simp only [getD_set_ne' _ _ _ hjk, upd_ne _ _ hjk]
      by_cases hj : isNone (s.ob.getD j .none) = true
      · revert hj; cases s.ob.getD j .none <;> simp [isNone, ObR]
      · simp only [Bool.not_eq_true] at hj
        rw [hlow j hj]
        exact (h.obs j).move (fun _ x => .inl x) (fun _ _ => rfl) (fun _ x => x) hkk hR
  · by_cases hjk : j = k
    · subst hjk
      rw [upd_same] at hb
      have ho := h.own j b (hF b hb)
      exact ⟨ho.1, ho.2.1, fun hh => hh.elim ho.2.2.1 (fun q => q.2 hb), ho.2.2.2⟩
    · rw [upd_ne _ _ hjk] at hb
      have ho := h.own j b hb
      exact ⟨ho.1, ho.2.1, fun hh => hh.elim ho.2.2.1 (fun q => hjk (h.disj j k b hb q.1)), ho.2.2.2⟩
  · by_cases hik : i = k
    · subst hik
      rw [upd_same] at hi
      by_cases hjk : j = i
      · exact hjk.symm
      · rw [upd_ne _ _ hjk] at hj; exact h.disj i j b (hF b hi) hj
    · rw [upd_ne _ _ hik] at hi
      by_cases hjk : j = k
      · subst hjk; rw [upd_same] at hj; exact h.disj i j b hi (hF b hj)
      · rw [upd_ne _ _ hjk] at hj; exact h.disj i j b hi hj
  · rcases hb with hb | hb
    · exact h.gs b hb
    · exact ⟨(h.own k b hb.1).1, (h.own k b hb.1).2.1.imp id .inl⟩

/-- Heads are noted. -/
def putHeads (hd : Nat → Value) : List Value → Nat → Value
  | [] => hd
  | u :: r => match u with
    | .slice (some ⟨b, o, p⟩) n c => upd (putHeads hd r) (regM + b) (.slice (some ⟨b, o, p⟩) n c)
    | _ => putHeads hd r
theorem putHeads_low (hd : Nat → Value) : ∀ (l : List Value) (j : Nat), j < regM → putHeads hd l j = hd j
  | [], _, _ => rfl
  | u :: r, j, hj => by
    unfold putHeads
    split
    · rw [upd_ne _ _ (by omega)]; exact putHeads_low hd r j hj
    · exact putHeads_low hd r j hj
/-- Two heads of one block. -/
def Apart (u u' : Value) : Prop := ∀ b o n c o' n' c', u = .slice (some ⟨b, o, none⟩) n c → u' = .slice (some ⟨b, o', none⟩) n' c' → False
theorem putHeads_rg (hd : Nat → Value) : ∀ (l : List Value), (∀ u ∈ l, u = .slice none 0 0 ∨ ∃ b o n c, u = .slice (some ⟨b, o, none⟩) n c) → l.Pairwise Apart → (∀ v, Rg hd v → ∀ u ∈ l, Apart u v) →
    (∀ v, Rg hd v → Rg (putHeads hd l) v) ∧ (∀ u ∈ l, RgN (putHeads hd l) u) ∧ (∀ v, Rg (putHeads hd l) v → v ∈ l ∨ Rg hd v)
  | [], _, _, _ => ⟨fun _ h => h, fun _ h => by simp at h, fun _ h => .inr h⟩
  | u :: r, hl, hp, hv => by
    have hp' := List.pairwise_cons.1 hp
    obtain ⟨h1, h2, h3⟩ := putHeads_rg hd r (fun u hu => hl u (by simp [hu])) hp'.2 (fun v hr u hu => hv v hr u (by simp [hu]))
    rcases hl u (by simp) with rfl | ⟨b, o, n, c, rfl⟩
    · have e : putHeads hd (.slice none 0 0 :: r) = putHeads hd r := rfl
      rw [e]
      refine ⟨h1, fun u hu => ?_, fun v hr => (h3 v hr).imp (fun h => by simp [h]) id⟩
      rcases List.mem_cons.1 hu with rfl | hu
      · exact .inl rfl
      · exact h2 u hu
    · have e : putHeads hd (.slice (some ⟨b, o, none⟩) n c :: r) = upd (putHeads hd r) (regM + b) (.slice (some ⟨b, o, none⟩) n c) := rfl
      rw [e]
      have keep : ∀ v, Apart (.slice (some ⟨b, o, none⟩) n c) v → Rg (putHeads hd r) v → Rg (upd (putHeads hd r) (regM + b) (.slice (some ⟨b, o, none⟩) n c)) v := by
        rintro v hA ⟨b', o', n', c', rfl, e2⟩
        refine ⟨b', o', n', c', rfl, ?_⟩
        rw [upd_ne _ _ (fun hh => ?_)]
        · exact e2
        · have : b' = b := by omega
          subst this
          exact hA _ _ _ _ _ _ _ rfl rfl
      refine ⟨fun v hr => keep v (hv v hr _ (by simp)) (h1 v hr), fun u hu => ?_, ?_⟩
      · rcases List.mem_cons.1 hu with rfl | hu
        · exact .inr ⟨b, o, n, c, rfl, upd_same _ _ _⟩
        · rcases h2 u hu with h2 | h2
          · exact .inl h2
          · exact .inr (keep u (hp'.1 u hu) h2)
      · rintro v ⟨b', o', n', c', rfl, e2⟩
        by_cases hb : b' = b
        · subst hb
          rw [upd_same] at e2
          left; rw [← e2]; simp
        · rw [upd_ne _ _ (by omega)] at e2
          rcases h3 _ ⟨b', o', n', c', rfl, e2⟩ with h3 | h3
          · left; simp [h3]
          · right; exact h3
theorem dpr_head {e : Ty} {x : List (Den e)} {v : Value} {G : BS} (h : DpR w e x v G) : v = .slice none 0 0 ∨ ∃ b o n c, v = .slice (some ⟨b, o, none⟩) n c ∧ G b ∧ w.there b o (c * sz e) := by
  rcases h with h1 | ⟨G', b, o, cap, ds, h1, h2', h3, h4, h5, h6, h7⟩
  · exact .inl h1.1
  · exact .inr ⟨b, o, _, cap, h1, h3, h7⟩
/-- The heads of rows that lie apart. -/
theorem sep_heads : ∀ {x : List (List Int)} {cs : List Value} {G : BS}, SepL w G (.sl (.int .i64)) x cs →
    (∀ u ∈ cs, u = .slice none 0 0 ∨ ∃ b o n c, u = .slice (some ⟨b, o, none⟩) n c ∧ G b ∧ w.there b o (c * sz (.int .i64))) ∧ cs.Pairwise Apart
  | [], cs, G, h => by
    cases h
    exact ⟨fun _ h => by simp at h, .nil⟩
  | x :: xs, cs, G, h => by
    cases h with
    | cons _ G1 G2 _ _ _ c d g1 g2 g3 h1 h2 =>
      obtain ⟨v, hv0, h1d⟩ := DpR.of_sep h1
      subst hv0
      obtain ⟨i1, i2⟩ := sep_heads h2
      have hv : v = .slice none 0 0 ∨ ∃ b o n c, v = .slice (some ⟨b, o, none⟩) n c ∧ G1 b ∧ w.there b o (c * sz (.int .i64)) := by
        exact dpr_head h1d
      refine ⟨fun u hu => ?_, ?_⟩
      · simp only [List.singleton_append, List.mem_cons] at hu
        rcases hu with rfl | hu
        · exact hv.imp id (fun ⟨b, o, n, c, e1, e2, e3⟩ => ⟨b, o, n, c, e1, g1 b e2, e3⟩)
        · exact (i1 u hu).imp id (fun ⟨b, o, n, c, e1, e2, e3⟩ => ⟨b, o, n, c, e1, g2 b e2, e3⟩)
      · rw [List.singleton_append, List.pairwise_cons]
        refine ⟨fun u hu => ?_, i2⟩
        intro b o n c o' n' c' e e'
        subst e
        rcases hv with hv | ⟨b1, o1, n1, c1, hv, q1, _⟩
        · cases hv
        · cases hv
          rcases i1 u hu with hu | ⟨b2, o2, n2, c2, hu, q2, _⟩
          · rw [hu] at e'; cases e'
          · rw [hu] at e'; cases e'; exact g3 _ q1 q2
theorem apart_ne {cs : List Value} (hl : ∀ u ∈ cs, u = .slice none 0 0 ∨ ∃ b o n c, u = .slice (some ⟨b, o, none⟩) n c) : cs.Pairwise Apart → cs.Pairwise (fun u u' => u = u' → u = .slice none 0 0) := by
  intro hp
  refine List.Pairwise.imp_of_mem (fun {u u'} hu hu' hA => ?_) hp
  rintro rfl
  rcases hl u hu with h | ⟨b, o, n, c, rfl⟩
  · exact h
  · exact (hA _ _ _ _ _ _ _ rfl rfl).elim
/-- Rows of one's own are read-only from here on. -/
theorem Inv.toSd (h : Inv N w0 Mv Gb Gs hd fp s a w) {k : Nat} {x : List (List Int)} (hk : s.ob.getD k .none = .dp (.sl (.int .i64)) x) : ∃ Gs' hd' fp', Inv N w0 Mv Gb Gs' hd' fp' ⟨s.sl, s.ob.set k (.sd x)⟩ a w := by
  have h0 := h.obs k
  rw [hk] at h0
  rcases h0 with ⟨h1, rfl⟩ | ⟨G, b, o, cap, cs, h1, h2, h3, h4, h5, h6, h7⟩
  · exact ⟨_, _, _, h.regive (k := k) (by rw [hk]; rfl) (by rw [hk]; rfl) (ob := .sd []) (by rw [hk]; rfl) rfl (hd' := hd) (fun _ _ => rfl) (F := fun _ => False) (fun _ h => h.elim) (fun _ h => h) (h.reg.move (fun _ h => .inl h) (fun _ _ => rfl) (fun _ h => h)) (.inl ⟨h1, rfl⟩)⟩
  · obtain ⟨q1, q2⟩ := sep_heads h5
    have q1' : ∀ u ∈ cs, u = .slice none 0 0 ∨ ∃ b o n c, u = .slice (some ⟨b, o, none⟩) n c := fun u hu => (q1 u hu).imp id (fun ⟨b, o, n, c, e, _⟩ => ⟨b, o, n, c, e⟩)
    obtain ⟨r1, r2, r3⟩ := putHeads_rg hd cs q1' q2 (fun v hv u hu b' o' n' c' o2 n2 c2 e e' => by
      obtain ⟨b1, _, _, _, e1, g1, _⟩ := h.reg v hv
      rw [e'] at e1
      cases e1
      rcases q1 u hu with hu | ⟨b3, _, _, _, hu, g3, _⟩
      · rw [hu] at e; cases e
      · rw [hu] at e
        cases e
        exact (h.own k _ (h4 _ g3).1).2.2.1 g1)
    refine ⟨_, _, _, h.regive (k := k) (by rw [hk]; rfl) (by rw [hk]; rfl) (ob := .sd x) (by rw [hk]; rfl) rfl (hd' := putHeads hd cs) (putHeads_low hd cs) (F := fun c => c = b) (fun c e => by subst e; exact h3) r1 ?_ ?_⟩
    · intro v hv
      rcases r3 v hv with hm | hm
      · rcases q1 v hm with rfl | ⟨b1, o1, n1, c1, rfl, g1, g2⟩
        · obtain ⟨_, _, _, _, e, _⟩ := hv; cases e
        · exact ⟨b1, o1, n1, c1, rfl, .inr ⟨(h4 _ g1).1, (h4 _ g1).2⟩, (h.own k _ (h4 _ g1).1).2.1, g2⟩
      · obtain ⟨b1, o1, n1, c1, e1, g1, g2, g3⟩ := h.reg v hm
        exact ⟨b1, o1, n1, c1, e1, .inl g1, g2, g3⟩
    · exact .inr ⟨b, o, cap, cs, h1, h2, rfl, h5.rep.move (fun c hc => .inl (.inr ⟨(h4 c hc).1, (h4 c hc).2⟩)) (fun _ _ => rfl), r2, apart_ne q1' q2, h6, h7⟩
/-- Heads are noted, and nothing else turns. -/
theorem Inv.rehd (h : Inv N w0 Mv Gb Gs hd fp s a w) {hd' : Nat → Value} (hhd : ∀ j, j < regM → hd' j = hd j) (hR : ∀ v, Rg hd v → Rg hd' v) (hreg : RegW N Mv.bs Gs hd' w) : Inv N w0 Mv Gb Gs hd' fp s a w := by
  have hlow : ∀ j, isNone (s.ob.getD j .none) = false → hd' j = hd j := fun j hj => hhd j (Nat.lt_of_lt_of_le (ob_lt hj) h.small)
  have hkk : ∀ j, isNone (s.ob.getD j .none) = false → isNone (s.ob.getD j .none) = false ∧ hd' j = hd j ∧ (∀ r, obShape (s.ob.getD j .none) = some r → obShape (s.ob.getD j .none) = some r) := fun j hj => ⟨hj, hlow j hj, fun _ h => h⟩
  refine ⟨h.ev, h.le, h.len, fun i => slot_move (fun _ x => x) (fun _ _ => rfl) hkk hR _ _ (h.slots i), fun j => ?_, h.own, h.disj, h.gs, h.gb, fun j v F hp => ?_, h.fix, h.small, hreg⟩
  · by_cases hj : isNone (s.ob.getD j .none) = true
    · revert hj; cases s.ob.getD j .none <;> simp [isNone, ObR]
    · simp only [Bool.not_eq_true] at hj
      rw [hlow j hj]
      exact (h.obs j).move (fun _ x => x) (fun _ _ => rfl) (fun _ x => x) hkk hR
  · obtain ⟨p1, p2, p3⟩ := h.pin j v F hp
    have hj : isNone (s.ob.getD j .none) = false := by revert p1; cases s.ob.getD j .none <;> simp [obBox, isNone]
    exact ⟨p1, by rw [hlow j hj]; exact p2, p3⟩
/-- A row that nobody holds is shared from here on, its head noted. -/
theorem Inv.shareNw (h : Inv N w0 Mv Gb Gs hd fp s a w) {F : BS} (hF : ∀ b, F b → Free N Mv Gb Gs fp w b) {G : BS} {x : List Int} {v : Value} (hr : OwnRow w G (.int .i64) x v F) :
    ∃ hd', Inv N w0 Mv Gb (fun b => Gs b ∨ F b) hd' fp s a w ∧ (∀ j, j < regM → hd' j = hd j) ∧ (∀ u, Rg hd u → Rg hd' u) ∧ RgN hd' v := by
  have h1 := h.share hF
  rcases hr with ⟨rfl, _⟩ | ⟨b, o, cap, cs, rfl, g2, g3, g4, g5, g6⟩
  · exact ⟨hd, h1, fun _ _ => rfl, fun _ h => h, .inl rfl⟩
  · obtain ⟨r1, r2, r3⟩ := putHeads_rg hd [.slice (some ⟨b, o, none⟩) x.length cap] (fun u hu => by simp at hu; subst hu; exact .inr ⟨_, _, _, _, rfl⟩) (by simp) (fun v hv u hu b' o' n' c' o2 n2 c2 e e' => by
      obtain ⟨b1, _, _, _, e1, g1, _⟩ := h.reg v hv
      simp only [List.mem_singleton] at hu
      subst hu
      rw [e'] at e1
      cases e1
      cases e
      exact (hF _ g3).gs g1)
    refine ⟨_, h1.rehd (putHeads_low hd _) r1 ?_, putHeads_low hd _, r1, r2 _ (by simp)⟩
    intro v hv
    rcases r3 v hv with hm | hm
    · simp only [List.mem_singleton] at hm
      subst hm
      exact ⟨b, o, _, cap, rfl, .inr g3, (hF b g3).mine, g6⟩
    · obtain ⟨b1, o1, n1, c1, e1, q1, q2, q3⟩ := h.reg v hm
      exact ⟨b1, o1, n1, c1, e1, .inl q1, q2, q3⟩
/-- Heads that are told apart lead to blocks that are. -/
theorem sd_sep {G : BS} (hreg : ∀ v, Rg hd v → ∃ b o n c, v = .slice (some ⟨b, o, none⟩) n c ∧ w.there b o (c * sz (.int .i64))) : ∀ {x : List (List Int)} {cs : List Value}, RepL w G (.sl (.int .i64)) x cs → (∀ u ∈ cs, RgN hd u) → cs.Pairwise (fun u u' => u = u' → u = .slice none 0 0) →
    SepL w (fun b => ∃ o n c, Value.slice (some ⟨b, o, none⟩) n c ∈ cs) (.sl (.int .i64)) x cs
  | [], cs, h, _, _ => by cases h; exact .nil _ _
  | x :: xs, cs, h, hR, hP => by
    cases h with
    | cons _ _ _ c d h1 h2 =>
      have hlen := h1.len
      match c, hlen with
      | [u], _ =>
        simp only [List.singleton_append] at hR hP ⊢
        have hP' := List.pairwise_cons.1 hP
        have ih := sd_sep hreg h2 (fun v hv => hR v (by simp [hv])) hP'.2
        refine .cons _ (fun b => ∃ o n c, Value.slice (some ⟨b, o, none⟩) n c = u) (fun b => ∃ o n c, Value.slice (some ⟨b, o, none⟩) n c ∈ d) (.sl (.int .i64)) x xs [u] d (fun b hb => by obtain ⟨o, n, c, e⟩ := hb; exact ⟨o, n, c, by simp [e]⟩) (fun b hb => by obtain ⟨o, n, c, e⟩ := hb; exact ⟨o, n, c, by simp [e]⟩) ?_ ?_ ih
        · rintro b ⟨o, n, c, e⟩ ⟨o', n', c', hm⟩
          have g1 := hR u (by simp)
          have g2 := hR _ (List.mem_cons_of_mem u hm)
          rcases g1 with g1 | ⟨b1, o1, n1, c1, g1, g1'⟩
          · rw [g1] at e; cases e
          · rcases g2 with g2 | ⟨b2, o2, n2, c2, g2, g2'⟩
            · cases g2
            · rw [g1] at e
              cases e
              cases g2
              have e5 : u = Value.slice (some ⟨b, o', none⟩) n' c' := g1'.symm.trans g2'
              have e6 := hP'.1 _ hm e5
              rw [g1] at e6
              cases e6
        · rcases h1.of_sl with ⟨rfl, oa, e⟩ | ⟨b, o, cap, ds, a1, a2, a3, a4, e⟩
          · cases e
            rcases hR _ (by simp : Value.slice oa 0 0 ∈ Value.slice oa 0 0 :: d) with g | ⟨b, o, n, c, g, g'⟩
            · rw [g]; exact .nil _ _
            · obtain ⟨b', o', n', c', e1, e2⟩ := hreg _ ⟨b, o, n, c, g, g'⟩
              rw [e1] at g ⊢
              cases g
              cases e1
              exact .sl _ (fun _ => False) (.int .i64) [] b o 0 [] (by simp) ⟨_, _, _, rfl⟩ (fun _ h => h.elim) (.nil _ _) (fun j v hv => by simp at hv) (fun j hj => by omega)
          · cases e
            have ht : w.there b o (cap * sz (.int .i64)) := by
              rcases hR _ (by simp : Value.slice (some ⟨b, o, none⟩) x.length cap ∈ _ :: d) with g | g
              · cases g
              · obtain ⟨b', o', n', c', e1, e2⟩ := hreg _ g
                cases e1
                exact e2
            exact .sl _ (fun _ => False) (.int .i64) x b o cap ds a1 ⟨_, _, _, rfl⟩ (fun _ h => h.elim) (SepL.flat rfl a3) a4 ht
/-- Nothing is held any more but rows of rows, which are one's own again. -/
theorem Inv.unSd (h : Inv N w0 Mv Gb Gs hd fp s a w) (hp : ∀ k v F, ¬ Mv.pin k v F) {d k : Nat} {x : List (List Int)} (hz : s.sl.getD d .dead = .ref k) (hk : s.ob.getD k .none = .sd x) :
    ∃ Gs' hd' fp', Inv N w0 Mv Gb Gs' hd' fp' ⟨(List.replicate s.sl.length .dead).set d (.ref k), (List.replicate s.ob.length .gone).set k (.dp (.sl (.int .i64)) x)⟩ a w := by
  have hlt := ob_lt (l := s.ob) (k := k) (by rw [hk]; rfl)
  have h0 := h.obs k
  rw [hk] at h0
  have hslot := h.slots d
  rw [hz] at hslot
  simp only [SlotR] at hslot
  have hrep : ∀ (n i : Nat) (z : Slot), (List.replicate n z).getD i .dead = z ∨ (List.replicate n z).getD i .dead = .dead := fun n i z => by
    rw [List.getD_eq_getElem?_getD, List.getElem?_replicate]; split <;> simp
  have hrepO : ∀ (n i : Nat), (List.replicate n Ob.gone).getD i .none = .gone ∨ (List.replicate n Ob.gone).getD i .none = .none := fun n i => by
    rw [List.getD_eq_getElem?_getD, List.getElem?_replicate]; split <;> simp
  have key : ∀ (F : BS), (∀ b, F b → fp k b ∨ (Gs b ∧ (N ≤ b ∨ Mv b))) → DpR w (.sl (.int .i64)) x (hd k) F → Inv N w0 Mv Gb (fun _ => False) (fun j => if j < regM then hd j else undef) (fun j b => j = k ∧ F b) ⟨(List.replicate s.sl.length .dead).set d (.ref k), (List.replicate s.ob.length .gone).set k (.dp (.sl (.int .i64)) x)⟩ a w := by
    intro F hF hdp
    have hkM : k < regM := Nat.lt_of_lt_of_le hlt h.small
    refine ⟨h.ev, h.le, by simp [h.len], fun i => ?_, fun j => ?_, ?_, ?_, fun b hb => hb.elim, h.gb, fun k v F hp' => (hp k v F hp').elim, h.fix, by simp [h.small], ?_⟩
    · by_cases hi : i = d
      · subst hi
        simp only
        rw [getD_set_self]
        split
        · simp only [SlotR]
          rw [getD_set_self, if_pos (by simpa using hlt)]
          refine ⟨rfl, ?_⟩
          rw [if_pos hkM]
          exact hslot.2
        · simp only [SlotR]
      · simp only
        rw [getD_set_ne' _ _ _ hi]
        rcases hrep s.sl.length i .dead with e | e <;> (rw [e]; simp only [SlotR])
    · by_cases hj : j = k
      · subst hj
        simp only
        have el : j < (List.replicate s.ob.length Ob.gone).length := by rw [List.length_replicate]; exact hlt
        rw [getD_set_self]
        simp only [el, hkM, if_true]
        show DpR w (.sl (.int .i64)) x (hd j) _
        exact hdp.move (fun _ _ => rfl) (fun b hb => ⟨trivial, hb⟩)
      · simp only
        rw [getD_set_ne' _ _ _ hj]
        rcases hrepO s.ob.length j with e | e <;> (rw [e]; simp only [ObR])
    · rintro j b ⟨rfl, hb⟩
      rcases hF b hb with hb | ⟨hb, hm⟩
      · have := h.own j b hb; exact ⟨this.1, this.2.1, fun h => h, this.2.2.2⟩
      · refine ⟨(h.gs b hb).1, hm, fun h => h, fun hg => ?_⟩
        have := h.gb b hg
        rcases hm with hm | hm
        · omega
        · exact this.2 hm
    · rintro i j b ⟨rfl, _⟩ ⟨rfl, _⟩; rfl
    · rintro v ⟨b, o, n, c, rfl, e⟩
      simp only [if_neg (show ¬ regM + b < regM by omega)] at e
      cases e
  rcases h0 with ⟨h1, rfl⟩ | ⟨b, o, cap, cs, h1, h2, h3, h4, h5, h6, h7, h8⟩
  · exact ⟨_, _, _, key (fun _ => False) (fun _ h => h.elim) (.inl ⟨h1, rfl⟩)⟩
  · have hreg := h.reg
    have hs := sd_sep (hd := hd) (w := w) (fun v hv => by
      obtain ⟨b, o, n, c, e1, _, _, e2⟩ := hreg v hv
      exact ⟨b, o, n, c, e1, e2⟩) h4 h5 h6
    have hG : ∀ c, (∃ o n p, Value.slice (some ⟨c, o, none⟩) n p ∈ cs) → Gs c ∧ (N ≤ c ∨ Mv c) := by
      rintro c ⟨o', n', p', hm⟩
      rcases h5 _ hm with g | g
      · cases g
      · obtain ⟨b1, _, _, _, e1, g1, g2, _⟩ := hreg _ g
        cases e1
        exact ⟨g1, g2⟩
    refine ⟨_, _, _, key (fun c => c = b ∨ ∃ o n p, Value.slice (some ⟨c, o, none⟩) n p ∈ cs) ?_ (.inr ⟨_, b, o, cap, cs, h1, h2, .inl rfl, fun c hc => ⟨.inr hc, ?_⟩, hs, h7, h8⟩)⟩
    · rintro c (rfl | hc)
      · exact .inl h3
      · exact .inr (hG c hc)
    · rintro rfl
      exact (h.own k _ h3).2.2.1 (hG _ hc).1
end Go.Proofs.YtkgpkalclblhbaaGreatDoor.Eng
