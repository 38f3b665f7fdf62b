/-
  One operation: rows that are made, cut and grown.
-/
import Derived.Test.YtkgpkalclblhbaaGreatDoorS8
namespace Go.Proofs.YtkgpkalclblhbaaGreatDoor.Eng
open Go Go.RowKit
set_option linter.unusedVariables false
set_option linter.unusedSimpArgs false

variable {P : Program} {T : Tab} {N : Nat} {w0 : World} {Mv : Mvp} {Gb Gs : BS} {hd : Nat → Value} {fp : Nat → BS} {s : St} {a : Act} {w w' : World}

/-- What a row that was just made becomes. -/
theorem newRow_ok {own : List Nat} {d : Option Nat} {fr : Ob} {c tn nx : Bool} {e : Ty} {x : List (Den e)} {m m' : List (Nat × Ob)} {z : Slot} (hn : newRow own d fr c tn nx e x m = some (true, z, m'))
    (hfr : freshOb s d = fr) (h : Inv N w0 Mv Gb Gs hd fp ⟨s.sl, modOb s.ob m⟩ a w) (hm : ∀ k, s.ob.getD k .gone = .none → (modOb s.ob m).getD k .gone = .none)
    {v : Value} {F : BS} (hF : ∀ b, F b → Free N Mv Gb Gs fp w b) (hr : OwnRow w (Gof Gs Gb tn) e x v F) (hnx : nx = true → x = [] → v = .slice none 0 0) :
    c = true ∧ ∃ Gs' hd' fp', Inv N w0 Mv Gb Gs' hd' fp' (s.out d z m') (a.put d v) w := by
  have hfl : ∀ Gs', (∀ b, Gs b → Gs' b) → ∀ {y : List (Den e)} {cs : List Value}, RepL w (Gof Gs Gb tn) e y cs → RepL w (Gof Gs' Gb (tn && !flat e)) e y cs := by
    intro Gs' hg y cs h
    cases hf : flat e with
    | true => exact h.anyw hf _ _
    | false => exact h.move (by simpa using Gof_mono hg id) (fun _ _ => rfl)
  unfold newRow at hn
  split at hn
  · cases hn
  · rename_i d
    split at hn
    · split at hn
      · simp only [Option.some.injEq, Prod.mk.injEq] at hn
        obtain ⟨rfl, rfl, rfl⟩ := hn
        have hk : (modOb s.ob m).getD (4 * d) .gone = .none := hm _ (by simpa [freshOb] using hfr)
        have hrow : OwnRow w (Gof Gs Gb (tn && !flat e)) e x v F := by
          rcases hr with hr | ⟨b, o, cap, cs, h1, h2, h3, h4, h5, h6⟩
          · exact .inl hr
          · exact .inr ⟨b, o, cap, cs, h1, h2, h3, hfl Gs (fun _ h => h) h4, h5, h6⟩
        have h1 := h.newKey (k := 4 * d) (v := v) (F := F) hk hF (ob := .sl (tn && !flat e) nx e x) rfl ⟨hrow, hnx⟩
        have h2 := h1.put (some d) (z := .ref (4 * d)) (v := v) (by
          simp only [SlotR]
          have hlt : 4 * d < (modOb s.ob m).length := by
            rcases Nat.lt_or_ge (4 * d) (modOb s.ob m).length with h | h
            · exact h
            · rw [List.getD_eq_getElem?_getD, List.getElem?_eq_none h] at hk; cases hk
          refine ⟨by rw [getD_set_self, if_pos hlt]; rfl, by simp⟩)
        exact ⟨rfl, _, _, _, h2⟩
      · cases hn
    · simp only [Option.some.injEq, Prod.mk.injEq] at hn
      obtain ⟨rfl, rfl, rfl⟩ := hn
      have h1 := h.share hF
      have h2 := h1.put (some d) (z := .val (tn && !flat e) (.sl e) x) (v := v) (by
        simp only [SlotR]
        rcases hr with ⟨rfl, rfl⟩ | ⟨b, o, cap, cs, rfl, h2, h3, h4, h5, h6⟩
        · exact .mkNil e
        · exact .mkSl h2 (.inl (.inr h3)) (hfl _ (fun _ h => .inl h) h4) h5)
      exact ⟨rfl, _, _, _, h2⟩

theorem there_take {b o n k : Nat} (h : w.there b o n) (hk : k ≤ n) : w.there b o k := fun j hj => h j (by omega)
theorem there_drop {b o n k : Nat} (h : w.there b o n) (hk : k ≤ n) : w.there b (o + k) (n - k) := fun j hj => by
  have := h (k + j) (by omega); rwa [show o + k + j = o + (k + j) by omega]
/-- A new block. -/
theorem rangeAt_new (w : World) (cells : Array Value) (t : TypeId) (cs : List Value) (hp : ∃ r, cells.toList = cs ++ r) : (w.alloc (.cells cells t)).rangeAt w.heap.size 0 cs := fun j v hv => by
  obtain ⟨r, hr⟩ := hp
  rw [Nat.zero_add, World.cell?_alloc_new]
  have : cells.toList[j]? = some v := by
    rw [hr, List.getElem?_append_left]
    · exact hv
    · exact (List.getElem?_eq_some_iff.1 hv).1
  simpa using this
theorem there_new (w : World) (cells : Array Value) (t : TypeId) (n : Nat) (hn : n ≤ cells.size) : (w.alloc (.cells cells t)).there w.heap.size 0 n := fun j hj => by
  rw [Nat.zero_add, World.cell?_alloc_new]
  refine ⟨?_, World.frozen?_alloc_new _ _ _ _⟩
  simp; omega

/-! ### append -/
theorem run_append_fit (w : World) (t ty e : TypeId) (i : TypeInfo) (ht : P.underlying t = some (.slice e)) (hi : P.info? e = some i) (b o sLen sCap n : Nat) (y : Value) (hy : Builtin.lenOf y = pure n) (news : List Value)
    (hf : (Builtin.firstCells i.size n y).run P w = .ok news.toArray w) (hn : news.length = n * i.size) (hc : sLen + n ≤ sCap) (hth : w.there b (o + sLen * i.size) (n * i.size)) (h1 : ∀ v ∈ news, v.oneCell' = true) :
    (Builtin.append_ #[t, t] ty #[.slice (some ⟨b, o, none⟩) sLen sCap, y]).run P w = .ok (.slice (some ⟨b, o, none⟩) (sLen + n) sCap) (w.setCells b (o + sLen * i.size) news) := by
  have hst := run_storeCells_cells (P := P) b (o + sLen * i.size) news 0 w (fun j hj => by have := (hth j (by omega)).1; simpa using this) (fun j hj => by have := (hth j (by omega)).2; simpa using this) h1
  simp only [Nat.add_zero] at hst
  simp [Builtin.append_, run_underlying ht, sizeOf, typeInfo, hi, hy, hc, hf, Addr.add_mid, hst]
theorem run_append_nilnil (w : World) (t ty e : TypeId) (i : TypeInfo) (ht : P.underlying t = some (.slice e)) (hi : P.info? e = some i) (y : Value) (hy : Builtin.lenOf y = pure 0)
    (hf : (Builtin.firstCells i.size 0 y).run P w = .ok #[] w) :
    (Builtin.append_ #[t, t] ty #[.slice none 0 0, y]).run P w = .ok (.slice none 0 0) w := by
  simp [Builtin.append_, run_underlying ht, sizeOf, typeInfo, hi, hy, hf]
theorem zeroCells_size (z : Array Value) (n : Nat) : (Builtin.zeroCells z n).size = n * z.size := by simp [Builtin.zeroCells]
theorem le_grownCap (w : World) (need old : Nat) (e : TypeId) : need ≤ grownCap w need old e := by simp [grownCap, Question.cut]

/-- What is appended: its cells, and that they read in any world. -/
theorem append_row (hT : TabOk P T) {t : TypeId} {e : Ty} (ht : rowT T t = some e) {own : List Nat} {d : Option Nat} {tn : Bool} {x y : List (Den e)} {vx vy : Value} (ty : TypeId)
    {B : BS} (hx : OwnRow w (Gof Gs Gb tn) e x vx B) (hB : ∀ b, B b → Free N Mv Gb Gs fp w b) {B' : BS} (hy : RowR w (Gof Gs Gb tn) B' e y vy) (hlim : x.length + y.length < lim) (hI : Inv N w0 Mv Gb Gs hd fp s a w) :
    ∃ v w1 F, (Builtin.append_ #[t, t] ty #[vx, vy]).run P w = .ok v w1 ∧ Inv N w0 Mv Gb Gs hd fp s a w1 ∧ (∀ b, F b → Free N Mv Gb Gs fp w1 b) ∧ OwnRow w1 (Gof Gs Gb tn) e (x ++ y) v F := by
  obtain ⟨eid, i, hu, hi, hs, hby, zz, hz, hzc⟩ := elem_facts hT ht
  -- the cells of what is appended
  obtain ⟨ds, hds, hlen, hfirst⟩ : ∃ ds, RepL w (Gof Gs Gb tn) e y ds ∧ Builtin.lenOf vy = pure y.length ∧ (Builtin.firstCells i.size y.length vy).run P w = .ok ds.toArray w := by
    rcases hy with ⟨⟨oa, rfl⟩, rfl⟩ | ⟨b, o, cap, cs, g1, g2, g3, g4, rfl⟩
    · cases oa with
      | none => exact ⟨[], .nil e, rfl, run_firstCells_none (P := P) w i.size 0 0 0⟩
      | some a0 => exact ⟨[], .nil e, rfl, run_firstCells_some (P := P) w i.size 0 a0 0 0 [] (by simp) (fun j v hv => by simp at hv)⟩
    · refine ⟨cs, g3, rfl, run_firstCells_some (P := P) w i.size y.length ⟨b, o, none⟩ y.length cap cs (by rw [hs]; exact g3.len) (fun j v hv => by rw [Addr.add_mid]; exact g4 j v hv)⟩
  have hone := hds.one
  have hdl := hds.len
  have hlim' : x.length + y.length < 1099511627776 := hlim
  have hgs : ∀ (F : BS) (w1 : World), (∀ b, b < w.heap.size → ¬ Free N Mv Gb Gs fp w b → w1.heap[b]? = w.heap[b]?) → ∀ b, Gof Gs Gb tn b → w1.heap[b]? = w.heap[b]? := by
    intro F w1 hh b hb
    refine hh b ?_ (fun f => hb.elim f.gs (fun q => f.gb q.2))
    rcases hb with hb | hb
    · exact (hI.gs b hb).1
    · have := (hI.gb b hb.2).1; have := hI.le; have := hI.ev.size; omega
  rcases hx with ⟨rfl, rfl⟩ | ⟨b, o, cap, cs, rfl, h2, h3, h4, h5, h6⟩
  · -- onto nil
    by_cases hy0 : y = []
    · subst hy0
      cases hds
      exact ⟨_, w, fun _ => False, run_append_nilnil w t ty eid i hu hi vy hlen hfirst, hI, fun _ h => h.elim, .inl ⟨rfl, rfl⟩⟩
    · rcases hy with ⟨_, rfl⟩ | ⟨b, o, cap, cs, g1, g2, g3, g4, rfl⟩
      · exact absurd rfl hy0
      · have hpos : 0 < y.length := by cases y with | nil => exact absurd rfl hy0 | cons _ _ => simp
        have hb48 : y.length * i.bytes ≤ 281474976710656 := by
          have : y.length * i.bytes ≤ 1099511627776 * 128 := Nat.mul_le_mul (by omega) hby
          omega
        have hr := run_append_nil (P := P) w t ty eid i zz hu hi hz ⟨b, o, none⟩ y.length cap cs (by rw [hs]; exact g3.len) (fun j v hv => by rw [Addr.add_mid]; exact g4 j v hv) hpos (by omega) hb48
        refine ⟨_, _, fun c => c = w.heap.size, hr, (hI.drew.alloc _).1, ?_, ?_⟩
        · rintro c rfl; exact (hI.drew.alloc _).2
        · right
          have hcap := le_grownCap w y.length 0 eid
          refine ⟨w.heap.size, 0, grownCap w y.length 0 eid, cs, by simp, by simpa using hcap, rfl, ?_, rangeAt_new w.drew _ _ cs ⟨_, by simp; rfl⟩, there_new w.drew _ _ _ ?_⟩
          · refine g3.move (fun _ h => h) (hgs (fun _ => False) _ (fun b hb _ => ?_))
            exact Below.heap_alloc w.drew _ _ hb
          · have h1 := g3.len
            have h3 : zz.cells.size = sz e := by
              have := congrArg List.length hzc
              have hzl := (zeroRep w Gs e).len
              simp only [Array.length_toList] at this
              omega
            simp only [Array.size_append, zeroCells_size, List.size_toArray, h1, h3]
            rw [← Nat.add_mul]
            exact Nat.mul_le_mul_right _ (by omega)
  · by_cases hfit : x.length + y.length ≤ cap
    · have hth : w.there b (o + x.length * i.size) (y.length * i.size) := by
        rw [hs]
        intro j hj
        have := h6 (x.length * sz e + j) (by
          have : (x.length + y.length) * sz e ≤ cap * sz e := Nat.mul_le_mul_right _ hfit
          rw [Nat.add_mul] at this
          omega)
        rwa [show o + x.length * sz e + j = o + (x.length * sz e + j) by omega]
      have hr := run_append_fit (P := P) w t ty eid i hu hi b o x.length cap y.length vy hlen ds hfirst (by rw [hs]; exact hdl) hfit hth hone
      have hb := hB b h3
      have hw := hI.write hb (o + x.length * i.size) ds
      refine ⟨_, _, fun c => c = b, hr, hw, ?_, ?_⟩
      · rintro c rfl
        exact ⟨by rw [setCells_size]; exact hb.lt, hb.mine, hb.gs, hb.gb, hb.fp⟩
      · right
        have hmv : ∀ c, Gof Gs Gb tn c → (w.setCells b (o + x.length * i.size) ds).heap[c]? = w.heap[c]? := fun c hc => setCells_block b ds _ w c (fun e => by
          subst e; exact hc.elim hb.gs (fun q => hb.gb q.2))
        refine ⟨b, o, cap, cs ++ ds, by simp, by simpa using hfit, rfl, (h4.move (fun _ h => h) hmv).append (hds.move (fun _ h => h) hmv), ?_, ?_⟩
        · intro j v hv
          have hcl := h4.len
          by_cases hj : j < cs.length
          · rw [List.getElem?_append_left hj] at hv
            rw [World.cell?_setCells_out b ds (o + x.length * i.size) w _ (fun _ _ => Or.inl (by simp only []; rw [hs]; omega))]
            exact h5 j v hv
          · rw [List.getElem?_append_right (by omega)] at hv
            obtain ⟨hj2, hv2⟩ := List.getElem?_eq_some_iff.1 hv
            have := World.cell?_setCells_in b ds (o + x.length * i.size) w (fun q hq => (hth q (by rw [hs]; omega)).1) (j - cs.length) hj2
            rw [show o + x.length * i.size + (j - cs.length) = o + j by rw [hs]; omega] at this
            rw [this, hv2]
        · intro j hj
          have h7 := h6 j hj
          refine ⟨?_, by rw [World.frozen?_setCells]; exact h7.2⟩
          by_cases hin : x.length * sz e ≤ j ∧ j < x.length * sz e + ds.length
          · have := World.cell?_setCells_in b ds (o + x.length * i.size) w (fun q hq => (hth q (by rw [hs]; omega)).1) (j - x.length * sz e) (by omega)
            rw [show o + x.length * i.size + (j - x.length * sz e) = o + j by rw [hs]; omega] at this
            rw [this]; rfl
          · rw [World.cell?_setCells_out b ds (o + x.length * i.size) w _ (fun _ _ => by simp only []; rw [hs]; omega)]
            exact h7.1
    · -- a greater block
      have hy0 : y ≠ [] := by rintro rfl; simp at hfit; omega
      rcases hy with ⟨_, rfl⟩ | ⟨b', o', cap', cs', g1, g2, g3, g4, rfl⟩
      · exact absurd rfl hy0
      · have hfits := Go.growslice_fits (need := x.length + y.length) (old := cap) (bytes := i.bytes) (by omega) (by
          have : (x.length + y.length) * i.bytes ≤ 1099511627776 * 128 := Nat.mul_le_mul (by omega) hby
          omega)
        have hr := run_append_grow (P := P) w t ty eid i zz hu hi hz ⟨b, o, none⟩ x.length cap cs (by rw [hs]; exact h4.len) (fun j v hv => by rw [Addr.add_mid]; exact h5 j v hv)
          ⟨b', o', none⟩ y.length cap' cs' (by rw [hs]; exact g3.len) (fun j v hv => by rw [Addr.add_mid]; exact g4 j v hv) (by omega) (by omega) hfits
        refine ⟨_, _, fun c => c = w.heap.size, hr, (hI.drew.alloc _).1, ?_, ?_⟩
        · rintro c rfl; exact (hI.drew.alloc _).2
        · right
          have hcap := le_grownCap w (x.length + y.length) cap eid
          have hmv := hgs (fun _ => False) (w.drew.alloc (.cells (cs.toArray ++ cs'.toArray ++ Builtin.zeroCells zz.cells (grownCap w (x.length + y.length) cap eid - (x.length + y.length))) eid)) (fun b hb _ => Below.heap_alloc w.drew _ _ hb)
          refine ⟨w.heap.size, 0, grownCap w (x.length + y.length) cap eid, cs ++ cs', by simp, by simpa using hcap, rfl, (h4.move (fun _ h => h) hmv).append (g3.move (fun _ h => h) hmv), rangeAt_new w.drew _ _ _ ⟨_, by simp; rfl⟩, there_new w.drew _ _ _ ?_⟩
          have h1 := g3.len
          have h1' := h4.len
          have h3 : zz.cells.size = sz e := by
            have := congrArg List.length hzc
            have hzl := (zeroRep w Gs e).len
            simp only [Array.length_toList] at this
            omega
          simp only [Array.size_append, zeroCells_size, List.size_toArray, h1, h1', h3]
          rw [← Nat.add_mul, ← Nat.add_mul]
          exact Nat.mul_le_mul_right _ (by omega)
end Go.Proofs.YtkgpkalclblhbaaGreatDoor.Eng
