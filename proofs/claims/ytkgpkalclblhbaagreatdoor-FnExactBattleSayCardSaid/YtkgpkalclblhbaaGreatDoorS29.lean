/-
  What an argument that is a record is, as the interpreter's data.
-/
import Derived.Test.YtkgpkalclblhbaaGreatDoorS27
namespace Go.Proofs.YtkgpkalclblhbaaGreatDoor.Eng
open Go Go.Deep Go.ChangeShapes Go.WideShapes Go.ChangeAt Go.RowKit Go.Joins
set_option linter.unusedVariables false
set_option linter.unusedSimpArgs false

section
variable {H : Type} {enc : TypeId × Value → H} {P : Program} {w : World} {held : Bool}

theorem agg_cell {t : TypeId} {fs : Array Field} {cs : Array Value} {ts : List TypeId} {base : Nat} (hs : P.underlying t = some (.struct fs)) (hv : Value.okWide P w .any base t (.agg cs)) (hts : P.cellTypes P.depth t = some ts) {i : Nat} {v : Value} {u : TypeId}
    (hi : cs[i]? = some v) (hlt : i < ts.length) (hu : ts[i]? = some u) : Cell.okWide P w .any base u v := by
  unfold Value.okWide at hv
  rw [hs] at hv
  obtain ⟨cs', h1, _, ts', h3, _, h4⟩ := hv
  cases h1
  rw [hts] at h3
  cases h3
  obtain ⟨u', h5, h6⟩ := h4 i v hi
  rw [Nat.mod_eq_of_lt hlt, hu] at h5
  cases h5
  exact h6
/-- A field that is a slice. -/
theorem field_sl {τ : Ty} {Wf : Den τ → Prop} {t e : TypeId} {v : Value} {y : DataW H × List MemPlace} {base n : Nat} (ht : P.underlying t = some (.slice e)) (hc : P.cellsOf e = sz τ) (he : Reads enc P w held e τ Wf)
    (hv : Cell.okWide P w .any base t v) (h : DataW.trod enc P w 0 (fun _ => true) held n t [v] = some y) : ∃ l : List (Den τ), RepC w (Old w) (.sl τ) l [v] ∧ l.length ≤ maxLen ∧ ∀ y ∈ l, Wf y := by
  have hv' : Value.okWide P w .any base t v := by
    unfold Value.okWide
    rw [ht]
    exact hv
  obtain ⟨a, len, cap, hsl⟩ := slice_form ht h
  simp only [List.cons.injEq, and_true] at hsl
  subst hsl
  obtain ⟨l, ⟨cs, h1, h2⟩, h3, h4⟩ := arg_sl ht hc he hv' (⟨n, h⟩ : DataW.Trod enc P w 0 (fun _ => true) held t (.slice a len cap) y.1 y.2)
  refine ⟨l, ?_, h3, h4⟩
  have hl : cs.length = 1 := rep_len.1 _ _ _ h1
  match cs, hl, h1, h2 with
  | [c], _, h1, h2 =>
    have : Value.slice a len cap = c := h2
    rw [this]
    exact h1
theorem arg_battle {t e : TypeId} {f0 f1 f2 f3 : Field} {v : Value} {x : DataW H} {ps : List MemPlace} {base : Nat} (hs : P.underlying t = some (.struct #[f0, f1, f2, f3])) (hone : oneCellFields P #[f0, f1, f2, f3] = true) (hC : P.cellsOf t = 4)
    (hts : P.cellTypes P.depth t = some [f0.type, f1.type, f2.type, f3.type]) (h0 : P.underlying f0.type = some (.slice e)) (h1 : P.underlying f1.type = some (.int .i64)) (h2 : P.underlying f2.type = some (.slice e)) (h3 : P.underlying f3.type = some (.slice e))
    (he : P.underlying e = some (.int .i64)) (hce : P.cellsOf e = 1) (hv : Value.okWide P w .any base t v) (h : DataW.Trod enc P w 0 (fun _ => true) held t v x ps) :
    ∃ b : Battle, VRep w (Old w) (.ap 4) b v ∧ ((b.f0.length ≤ maxLen ∧ ∀ x ∈ b.f0, (Lit.int .i64 x).wf = true) ∧ (Lit.int .i64 b.f1).wf = true ∧ (b.f2.length ≤ maxLen ∧ ∀ x ∈ b.f2, (Lit.int .i64 x).wf = true) ∧ (b.f3.length ≤ maxLen ∧ ∀ x ∈ b.f3, (Lit.int .i64 x).wf = true)) := by
  obtain ⟨v0, v1, v2, v3, y0, y1, y2, y3, n, rfl, -, -, g0, g1, g2, g3⟩ := open_agg4 hs hone hC hv h
  obtain ⟨l0, r0, m0, w0⟩ := field_sl (τ := .int .i64) h0 hce (reads_int he) (agg_cell hs hv hts (i := 0) rfl (by simp) rfl) g0
  obtain ⟨l2, r2, m2, w2⟩ := field_sl (τ := .int .i64) h2 hce (reads_int he) (agg_cell hs hv hts (i := 2) rfl (by simp) rfl) g2
  obtain ⟨l3, r3, m3, w3⟩ := field_sl (τ := .int .i64) h3 hce (reads_int he) (agg_cell hs hv hts (i := 3) rfl (by simp) rfl) g3
  obtain ⟨a, hq, _, hw⟩ := DataW.trod_int h1 g1
  simp only [List.cons.injEq, and_true] at hq
  subst hq
  refine ⟨⟨l0, a, l2, l3⟩, ⟨[v0, .int .i64 a, v2, v3], ?_, by simp [isAggT]⟩, ⟨m0, w0⟩, hw, ⟨m2, w2⟩, ⟨m3, w3⟩⟩
  exact .ap 4 _ _ (.pair (.sl (.int .i64)) (.pair (.int .i64) (.pair (.sl (.int .i64)) (.pair (.sl (.int .i64)) .unit))) l0 (a, l2, l3, ()) [v0] [.int .i64 a, v2, v3] r0
    (.pair (.int .i64) (.pair (.sl (.int .i64)) (.pair (.sl (.int .i64)) .unit)) a (l2, l3, ()) [.int .i64 a] [v2, v3] (.int .i64 a)
      (.pair (.sl (.int .i64)) (.pair (.sl (.int .i64)) .unit) l2 (l3, ()) [v2] [v3] r2 (.pair (.sl (.int .i64)) .unit l3 () [v3] [] r3 .unit))))
/-- Trades inside of what came in. -/
theorem reads_trade {t e : TypeId} {f0 f1 : Field} (hs : P.underlying t = some (.struct #[f0, f1])) (hone : oneCellFields P #[f0, f1] = true) (hC : P.cellsOf t = 2) (h0 : P.underlying f0.type = some (.slice e)) (h1 : P.underlying f1.type = some (.slice e))
    (he : P.underlying e = some (.int .i64)) (hce : P.cellsOf e = 1) : Reads enc P w held t (.ap 2) (fun (b : Trade) => (b.f0.length ≤ maxLen ∧ ∀ x ∈ b.f0, (Lit.int .i64 x).wf = true) ∧ (b.f1.length ≤ maxLen ∧ ∀ x ∈ b.f1, (Lit.int .i64 x).wf = true)) := by
  intro fuel cs x h
  obtain ⟨y0, y1, n, _, hl, g0, g1⟩ := trod_struct2 hs h
  obtain ⟨o0, k0⟩ := hone_of hone 0 f0 rfl
  obtain ⟨o1, k1⟩ := hone_of hone 1 f1 rfl
  rw [hC] at hl
  match cs, hl, g0, g1 with
  | [c0, c1], _, g0, g1 =>
    rw [o0, k0] at g0
    rw [o1, k1] at g1
    obtain ⟨l0, r0, w0⟩ := reads_sl (τ := .int .i64) h0 hce (by decide) (reads_int he) _ _ _ g0
    obtain ⟨l1, r1, w1⟩ := reads_sl (τ := .int .i64) h1 hce (by decide) (reads_int he) _ _ _ g1
    exact ⟨(⟨l0, l1⟩ : Trade), .ap 2 _ _ (.pair (.sl (.int .i64)) (.pair (.sl (.int .i64)) .unit) l0 (l1, ()) [c0] [c1] r0 (.pair (.sl (.int .i64)) .unit l1 () [c1] [] r1 .unit)), w0, w1⟩
/-- Acts, inside of what came in and as arguments. -/
theorem reads_act {t : TypeId} {f0 f1 : Field} (hs : P.underlying t = some (.struct #[f0, f1])) (hone : oneCellFields P #[f0, f1] = true) (hC : P.cellsOf t = 2) (h0 : P.underlying f0.type = some (.int .i64)) (h1 : P.underlying f1.type = some (.int .i64)) :
    Reads enc P w held t (.ap 3) (fun (b : TwoInts) => (Lit.int .i64 b.f0).wf = true ∧ (Lit.int .i64 b.f1).wf = true) := by
  intro fuel cs x h
  obtain ⟨y0, y1, n, _, hl, g0, g1⟩ := trod_struct2 hs h
  obtain ⟨o0, k0⟩ := hone_of hone 0 f0 rfl
  obtain ⟨o1, k1⟩ := hone_of hone 1 f1 rfl
  rw [hC] at hl
  match cs, hl, g0, g1 with
  | [c0, c1], _, g0, g1 =>
    rw [o0, k0] at g0
    rw [o1, k1] at g1
    obtain ⟨l0, r0, w0⟩ := reads_int h0 _ _ _ g0
    obtain ⟨l1, r1, w1⟩ := reads_int h1 _ _ _ g1
    exact ⟨(⟨l0, l1⟩ : TwoInts), .ap 3 _ _ (.pair (.int .i64) (.pair (.int .i64) .unit) l0 (l1, ()) [c0] [c1] r0 (.pair (.int .i64) .unit l1 () [c1] [] r1 .unit)), w0, w1⟩
theorem arg_act {t : TypeId} {f0 f1 : Field} {v : Value} {x : DataW H} {ps : List MemPlace} {base : Nat} (hs : P.underlying t = some (.struct #[f0, f1])) (hone : oneCellFields P #[f0, f1] = true) (hC : P.cellsOf t = 2)
    (h0 : P.underlying f0.type = some (.int .i64)) (h1 : P.underlying f1.type = some (.int .i64)) (hv : Value.okWide P w .any base t v) (h : DataW.Trod enc P w 0 (fun _ => true) held t v x ps) :
    ∃ b : TwoInts, VRep w (Old w) (.ap 3) b v ∧ ((Lit.int .i64 b.f0).wf = true ∧ (Lit.int .i64 b.f1).wf = true) := by
  obtain ⟨v0, v1, y0, y1, n, rfl, -, -, g0, g1⟩ := open_agg2 hs hone hC hv h
  obtain ⟨a0, hq, _, w0⟩ := DataW.trod_int h0 g0
  simp only [List.cons.injEq, and_true] at hq
  subst hq
  obtain ⟨a1, hq, _, w1⟩ := DataW.trod_int h1 g1
  simp only [List.cons.injEq, and_true] at hq
  subst hq
  refine ⟨⟨a0, a1⟩, ⟨[.int .i64 a0, .int .i64 a1], ?_, by simp [isAggT]⟩, w0, w1⟩
  exact .ap 3 _ _ (.pair (.int .i64) (.pair (.int .i64) .unit) a0 (a1, ()) [.int .i64 a0] [.int .i64 a1] (.int .i64 a0) (.pair (.int .i64) .unit a1 () [.int .i64 a1] [] (.int .i64 a1) .unit))
end
end Go.Proofs.YtkgpkalclblhbaaGreatDoor.Eng
