/-
  What an argument that can be read is, as the interpreter's data.
-/
import Derived.Test.YtkgpkalclblhbaaGreatDoorS26
import Derived.ProofKit
import Derived.OpenShut
import Derived.ShutString
import Derived.ChangeOld
import Derived.SizedLaws
import Derived.Deep.Fields
import Derived.Lib.SmallJoins
namespace Go.Proofs.YtkgpkalclblhbaaGreatDoor.Eng
open Go Go.Deep Go.ChangeShapes Go.WideShapes Go.ChangeAt Go.RowKit
set_option linter.unusedVariables false
set_option linter.unusedSimpArgs false

section
variable {H : Type} {enc : TypeId × Value → H} {P : Program} {w : World} {held : Bool}

abbrev Old (w : World) : BS := fun b => b < w.heap.size
/-- Whatever reads at the type t is data of the type τ. -/
def Reads (enc : TypeId × Value → H) (P : Program) (w : World) (held : Bool) (t : TypeId) (τ : Ty) (Wf : Den τ → Prop) : Prop :=
  ∀ fuel cs x, DataW.trod enc P w 0 (fun _ => true) held fuel t cs = some x → ∃ a : Den τ, RepC w (Old w) τ a cs ∧ Wf a
theorem reads_int {t : TypeId} {k : IntKind} (ht : P.underlying t = some (.int k)) : Reads enc P w held t (.int k) (fun n => (Lit.int k n).wf = true) := by
  intro fuel cs x h
  obtain ⟨n, rfl, _, hw⟩ := DataW.trod_int ht h
  exact ⟨n, .int k n, hw⟩
theorem reads_str {t : TypeId} (ht : P.underlying t = some .string) : Reads enc P w held t .str (fun s : List UInt8 => s.length ≤ maxLen) := by
  intro fuel cs x h
  obtain ⟨s, rfl, _, hw⟩ := DataW.trod_string ht h
  exact ⟨s.data.toList, .str s, by simpa using hw⟩
theorem add_two' (a : Addr) (m n : Nat) : (a.add m).add n = a.add (m + n) := by
  unfold Addr.add
  by_cases hm : m = 0 <;> by_cases hn : n = 0 <;> simp [hm, hn, Nat.add_assoc]
theorem cells_cut' {a : Addr} {m : Nat} {cs : List Value} (h : w.cells? 0 a m = some cs) : cs.length = m ∧ ∀ i u, cs[i]? = some u → w.cell? (a.add i) = some u := by
  obtain ⟨_, hl, hc⟩ := World.cells?_some h
  refine ⟨hl, fun i u hu => ?_⟩
  have hi : i < m := by
    have := (List.getElem?_eq_some_iff.1 hu).1
    omega
  rw [hc i hi, hu]
theorem row_of {τ : Ty} {Wf : Den τ → Prop} {b o : Nat} : ∀ {n : Nat}, (∀ i, i < n → ∃ (y : Den τ) (c : List Value), RepC w (Old w) τ y c ∧ Wf y ∧ ∀ j u, c[j]? = some u → w.cell? ⟨b, o + (i * sz τ + j), none⟩ = some u) →
    ∃ (l : List (Den τ)) (cs : List Value), l.length = n ∧ RepL w (Old w) τ l cs ∧ (∀ y ∈ l, Wf y) ∧ w.rangeAt b o cs
  | 0, _ => ⟨[], [], rfl, .nil τ, by simp, fun j u h => by simp at h⟩
  | n + 1, h => by
    obtain ⟨l, cs, h1, h2, h3, h4⟩ := row_of (n := n) (fun i hi => h i (by omega))
    obtain ⟨y, c, g1, g2, g3⟩ := h n (by omega)
    have hy : RepL w (Old w) τ [y] c := by
      have := RepL.cons (w := w) (G := Old w) τ y [] c [] g1 (.nil τ)
      rwa [List.append_nil] at this
    refine ⟨l ++ [y], cs ++ c, by simp [h1], h2.append hy, fun z hz => ?_, fun j u hu => ?_⟩
    · rcases List.mem_append.1 hz with hz | hz
      · exact h3 z hz
      · simp at hz; subst hz; exact g2
    · have hl := h2.len
      rw [h1] at hl
      rcases Nat.lt_or_ge j cs.length with hj | hj
      · rw [List.getElem?_append_left hj] at hu; exact h4 j u hu
      · rw [List.getElem?_append_right hj] at hu
        have := g3 (j - cs.length) u hu
        rw [show n * sz τ + (j - cs.length) = j by omega] at this
        exact this
theorem cell_plain {a : Addr} {u : Value} (h : w.cell? a = some u) : a.spot = none ∧ a.block < w.heap.size := by
  unfold World.cell? at h
  split at h
  · rename_i c e f hb
    split at h
    · cases h
    · rename_i hs
      exact ⟨by simpa using hs, (Array.getElem?_eq_some_iff.1 hb).1⟩
  · cases h
/-- A slice inside of what came in: one without places may point anywhere. -/
theorem reads_sl {τ : Ty} {Wf : Den τ → Prop} {t e : TypeId} (ht : P.underlying t = some (.slice e)) (hc : P.cellsOf e = sz τ) (hpos : 1 ≤ sz τ) (he : Reads enc P w held e τ Wf) :
    Reads enc P w held t (.sl τ) (fun (l : List (Den τ)) => l.length ≤ maxLen ∧ ∀ y ∈ l, Wf y) := by
  intro fuel cs x h
  rcases open_slice ht h with ⟨rfl, _⟩ | ⟨a, len, cap, m, n, D, Pl, rfl, _, hl, hm, hmm, _, hx⟩
  · exact ⟨([] : List (Den τ)), .nil τ, by simp, by simp⟩
  · simp only [if_true] at hmm
    subst hmm
    by_cases h0 : m = 0
    · subst h0
      obtain rfl : len = 0 := by omega
      exact ⟨([] : List (Den τ)), .nil τ, by simp, by simp⟩
    · obtain ⟨cs0, c1, _⟩ := hx 0 (by omega)
      obtain ⟨h7, h8⟩ := cells_cut' c1
      rw [hc] at h7
      have hlt : 0 < cs0.length := by omega
      have h9 := h8 0 cs0[0] (List.getElem?_eq_getElem hlt)
      have ha : (a.add (0 * P.cellsOf e)).add 0 = a := by simp [Addr.add]
      rw [ha] at h9
      obtain ⟨hsp, hb⟩ := cell_plain h9
      obtain ⟨b, o, sp⟩ := a
      simp only at hsp hb
      subst hsp
      obtain ⟨l, cs, h1, h2, h3, h4⟩ := row_of (w := w) (τ := τ) (Wf := Wf) (b := b) (o := o) (n := len) (fun i hi => by
        obtain ⟨c, h3, h4⟩ := hx i (by omega)
        obtain ⟨y, h5, h6⟩ := he _ _ _ h4
        obtain ⟨h7, h8⟩ := cells_cut' h3
        refine ⟨y, c, h5, h6, fun j u hu => ?_⟩
        have := h8 j u hu
        rw [hc, add_two'] at this
        rwa [← add_plain])
      subst h1
      exact ⟨l, .sl τ l b o m cs hl hb h2 h4, by omega, h3⟩
/-- An argument that is a slice. -/
theorem arg_sl {τ : Ty} {Wf : Den τ → Prop} {t e : TypeId} {v : Value} {x : DataW H} {ps : List MemPlace} {base : Nat} (ht : P.underlying t = some (.slice e)) (hc : P.cellsOf e = sz τ) (he : Reads enc P w held e τ Wf)
    (hv : Value.okWide P w .any base t v) (h : DataW.Trod enc P w 0 (fun _ => true) held t v x ps) :
    ∃ l : List (Den τ), VRep w (Old w) (.sl τ) l v ∧ l.length ≤ maxLen ∧ ∀ y ∈ l, Wf y := by
  obtain ⟨fuel, hf⟩ := h
  obtain ⟨a0, len0, cap0, rfl⟩ := okWide_slice ht hv
  have hcell : (Value.slice a0 len0 cap0).cells.toList = [Value.slice a0 len0 cap0] := by simp [Value.cells]
  rw [hcell] at hf
  rcases DataW.trod_slice ht hf with ⟨hq, _⟩ | ⟨a, len, cap, elems, rest, n, _, hq, _, _, hl, hm, hlen, hel, _, _⟩
  · simp only [List.cons.injEq, Value.slice.injEq, and_true] at hq
    obtain ⟨rfl, rfl, rfl⟩ := hq
    exact ⟨[], .mkNil τ, by simp, by simp⟩
  · simp only [List.cons.injEq, Value.slice.injEq, and_true] at hq
    obtain ⟨rfl, rfl, rfl⟩ := hq
    have hok : w.has P .any base a e cap0 := by
      unfold Value.okWide at hv
      rw [ht] at hv
      simp only [Cell.okWide, Cell.ok, ht] at hv
      exact hv.2.2
    obtain ⟨_, hsp, row, cells, hsh, _⟩ := hok
    obtain ⟨b, o, sp⟩ := a
    simp only at hsp
    subst hsp
    have hb : b < w.heap.size := by
      unfold World.shape? at hsh
      split at hsh
      · rename_i hcl
        exact (Array.getElem?_eq_some_iff.1 hcl).1
      · cases hsh
    obtain ⟨l, cs, h1, h2, h3, h4⟩ := row_of (w := w) (τ := τ) (Wf := Wf) (b := b) (o := o) (n := len0) (fun i hi => by
      have h1 := hel i hi
      have h2 : i < elems.length := by omega
      rw [List.getElem?_eq_getElem h2, Option.bind_eq_some_iff] at h1
      obtain ⟨c, h3, h4⟩ := h1
      obtain ⟨y, h5, h6⟩ := he _ _ _ h4
      obtain ⟨h7, h8⟩ := cells_cut' h3
      refine ⟨y, c, h5, h6, fun j u hu => ?_⟩
      have := h8 j u hu
      rw [hc, add_two'] at this
      rwa [← add_plain])
    subst h1
    exact ⟨l, .mkSl hl hb h2 h4, by omega, h3⟩
theorem arg_int' {k : IntKind} {t : TypeId} {v : Value} {x : DataW H} {ps : List MemPlace} (ht : P.underlying t = some (.int k)) (h : DataW.Trod enc P w 0 (fun _ => true) held t v x ps) (hv : ∃ n, v = .int k n) :
    ∃ n : Int, v = .int k n ∧ VRep w (Old w) (.int k) n v ∧ (Lit.int k n).wf = true := by
  obtain ⟨fuel, hf⟩ := h
  obtain ⟨m, rfl⟩ := hv
  obtain ⟨n, hcs, _, hw⟩ := DataW.trod_int ht hf
  simp [Value.cells] at hcs
  subst hcs
  exact ⟨m, rfl, ⟨_, .int k m, by simp [isAggT]⟩, hw⟩
end
end Go.Proofs.YtkgpkalclblhbaaGreatDoor.Eng
