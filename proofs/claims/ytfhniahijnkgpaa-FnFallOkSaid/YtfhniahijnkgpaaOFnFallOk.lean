/-
  What an argument that can be read is, as a list, a number or a record of these: in whatever memory.
-/
import Derived.Test.YtfhniahijnkgpaaVFnFallOk
import Derived.ProofKit
import Derived.OpenShut
import Derived.ShutString
import Derived.ChangeOld
import Derived.Below
import Derived.SizedLaws
import Derived.Deep.Fields
import Derived.Lib.SmallJoins
namespace Go.Proofs.Ytfhniahijnkgpaa.Opened
open Go.Deep Go.ChangeShapes Go.WideShapes Go.ChangeAt Go.RowKit Go.Proofs.YtfhniahijnkgpaaW.PrintWords

section
variable {H : Type} {enc : TypeId × Value → H} {P : Program} {w : World} {held : Bool}

/-- Whatever reads at the type t is of the kind d. -/
def Opens (enc : TypeId × Value → H) (P : Program) (w : World) (held : Bool) {α : Type} (d : Kd α) (t : TypeId) (Wf : α → Prop) : Prop :=
  ∀ fuel cs x, DataW.trod enc P w 0 (fun _ => true) held fuel t cs = some x → ∃ a, d.K w a cs ∧ Wf a

theorem opens_int {t : TypeId} {k : IntKind} (ht : P.underlying t = some (.int k)) : Opens enc P w held (Kd.int k) t (fun n => (Lit.int k n).wf = true) := by
  intro fuel cs x h
  obtain ⟨n, rfl, _, hw⟩ := DataW.trod_int ht h
  exact ⟨n, rfl, hw⟩
theorem opens_string {t : TypeId} (ht : P.underlying t = some .string) : Opens enc P w held Kd.string t (fun s => s.size ≤ maxLen) := by
  intro fuel cs x h
  obtain ⟨s, rfl, _, hw⟩ := DataW.trod_string ht h
  exact ⟨s, rfl, hw⟩
theorem list_of {α : Type} {p : Nat → α → Prop} {n : Nat} (h : ∀ i, i < n → ∃ y, p i y) : ∃ l : List α, n = l.length ∧ ∀ i y, l[i]? = some y → p i y := by
  induction n with
  | zero => exact ⟨[], rfl, fun i y hy => by simp at hy⟩
  | succ n ih =>
    obtain ⟨l, h1, h2⟩ := ih (fun i hi => h i (by omega))
    obtain ⟨y, hy⟩ := h n (by omega)
    refine ⟨l ++ [y], by simp [h1], fun i z hz => ?_⟩
    rcases Nat.lt_or_ge i l.length with hi | hi
    · rw [List.getElem?_append_left hi] at hz
      exact h2 i z hz
    · have hi' : i = n := by
        have := (List.getElem?_eq_some_iff.1 hz).1
        simp at this
        omega
      subst hi'
      rw [h1, List.getElem?_concat_length] at hz
      cases hz
      exact hy
theorem add_two (a : Addr) (m n : Nat) : (a.add m).add n = a.add (m + n) := by
  unfold Addr.add
  by_cases hm : m = 0 <;> by_cases hn : n = 0 <;> simp [hm, hn, Nat.add_assoc]
theorem cells_cut {a : Addr} {m : Nat} {cs : List Value} (h : w.cells? 0 a m = some cs) : cs.length = m ∧ ∀ i u, cs[i]? = some u → w.cell? (a.add i) = some u := by
  obtain ⟨_, hl, hc⟩ := World.cells?_some h
  refine ⟨hl, fun i u hu => ?_⟩
  have hi : i < m := by
    have := (List.getElem?_eq_some_iff.1 hu).1
    omega
  rw [hc i hi, hu]
theorem opens_slice {α : Type} {d : Kd α} {Wf : α → Prop} {t e : TypeId} (ht : P.underlying t = some (.slice e)) (hc : P.cellsOf e = d.sz) (he : Opens enc P w held d e Wf) :
    Opens enc P w held (Kd.slice e d) t (fun l => l.length ≤ maxLen ∧ ∀ x ∈ l, Wf x) := by
  intro fuel cs x h
  rcases DataW.trod_slice ht h with ⟨rfl, _⟩ | ⟨a, len, cap, elems, rest, n, _, rfl, _, _, hl, hm, hlen, hel, _, _⟩
  · exact ⟨[], ⟨none, 0, rfl, Nat.le_refl _, rfl, by simp, fun h0 => absurd h0 (by simp)⟩, by simp⟩
  · have each : ∀ i, i < len → ∃ (y : α) (c : List Value), d.K w y c ∧ Wf y ∧ c.length = d.sz ∧ ∀ j u, c[j]? = some u → w.cell? (a.add (i * d.sz + j)) = some u := by
      intro i hi
      have h1 := hel i hi
      have h2 : i < elems.length := by omega
      rw [List.getElem?_eq_getElem h2, Option.bind_eq_some_iff] at h1
      obtain ⟨c, h3, h4⟩ := h1
      obtain ⟨y, h5, h6⟩ := he _ _ _ h4
      obtain ⟨h7, h8⟩ := cells_cut h3
      refine ⟨y, c, h5, h6, by rw [h7, hc], fun j u hu => ?_⟩
      have := h8 j u hu
      rw [hc, add_two] at this
      exact this
    obtain ⟨l, h1, h2⟩ := list_of each
    subst h1
    refine ⟨l, ⟨some a, cap, rfl, hl, rfl, by simp only [maxLen] at hm; omega, fun _ => ⟨a, rfl, fun j p hj => ?_⟩⟩, by omega, fun x hx => ?_⟩
    · obtain ⟨c, k1, _, k3, k4⟩ := h2 j p hj
      exact ⟨c, k3, k1, k4⟩
    · obtain ⟨j, hj⟩ := List.getElem?_of_mem hx
      obtain ⟨c, _, k2, _⟩ := h2 j x hj
      exact k2
/-- The cells of a record of one-cell fields. -/
theorem opens_pair {α β : Type} {a : Kd α} {b : Kd β} {Wa : α → Prop} {Wb : β → Prop} {t : TypeId} {f0 f1 : Field} (ht : P.underlying t = some (.struct #[f0, f1])) (hone : oneCellFields P #[f0, f1] = true) (hC : P.cellsOf t = 2)
    (h0 : Opens enc P w held a f0.type Wa) (h1 : Opens enc P w held b f1.type Wb) : Opens enc P w held (Kd.pair a b) t (fun x => Wa x.1 ∧ Wb x.2) := by
  intro fuel cs x h
  obtain ⟨y0, y1, n, _, hl, t0, t1⟩ := trod_struct2 ht h
  rw [hC] at hl
  obtain ⟨o0, c0⟩ := hone_of hone 0 f0 rfl
  obtain ⟨o1, c1⟩ := hone_of hone 1 f1 rfl
  match cs, hl with
  | [u, v], _ =>
    obtain ⟨p, k0, w0⟩ := h0 _ _ _ t0
    obtain ⟨q, k1, w1⟩ := h1 _ _ _ t1
    rw [o0, c0] at k0
    rw [o1, c1] at k1
    exact ⟨(p, q), ⟨[u], [v], rfl, k0, k1⟩, w0, w1⟩
theorem opens_iso {α β : Type} {d : Kd α} {f : β → α} {g : α → β} (hfg : ∀ x, f (g x) = x) {W : α → Prop} {t : TypeId} (h : Opens enc P w held d t W) : Opens enc P w held (Kd.iso d f) t (fun x => W (f x)) := by
  intro fuel cs x ht
  obtain ⟨a, k, hw⟩ := h _ _ _ ht
  exact ⟨g a, by show d.K w (f (g a)) cs; rw [hfg]; exact k, by show W (f (g a)); rw [hfg]; exact hw⟩
/-- An argument that is a slice. -/
theorem arg_slice {α : Type} {d : Kd α} {Wf : α → Prop} {t e : TypeId} {v : Value} {x : DataW H} {ps : List MemPlace} (ht : P.underlying t = some (.slice e)) (hc : P.cellsOf e = d.sz) (he : Opens enc P w held d e Wf)
    {a : Option Addr} {len cap : Nat} (hv : v = .slice a len cap) (h : DataW.Trod enc P w 0 (fun _ => true) held t v x ps) :
    ∃ (l : List α), len = l.length ∧ d.C w a l.length l ∧ l.length ≤ cap ∧ l.length ≤ maxLen ∧ ∀ y ∈ l, Wf y := by
  obtain ⟨fuel, hf⟩ := h
  subst hv
  obtain ⟨l, ⟨A, c, hcs, h1, h2⟩, h3, h4⟩ := opens_slice ht hc he _ _ _ hf
  simp [Value.cells] at hcs
  obtain ⟨rfl, rfl, rfl⟩ := hcs
  exact ⟨l, rfl, h2, h1, h3, h4⟩
/-- A field that is a slice. -/
theorem field_slice {α : Type} {d : Kd α} {Wf : α → Prop} {t e : TypeId} {v : Value} {n : Nat} {y : DataW H × List MemPlace} (ht : P.underlying t = some (.slice e)) (hc : P.cellsOf e = d.sz) (he : Opens enc P w held d e Wf)
    (h : DataW.trod enc P w 0 (fun _ => true) held n t [v] = some y) :
    ∃ (A : Option Addr) (c : Nat) (l : List α), v = .slice A l.length c ∧ d.C w A l.length l ∧ l.length ≤ c ∧ l.length ≤ maxLen ∧ ∀ y ∈ l, Wf y := by
  obtain ⟨l, ⟨A, c, hcs, h1, h2⟩, h3, h4⟩ := opens_slice ht hc he _ _ _ h
  exact ⟨A, c, l, by simpa using hcs, h2, h1, h3, h4⟩
theorem field_int {k : IntKind} {t : TypeId} {v : Value} {n : Nat} {y : DataW H × List MemPlace} (ht : P.underlying t = some (.int k)) (h : DataW.trod enc P w 0 (fun _ => true) held n t [v] = some y) :
    ∃ m : Int, v = .int k m ∧ (Lit.int k m).wf = true := by
  obtain ⟨m, hcs, _, hw⟩ := DataW.trod_int ht h
  exact ⟨m, by simpa using hcs, hw⟩
end
end Go.Proofs.Ytfhniahijnkgpaa.Opened
