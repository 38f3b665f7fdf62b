/-
  What values in memory mean: the relation between cells and the interpreter's values, and how it lasts.
-/
import Derived.Test.YtigeaijocajnhaaE2
import Derived.Below
import Derived.Deep.MidRow
import Derived.Laws.Append
namespace Go.Proofs.Ytigeaijocajnhaa.Eng
open Go Go.RowKit
set_option linter.unusedVariables false
set_option linter.unusedSimpArgs false

abbrev BS := Nat → Prop

mutual
inductive RepC (w : World) (G : BS) : (t : Ty) → Den t → List Value → Prop
  | int (k : IntKind) (i : Int) : RepC w G (.int k) i [.int k i]
  | bool (b : Bool) : RepC w G .bool b [.bool b]
  | str (s : ByteArray) : RepC w G .str s.data.toList [.string s]
  | unit : RepC w G .unit () []
  | nil (e : Ty) {oa : Option Addr} : RepC w G (.sl e) ([] : List (Den e)) [.slice oa 0 0]
  | sl (e : Ty) (xs : List (Den e)) (b o cap : Nat) (cs : List Value) (hcap : xs.length ≤ cap) (hG : G b) (hl : RepL w G e xs cs) (hc : w.rangeAt b o cs) :
      RepC w G (.sl e) xs [.slice (some ⟨b, o, none⟩) xs.length cap]
  | pair (t u : Ty) (x : Den t) (y : Den u) (cs ds : List Value) (h1 : RepC w G t x cs) (h2 : RepC w G u y ds) : RepC w G (.pair t u) (x, y) (cs ++ ds)
  | ap (i : Nat) (x : NT i) (cs : List Value) (h : RepC w G (unf i) (un i x) cs) : RepC w G (.ap i) x cs
inductive RepL (w : World) (G : BS) : (e : Ty) → List (Den e) → List Value → Prop
  | nil (e : Ty) : RepL w G e [] []
  | cons (e : Ty) (x : Den e) (xs : List (Den e)) (cs ds : List Value) (h1 : RepC w G e x cs) (h2 : RepL w G e xs ds) : RepL w G e (x :: xs) (cs ++ ds)
end

theorem sz_unf : ∀ i, sz (unf i) = szNT i
  | 0 => rfl
  | 1 => rfl
  | 2 => rfl
  | 3 => rfl
  | 4 => rfl
  | _ + 5 => rfl

theorem repC_ind {w : World} {G : BS} {p : (t : Ty) → (x : Den t) → (cs : List Value) → Prop} {q : (e : Ty) → (xs : List (Den e)) → (cs : List Value) → Prop}
    (h1 : ∀ k i, p (.int k) i [.int k i]) (h2 : ∀ b, p .bool b [.bool b]) (h3 : ∀ s : ByteArray, p .str s.data.toList [.string s]) (h4 : p .unit () []) (h5 : ∀ e oa, p (.sl e) ([] : List (Den e)) [.slice oa 0 0])
    (h6 : ∀ e (xs : List (Den e)) b o cap cs, xs.length ≤ cap → G b → RepL w G e xs cs → w.rangeAt b o cs → q e xs cs → p (.sl e) xs [.slice (some ⟨b, o, none⟩) xs.length cap])
    (h7 : ∀ t u x y cs ds, RepC w G t x cs → RepC w G u y ds → p t x cs → p u y ds → p (.pair t u) (x, y) (cs ++ ds)) (h8 : ∀ i x cs, RepC w G (unf i) (un i x) cs → p (unf i) (un i x) cs → p (.ap i) x cs)
    (h9 : ∀ e, q e [] []) (h10 : ∀ e x xs cs ds, RepC w G e x cs → RepL w G e xs ds → p e x cs → q e xs ds → q e (x :: xs) (cs ++ ds)) :
    (∀ t x cs, RepC w G t x cs → p t x cs) ∧ (∀ e xs cs, RepL w G e xs cs → q e xs cs) :=
  ⟨fun t x cs h => RepC.rec (motive_1 := fun t x cs _ => p t x cs) (motive_2 := fun e xs cs _ => q e xs cs) h1 h2 h3 h4 (fun e {oa} => h5 e oa) (fun e xs b o cap cs a1 a2 a3 a4 a5 => h6 e xs b o cap cs a1 a2 a3 a4 a5)
      (fun t u x y cs ds a b c d => h7 t u x y cs ds a b c d) (fun i x cs a b => h8 i x cs a b) h9 (fun e x xs cs ds a b c d => h10 e x xs cs ds a b c d) h,
   fun t x cs h => RepL.rec (motive_1 := fun t x cs _ => p t x cs) (motive_2 := fun e xs cs _ => q e xs cs) h1 h2 h3 h4 (fun e {oa} => h5 e oa) (fun e xs b o cap cs a1 a2 a3 a4 a5 => h6 e xs b o cap cs a1 a2 a3 a4 a5)
      (fun t u x y cs ds a b c d => h7 t u x y cs ds a b c d) (fun i x cs a b => h8 i x cs a b) h9 (fun e x xs cs ds a b c d => h10 e x xs cs ds a b c d) h⟩

theorem rep_len {w : World} {G : BS} : (∀ t x cs, RepC w G t x cs → cs.length = sz t) ∧ (∀ e xs cs, RepL w G e xs cs → cs.length = xs.length * sz e) := by
  refine repC_ind (fun _ _ => rfl) (fun _ => rfl) (fun _ => rfl) rfl (fun _ _ => rfl) (fun _ _ _ _ _ _ _ _ _ _ _ => rfl) ?_ ?_ ?_ ?_
  · intro t u x y cs ds _ _ h1 h2; simp [sz, h1, h2]
  · intro i x cs _ h; rw [h, sz_unf]; rfl
  · intro e; simp
  · intro e x xs cs ds _ _ h1 h2; simp [h1, h2, Nat.add_mul]; omega
theorem RepC.len {w : World} {G : BS} {t : Ty} {x : Den t} {cs : List Value} (h : RepC w G t x cs) : cs.length = sz t := rep_len.1 _ _ _ h
theorem RepL.len {w : World} {G : BS} {e : Ty} {xs : List (Den e)} {cs : List Value} (h : RepL w G e xs cs) : cs.length = xs.length * sz e := rep_len.2 _ _ _ h

theorem rep_one {w : World} {G : BS} : (∀ t x cs, RepC w G t x cs → ∀ v ∈ cs, v.oneCell' = true) ∧ (∀ e xs cs, RepL w G e xs cs → ∀ v ∈ cs, v.oneCell' = true) := by
  refine repC_ind ?_ ?_ ?_ ?_ ?_ ?_ ?_ ?_ ?_ ?_
  · intro k i v hv; simp at hv; subst hv; rfl
  · intro b v hv; simp at hv; subst hv; rfl
  · intro b v hv; simp at hv; subst hv; rfl
  · intro v hv; simp at hv
  · intro e oa v hv; simp at hv; subst hv; rfl
  · intro e xs b o cap cs _ _ _ _ _ v hv; simp at hv; subst hv; rfl
  · intro t u x y cs ds _ _ h1 h2 v hv; rcases List.mem_append.1 hv with h | h; exact h1 v h; exact h2 v h
  · intro i x cs _ h; exact h
  · intro e v hv; simp at hv
  · intro e x xs cs ds _ _ h1 h2 v hv; rcases List.mem_append.1 hv with h | h; exact h1 v h; exact h2 v h
theorem RepC.one {w : World} {G : BS} {t : Ty} {x : Den t} {cs : List Value} (h : RepC w G t x cs) : ∀ v ∈ cs, v.oneCell' = true := rep_one.1 _ _ _ h
theorem RepL.one {w : World} {G : BS} {e : Ty} {xs : List (Den e)} {cs : List Value} (h : RepL w G e xs cs) : ∀ v ∈ cs, v.oneCell' = true := rep_one.2 _ _ _ h

/-- What reads in some blocks reads so in another world in which these are the same, and with more blocks. -/
theorem rep_move {w w' : World} {G G' : BS} (hg : ∀ b, G b → G' b) (hb : ∀ b, G b → w'.heap[b]? = w.heap[b]?) :
    (∀ t x cs, RepC w G t x cs → RepC w' G' t x cs) ∧ (∀ e xs cs, RepL w G e xs cs → RepL w' G' e xs cs) := by
  refine repC_ind (fun _ _ => .int _ _) (fun _ => .bool _) (fun _ => .str _) .unit (fun _ _ => .nil _) ?_ ?_ ?_ (fun _ => .nil _) ?_
  · intro e xs b o cap cs hcap hG _ hc ih
    exact .sl e xs b o cap cs hcap (hg b hG) ih (fun j v hv => (World.cell?_of_block (a := ⟨b, o + j, none⟩) (hb b hG)).trans (hc j v hv))
  · intro t u x y cs ds _ _ h1 h2; exact .pair t u x y cs ds h1 h2
  · intro i x cs _ h; exact .ap i x cs h
  · intro e x xs cs ds _ _ h1 h2; exact .cons e x xs cs ds h1 h2
theorem RepC.move {w w' : World} {G G' : BS} {t : Ty} {x : Den t} {cs : List Value} (h : RepC w G t x cs) (hg : ∀ b, G b → G' b) (hb : ∀ b, G b → w'.heap[b]? = w.heap[b]?) : RepC w' G' t x cs := (rep_move hg hb).1 _ _ _ h
theorem RepL.move {w w' : World} {G G' : BS} {e : Ty} {xs : List (Den e)} {cs : List Value} (h : RepL w G e xs cs) (hg : ∀ b, G b → G' b) (hb : ∀ b, G b → w'.heap[b]? = w.heap[b]?) : RepL w' G' e xs cs := (rep_move hg hb).2 _ _ _ h

/-- Values that lie in no memory read so anywhere. -/
theorem rep_flat {w : World} {G : BS} : (∀ t x cs, RepC w G t x cs → flat t = true → ∀ w' G', RepC w' G' t x cs) ∧ (∀ e xs cs, RepL w G e xs cs → flat e = true → ∀ w' G', RepL w' G' e xs cs) := by
  refine repC_ind ?_ ?_ ?_ ?_ ?_ ?_ ?_ ?_ ?_ ?_
  · intro k i _ w' G'; exact .int _ _
  · intro b _ w' G'; exact .bool _
  · intro b _ w' G'; exact .str _
  · intro _ w' G'; exact .unit
  · intro e oa h; simp [flat] at h
  · intro e xs b o cap cs _ _ _ _ _ h; simp [flat] at h
  · intro t u x y cs ds _ _ h1 h2 h w' G'
    simp only [flat, Bool.and_eq_true] at h
    exact .pair t u x y cs ds (h1 h.1 w' G') (h2 h.2 w' G')
  · intro i x cs h0 h hf w' G'
    match i, x, h0, h, hf with
    | 3, x, h0, h, hf => exact .ap 3 x cs (h rfl w' G')
    | 0, _, _, _, hf => simp [flat] at hf
    | 1, _, _, _, hf => simp [flat] at hf
    | 2, _, _, _, hf => simp [flat] at hf
    | 4, _, _, _, hf => simp [flat] at hf
    | n + 5, _, _, _, hf => simp [flat] at hf
  · intro e _ w' G'; exact .nil _
  · intro e x xs cs ds _ _ h1 h2 h w' G'; exact .cons e x xs cs ds (h1 h w' G') (h2 h w' G')
theorem RepC.anyw {w : World} {G : BS} {t : Ty} {x : Den t} {cs : List Value} (h : RepC w G t x cs) (hf : flat t = true) (w' : World) (G' : BS) : RepC w' G' t x cs := rep_flat.1 _ _ _ h hf w' G'
theorem RepL.anyw {w : World} {G : BS} {e : Ty} {xs : List (Den e)} {cs : List Value} (h : RepL w G e xs cs) (hf : flat e = true) (w' : World) (G' : BS) : RepL w' G' e xs cs := rep_flat.2 _ _ _ h hf w' G'

/-! ### Taking apart -/
theorem RepC.of_int {w : World} {G : BS} {k : IntKind} {i : Int} {cs : List Value} (h : RepC w G (.int k) i cs) : cs = [.int k i] := by cases h; rfl
theorem RepC.of_bool {w : World} {G : BS} {b : Bool} {cs : List Value} (h : RepC w G .bool b cs) : cs = [.bool b] := by cases h; rfl
theorem RepC.of_str {w : World} {G : BS} {l : List UInt8} {cs : List Value} (h : RepC w G .str l cs) : ∃ s : ByteArray, l = s.data.toList ∧ cs = [.string s] := by cases h; exact ⟨_, rfl, rfl⟩
theorem RepC.of_sl {w : World} {G : BS} {e : Ty} {xs : List (Den e)} {cs : List Value} (h : RepC w G (.sl e) xs cs) :
    (xs = [] ∧ ∃ oa, cs = [.slice oa 0 0]) ∨ ∃ b o cap ds, xs.length ≤ cap ∧ G b ∧ RepL w G e xs ds ∧ w.rangeAt b o ds ∧ cs = [.slice (some ⟨b, o, none⟩) xs.length cap] := by
  cases h with
  | nil => exact .inl ⟨rfl, _, rfl⟩
  | sl _ _ b o cap ds h1 h2 h3 h4 => exact .inr ⟨b, o, cap, ds, h1, h2, h3, h4, rfl⟩
theorem RepC.of_pair {w : World} {G : BS} {t u : Ty} {x : Den t} {y : Den u} {cs : List Value} (h : RepC w G (.pair t u) (x, y) cs) : ∃ c d, cs = c ++ d ∧ RepC w G t x c ∧ RepC w G u y d := by
  cases h with
  | pair _ _ _ _ c d h1 h2 => exact ⟨c, d, rfl, h1, h2⟩
theorem RepC.of_ap {w : World} {G : BS} {i : Nat} {x : NT i} {cs : List Value} (h : RepC w G (.ap i) x cs) : RepC w G (unf i) (un i x) cs := by
  cases h with
  | ap _ _ _ h => exact h
theorem RepC.un {w : World} {G : BS} {t : Ty} {x : Den t} {cs : List Value} (h : RepC w G t x cs) : RepC w G (under t) (unD t x) cs := by
  cases t with
  | ap i => exact h.of_ap
  | _ => exact h
theorem RepC.fo {w : World} {G : BS} {t : Ty} {x : Den (under t)} {cs : List Value} (h : RepC w G (under t) x cs) : RepC w G t (foD t x) cs := by
  cases t with
  | ap i =>
    have e : Eng.un i (foD (.ap i) x) = x := un_fo i x
    refine .ap i _ _ ?_
    rw [e]
    exact h
  | _ => exact h
theorem RepC.to {w : World} {G : BS} {p : PV} {t : Ty} {y : Den t} {cs : List Value} (h : RepC w G p.t p.x cs) (ht : p.to t = some y) : RepC w G t y cs := by
  obtain ⟨u, x⟩ := p
  unfold PV.to at ht
  split at ht
  · rename_i e; subst e; simp at ht; subst ht; exact h
  · split at ht
    · rename_i _ e; simp only at e; subst e; simp at ht; subst ht; exact RepC.fo h
    · split at ht
      · rename_i _ _ e; simp only at e; subst e; simp at ht; subst ht; exact h.un
      · cases ht

theorem drop_past {α : Type} (a b : List α) (n : Nat) : (a ++ b).drop (a.length + n) = b.drop n := by
  rw [List.drop_append, List.drop_eq_nil_of_le (by omega)]; simp
theorem take_past {α : Type} (a b : List α) (n : Nat) : (a ++ b).take (a.length + n) = a ++ b.take n := by
  rw [List.take_append, List.take_of_length_le (by omega)]; simp
/-- One place in a row. -/
theorem RepL.nth {w : World} {G : BS} {e : Ty} : ∀ {xs : List (Den e)} {cs : List Value} (h : RepL w G e xs cs) (i : Nat) (hi : i < xs.length), RepC w G e (xs.getD i (zeroD e)) ((cs.drop (i * sz e)).take (sz e))
  | _, _, .nil _, i, hi => by simp at hi
  | _, _, .cons _ x xs cs ds h1 h2, 0, _ => by
    have := h1.len
    simpa [← this] using h1
  | _, _, .cons _ x xs cs ds h1 h2, i + 1, hi => by
    have ih := RepL.nth h2 i (by simpa using hi)
    have hl := h1.len
    rw [show (i + 1) * sz e = cs.length + i * sz e by rw [hl, Nat.add_mul]; omega, drop_past]
    simpa using ih
theorem RepL.append {w : World} {G : BS} {e : Ty} {xs ys : List (Den e)} {cs ds : List Value} (h : RepL w G e xs cs) (h' : RepL w G e ys ds) : RepL w G e (xs ++ ys) (cs ++ ds) := by
  cases xs with
  | nil => cases h; exact h'
  | cons x xs => cases h with
    | cons _ _ _ c d h1 h2 => rw [List.append_assoc]; exact .cons e x _ c _ h1 (RepL.append h2 h')
termination_by xs.length
theorem RepL.take {w : World} {G : BS} {e : Ty} : ∀ {xs : List (Den e)} {cs : List Value} (h : RepL w G e xs cs) (i : Nat), RepL w G e (xs.take i) (cs.take (i * sz e))
  | _, _, .nil _, i => by simp; exact .nil e
  | _, _, .cons _ x xs cs ds h1 h2, 0 => by simp; exact .nil e
  | _, _, .cons _ x xs cs ds h1 h2, i + 1 => by
    have ih := RepL.take h2 i
    have hl := h1.len
    rw [show (i + 1) * sz e = cs.length + i * sz e by rw [hl, Nat.add_mul]; omega, take_past]
    exact .cons e x _ cs _ h1 ih
theorem RepL.drop {w : World} {G : BS} {e : Ty} : ∀ {xs : List (Den e)} {cs : List Value} (h : RepL w G e xs cs) (i : Nat), RepL w G e (xs.drop i) (cs.drop (i * sz e))
  | _, _, .nil _, i => by simp; exact .nil e
  | _, _, .cons _ x xs cs ds h1 h2, 0 => by simpa using .cons e x xs cs ds h1 h2
  | _, _, .cons _ x xs cs ds h1 h2, i + 1 => by
    have ih := RepL.drop h2 i
    have hl := h1.len
    rw [show (i + 1) * sz e = cs.length + i * sz e by rw [hl, Nat.add_mul]; omega, drop_past]
    simpa using ih
/-- One place written anew. -/
theorem RepL.set {w : World} {G : BS} {e : Ty} : ∀ {xs : List (Den e)} {cs : List Value} (h : RepL w G e xs cs) (i : Nat) (hi : i < xs.length) {y : Den e} {ds : List Value} (hy : RepC w G e y ds), RepL w G e (xs.set i y) (cs.take (i * sz e) ++ (ds ++ cs.drop ((i + 1) * sz e)))
  | _, _, .nil _, i, hi, _, _, _ => by simp at hi
  | _, _, .cons _ x xs cs ds h1 h2, 0, _, y, es, hy => by
    have hl := h1.len
    simp [← hl]
    exact .cons e y xs es ds hy h2
  | _, _, .cons _ x xs cs ds h1 h2, i + 1, hi, y, es, hy => by
    have ih := RepL.set h2 i (by simpa using hi) hy
    have hl := h1.len
    rw [show (i + 1) * sz e = cs.length + i * sz e by rw [hl, Nat.add_mul]; omega, show (i + 1 + 1) * sz e = cs.length + (i + 1) * sz e by rw [hl, Nat.add_mul (i + 1)]; omega, take_past, drop_past, List.append_assoc]
    exact .cons e x _ cs _ h1 ih

/-! ### Values in slots -/
/-- A value that means this. -/
def VRep (w : World) (G : BS) (t : Ty) (x : Den t) (v : Value) : Prop := ∃ cs, RepC w G t x cs ∧ v = if isAggT t then .agg cs.toArray else cs.getD 0 undef
theorem VRep.move {w w' : World} {G G' : BS} {t : Ty} {x : Den t} {v : Value} (h : VRep w G t x v) (hg : ∀ b, G b → G' b) (hb : ∀ b, G b → w'.heap[b]? = w.heap[b]?) : VRep w' G' t x v :=
  let ⟨cs, h1, h2⟩ := h; ⟨cs, h1.move hg hb, h2⟩
theorem VRep.anyw {w : World} {G : BS} {t : Ty} {x : Den t} {v : Value} (h : VRep w G t x v) (hf : flat t = true) (w' : World) (G' : BS) : VRep w' G' t x v :=
  let ⟨cs, h1, h2⟩ := h; ⟨cs, h1.anyw hf w' G', h2⟩
end Go.Proofs.Ytigeaijocajnhaa.Eng
