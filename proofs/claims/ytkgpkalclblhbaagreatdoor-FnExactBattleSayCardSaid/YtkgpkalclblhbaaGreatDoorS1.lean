/-
  What values in memory mean: the relation between cells and the interpreter's values, and how it lasts.
-/
import Derived.Test.YtkgpkalclblhbaaGreatDoorE2
import Derived.Below
import Derived.Deep.MidRow
import Derived.Laws.Append
namespace Go.Proofs.YtkgpkalclblhbaaGreatDoor.Eng
open Go Go.RowKit
set_option linter.unusedVariables false
set_option linter.unusedSimpArgs false

abbrev BS := Nat → Prop

mutual
inductive RepC (w : World) (G : BS) : (t : Ty) → Den t → List Value → Prop
  | int (k : IntKind) (i : Int) : RepC w G (.int k) i [.int k i]
  | bool (b : Bool) : RepC w G .bool b [.bool b]
  | str (s : ByteArray) : RepC w G .str s.data.toList [.string s]
  | unit : RepC w G .unit () []
  | nil (e : Ty) {oa : Option Addr} : RepC w G (.sl e) ([] : List (Den e)) [.slice oa 0 0]
  | sl (e : Ty) (xs : List (Den e)) (b o cap : Nat) (cs : List Value) (hcap : xs.length ≤ cap) (hG : G b) (hl : RepL w G e xs cs) (hc : w.rangeAt b o cs) :
      RepC w G (.sl e) xs [.slice (some ⟨b, o, none⟩) xs.length cap]
  | pair (t u : Ty) (x : Den t) (y : Den u) (cs ds : List Value) (h1 : RepC w G t x cs) (h2 : RepC w G u y ds) : RepC w G (.pair t u) (x, y) (cs ++ ds)
  | ap (i : Nat) (x : NT i) (cs : List Value) (h : RepC w G (unf i) (un i x) cs) : RepC w G (.ap i) x cs
  | errNil : RepC w G .err true [.nilIface]
  | err (t : TypeId) (v : Value) : RepC w G .err false [.iface t v]
inductive RepL (w : World) (G : BS) : (e : Ty) → List (Den e) → List Value → Prop
  | nil (e : Ty) : RepL w G e [] []
  | cons (e : Ty) (x : Den e) (xs : List (Den e)) (cs ds : List Value) (h1 : RepC w G e x cs) (h2 : RepL w G e xs ds) : RepL w G e (x :: xs) (cs ++ ds)
end

theorem sz_unf : ∀ i, sz (unf i) = szNT i
  | 0 => rfl
  | 1 => rfl
  | 2 => rfl
  | 3 => rfl
  | 4 => rfl
  | 5 => rfl
  | _ + 6 => rfl

theorem repC_ind {w : World} {G : BS} {p : (t : Ty) → (x : Den t) → (cs : List Value) → Prop} {q : (e : Ty) → (xs : List (Den e)) → (cs : List Value) → Prop}
    (h1 : ∀ k i, p (.int k) i [.int k i]) (h2 : ∀ b, p .bool b [.bool b]) (h3 : ∀ s : ByteArray, p .str s.data.toList [.string s]) (h4 : p .unit () []) (h5 : ∀ e oa, p (.sl e) ([] : List (Den e)) [.slice oa 0 0])
    (h6 : ∀ e (xs : List (Den e)) b o cap cs, xs.length ≤ cap → G b → RepL w G e xs cs → w.rangeAt b o cs → q e xs cs → p (.sl e) xs [.slice (some ⟨b, o, none⟩) xs.length cap])
    (h7 : ∀ t u x y cs ds, RepC w G t x cs → RepC w G u y ds → p t x cs → p u y ds → p (.pair t u) (x, y) (cs ++ ds)) (h8 : ∀ i x cs, RepC w G (unf i) (un i x) cs → p (unf i) (un i x) cs → p (.ap i) x cs)
    (hn : p .err true [.nilIface]) (he : ∀ t v, p .err false [.iface t v]) (h9 : ∀ e, q e [] []) (h10 : ∀ e x xs cs ds, RepC w G e x cs → RepL w G e xs ds → p e x cs → q e xs ds → q e (x :: xs) (cs ++ ds)) :
    (∀ t x cs, RepC w G t x cs → p t x cs) ∧ (∀ e xs cs, RepL w G e xs cs → q e xs cs) :=
  ⟨fun t x cs h => RepC.rec (motive_1 := fun t x cs _ => p t x cs) (motive_2 := fun e xs cs _ => q e xs cs) h1 h2 h3 h4 (fun e {oa} => h5 e oa) (fun e xs b o cap cs a1 a2 a3 a4 a5 => h6 e xs b o cap cs a1 a2 a3 a4 a5)
      (fun t u x y cs ds a b c d => h7 t u x y cs ds a b c d) (fun i x cs a b => h8 i x cs a b) hn he h9 (fun e x xs cs ds a b c d => h10 e x xs cs ds a b c d) h,
   fun t x cs h => RepL.rec (motive_1 := fun t x cs _ => p t x cs) (motive_2 := fun e xs cs _ => q e xs cs) h1 h2 h3 h4 (fun e {oa} => h5 e oa) (fun e xs b o cap cs a1 a2 a3 a4 a5 => h6 e xs b o cap cs a1 a2 a3 a4 a5)
      (fun t u x y cs ds a b c d => h7 t u x y cs ds a b c d) (fun i x cs a b => h8 i x cs a b) hn he h9 (fun e x xs cs ds a b c d => h10 e x xs cs ds a b c d) h⟩

theorem rep_len {w : World} {G : BS} : (∀ t x cs, RepC w G t x cs → cs.length = sz t) ∧ (∀ e xs cs, RepL w G e xs cs → cs.length = xs.length * sz e) := by
  refine repC_ind (fun _ _ => rfl) (fun _ => rfl) (fun _ => rfl) rfl (fun _ _ => rfl) (fun _ _ _ _ _ _ _ _ _ _ _ => rfl) ?_ ?_ rfl (fun _ _ => rfl) ?_ ?_
  · intro t u x y cs ds _ _ h1 h2; simp [sz, h1, h2]
  · intro i x cs _ h; rw [h, sz_unf]; rfl
  · intro e; simp
  · intro e x xs cs ds _ _ h1 h2; simp [h1, h2, Nat.add_mul]; omega
theorem RepC.len {w : World} {G : BS} {t : Ty} {x : Den t} {cs : List Value} (h : RepC w G t x cs) : cs.length = sz t := rep_len.1 _ _ _ h
theorem RepL.len {w : World} {G : BS} {e : Ty} {xs : List (Den e)} {cs : List Value} (h : RepL w G e xs cs) : cs.length = xs.length * sz e := rep_len.2 _ _ _ h

theorem rep_one {w : World} {G : BS} : (∀ t x cs, RepC w G t x cs → ∀ v ∈ cs, v.oneCell' = true) ∧ (∀ e xs cs, RepL w G e xs cs → ∀ v ∈ cs, v.oneCell' = true) := by
  refine repC_ind ?_ ?_ ?_ ?_ ?_ ?_ ?_ ?_ (fun v hv => by simp at hv; subst hv; rfl) (fun t u v hv => by simp at hv; subst hv; rfl) ?_ ?_
  · intro k i v hv; simp at hv; subst hv; rfl
  · intro b v hv; simp at hv; subst hv; rfl
  · intro b v hv; simp at hv; subst hv; rfl
  · intro v hv; simp at hv
  · intro e oa v hv; simp at hv; subst hv; rfl
  · intro e xs b o cap cs _ _ _ _ _ v hv; simp at hv; subst hv; rfl
  · intro t u x y cs ds _ _ h1 h2 v hv; rcases List.mem_append.1 hv with h | h; exact h1 v h; exact h2 v h
  · intro i x cs _ h; exact h
  · intro e v hv; simp at hv
  · intro e x xs cs ds _ _ h1 h2 v hv; rcases List.mem_append.1 hv with h | h; exact h1 v h; exact h2 v h
theorem RepC.one {w : World} {G : BS} {t : Ty} {x : Den t} {cs : List Value} (h : RepC w G t x cs) : ∀ v ∈ cs, v.oneCell' = true := rep_one.1 _ _ _ h
theorem RepL.one {w : World} {G : BS} {e : Ty} {xs : List (Den e)} {cs : List Value} (h : RepL w G e xs cs) : ∀ v ∈ cs, v.oneCell' = true := rep_one.2 _ _ _ h

/-- What reads in some blocks reads so in another world in which these are the same, and with more blocks. -/
theorem rep_move {w w' : World} {G G' : BS} (hg : ∀ b, G b → G' b) (hb : ∀ b, G b → w'.heap[b]? = w.heap[b]?) :
    (∀ t x cs, RepC w G t x cs → RepC w' G' t x cs) ∧ (∀ e xs cs, RepL w G e xs cs → RepL w' G' e xs cs) := by
  refine repC_ind (fun _ _ => .int _ _) (fun _ => .bool _) (fun _ => .str _) .unit (fun _ _ => .nil _) ?_ ?_ ?_ .errNil (fun _ _ => .err _ _) (fun _ => .nil _) ?_
  · intro e xs b o cap cs hcap hG _ hc ih
    exact .sl e xs b o cap cs hcap (hg b hG) ih (fun j v hv => (World.cell?_of_block (a := ⟨b, o + j, none⟩) (hb b hG)).trans (hc j v hv))
  · intro t u x y cs ds _ _ h1 h2; exact .pair t u x y cs ds h1 h2
  · intro i x cs _ h; exact .ap i x cs h
  · intro e x xs cs ds _ _ h1 h2; exact .cons e x xs cs ds h1 h2
theorem RepC.move {w w' : World} {G G' : BS} {t : Ty} {x : Den t} {cs : List Value} (h : RepC w G t x cs) (hg : ∀ b, G b → G' b) (hb : ∀ b, G b → w'.heap[b]? = w.heap[b]?) : RepC w' G' t x cs := (rep_move hg hb).1 _ _ _ h
theorem RepL.move {w w' : World} {G G' : BS} {e : Ty} {xs : List (Den e)} {cs : List Value} (h : RepL w G e xs cs) (hg : ∀ b, G b → G' b) (hb : ∀ b, G b → w'.heap[b]? = w.heap[b]?) : RepL w' G' e xs cs := (rep_move hg hb).2 _ _ _ h

/-- Values that lie in no memory read so anywhere. -/
theorem rep_flat {w : World} {G : BS} : (∀ t x cs, RepC w G t x cs → flat t = true → ∀ w' G', RepC w' G' t x cs) ∧ (∀ e xs cs, RepL w G e xs cs → flat e = true → ∀ w' G', RepL w' G' e xs cs) := by
  refine repC_ind ?_ ?_ ?_ ?_ ?_ ?_ ?_ ?_ (fun _ _ _ => .errNil) (fun _ _ _ _ _ => .err _ _) ?_ ?_
  · intro k i _ w' G'; exact .int _ _
  · intro b _ w' G'; exact .bool _
  · intro b _ w' G'; exact .str _
  · intro _ w' G'; exact .unit
  · intro e oa h; simp [flat] at h
  · intro e xs b o cap cs _ _ _ _ _ h; simp [flat] at h
  · intro t u x y cs ds _ _ h1 h2 h w' G'
    simp only [flat, Bool.and_eq_true] at h
    exact .pair t u x y cs ds (h1 h.1 w' G') (h2 h.2 w' G')
  · intro i x cs h0 h hf w' G'
    match i, x, h0, h, hf with
    | 3, x, h0, h, hf => exact .ap 3 x cs (h rfl w' G')
    | 0, _, _, _, hf => simp [flat] at hf
    | 1, _, _, _, hf => simp [flat] at hf
    | 2, _, _, _, hf => simp [flat] at hf
    | 4, _, _, _, hf => simp [flat] at hf
    | 5, x, h0, h, hf => exact .ap 5 x cs (h rfl w' G')
    | n + 6, _, _, _, hf => simp [flat] at hf
  · intro e _ w' G'; exact .nil _
  · intro e x xs cs ds _ _ h1 h2 h w' G'; exact .cons e x xs cs ds (h1 h w' G') (h2 h w' G')
theorem RepC.anyw {w : World} {G : BS} {t : Ty} {x : Den t} {cs : List Value} (h : RepC w G t x cs) (hf : flat t = true) (w' : World) (G' : BS) : RepC w' G' t x cs := rep_flat.1 _ _ _ h hf w' G'
theorem RepL.anyw {w : World} {G : BS} {e : Ty} {xs : List (Den e)} {cs : List Value} (h : RepL w G e xs cs) (hf : flat e = true) (w' : World) (G' : BS) : RepL w' G' e xs cs := rep_flat.2 _ _ _ h hf w' G'

/-! ### Taking apart -/
theorem RepC.of_int {w : World} {G : BS} {k : IntKind} {i : Int} {cs : List Value} (h : RepC w G (.int k) i cs) : cs = [.int k i] := by cases h; rfl
theorem RepC.of_bool {w : World} {G : BS} {b : Bool} {cs : List Value} (h : RepC w G .bool b cs) : cs = [.bool b] := by cases h; rfl
theorem RepC.of_str {w : World} {G : BS} {l : List UInt8} {cs : List Value} (h : RepC w G .str l cs) : ∃ s : ByteArray, l = s.data.toList ∧ cs = [.string s] := by cases h; exact ⟨_, rfl, rfl⟩
theorem RepC.of_sl {w : World} {G : BS} {e : Ty} {xs : List (Den e)} {cs : List Value} (h : RepC w G (.sl e) xs cs) :
    (xs = [] ∧ ∃ oa, cs = [.slice oa 0 0]) ∨ ∃ b o cap ds, xs.length ≤ cap ∧ G b ∧ RepL w G e xs ds ∧ w.rangeAt b o ds ∧ cs = [.slice (some ⟨b, o, none⟩) xs.length cap] := by
  cases h with
  | nil => exact .inl ⟨rfl, _, rfl⟩
  | sl _ _ b o cap ds h1 h2 h3 h4 => exact .inr ⟨b, o, cap, ds, h1, h2, h3, h4, rfl⟩
theorem RepC.of_pair {w : World} {G : BS} {t u : Ty} {x : Den t} {y : Den u} {cs : List Value} (h : RepC w G (.pair t u) (x, y) cs) : ∃ c d, cs = c ++ d ∧ RepC w G t x c ∧ RepC w G u y d := by
  cases h with
  | pair _ _ _ _ c d h1 h2 => exact ⟨c, d, rfl, h1, h2⟩
theorem RepC.of_ap {w : World} {G : BS} {i : Nat} {x : NT i} {cs : List Value} (h : RepC w G (.ap i) x cs) : RepC w G (unf i) (un i x) cs := by
  cases h with
  | ap _ _ _ h => exact h
theorem RepC.of_err {w : World} {G : BS} {b : Bool} {cs : List Value} (h : RepC w G .err b cs) : (b = true ∧ cs = [.nilIface]) ∨ (b = false ∧ ∃ t v, cs = [.iface t v]) := by
  cases h with
  | errNil => exact .inl ⟨rfl, rfl⟩
  | err t v => exact .inr ⟨rfl, t, v, rfl⟩
theorem RepC.of_arr {w : World} {G : BS} {k : Int × Int × Int} {cs : List Value} (h : RepC w G (.ap 5) k cs) : cs = [.int .i64 k.1, .int .i64 k.2.1, .int .i64 k.2.2] := by
  obtain ⟨c, d, rfl, h1, h2⟩ := RepC.of_pair h.of_ap
  obtain ⟨c', d', rfl, h3, h4⟩ := RepC.of_pair h2
  obtain ⟨c'', d'', rfl, h5, h6⟩ := RepC.of_pair h4
  cases h6
  rw [h1.of_int, h3.of_int, h5.of_int]
  rfl
theorem RepC.arr (w : World) (G : BS) (k : Int × Int × Int) : RepC w G (.ap 5) k [.int .i64 k.1, .int .i64 k.2.1, .int .i64 k.2.2] :=
  .ap 5 _ _ (.pair _ _ _ _ [_] [_, _] (.int _ _) (.pair _ _ _ _ [_] [_] (.int _ _) (.pair _ _ _ _ [_] [] (.int _ _) .unit)))
theorem RepC.un {w : World} {G : BS} {t : Ty} {x : Den t} {cs : List Value} (h : RepC w G t x cs) : RepC w G (under t) (unD t x) cs := by
  cases t with
  | ap i => exact h.of_ap
  | _ => exact h
theorem RepC.fo {w : World} {G : BS} {t : Ty} {x : Den (under t)} {cs : List Value} (h : RepC w G (under t) x cs) : RepC w G t (foD t x) cs := by
  cases t with
  | ap i =>
    have e : Eng.un i (foD (.ap i) x) = x := un_fo i x
    refine .ap i _ _ ?_
    rw [e]
    exact h
  | _ => exact h
theorem RepC.to {w : World} {G : BS} {p : PV} {t : Ty} {y : Den t} {cs : List Value} (h : RepC w G p.t p.x cs) (ht : p.to t = some y) : RepC w G t y cs := by
  obtain ⟨u, x⟩ := p
  unfold PV.to at ht
  split at ht
  · rename_i e; subst e; simp at ht; subst ht; exact h
  · split at ht
    · rename_i _ e; simp only at e; subst e; simp at ht; subst ht; exact RepC.fo h
    · split at ht
      · rename_i _ _ e; simp only at e; subst e; simp at ht; subst ht; exact h.un
      · cases ht

theorem drop_past {α : Type} (a b : List α) (n : Nat) : (a ++ b).drop (a.length + n) = b.drop n := by
  rw [List.drop_append, List.drop_eq_nil_of_le (by omega)]; simp
theorem take_past {α : Type} (a b : List α) (n : Nat) : (a ++ b).take (a.length + n) = a ++ b.take n := by
  rw [List.take_append, List.take_of_length_le (by omega)]; simp
/-- One place in a row. -/
theorem RepL.nth {w : World} {G : BS} {e : Ty} : ∀ {xs : List (Den e)} {cs : List Value} (h : RepL w G e xs cs) (i : Nat) (hi : i < xs.length), RepC w G e (xs.getD i (zeroD e)) ((cs.drop (i * sz e)).take (sz e))
  | _, _, .nil _, i, hi => by simp at hi
  | _, _, .cons _ x xs cs ds h1 h2, 0, _ => by
    have := h1.len
    simpa [← this] using h1
  | _, _, .cons _ x xs cs ds h1 h2, i + 1, hi => by
    have ih := RepL.nth h2 i (by simpa using hi)
    have hl := h1.len
    rw [show (i + 1) * sz e = cs.length + i * sz e by rw [hl, Nat.add_mul]; omega, drop_past]
    simpa using ih
theorem RepL.append {w : World} {G : BS} {e : Ty} {xs ys : List (Den e)} {cs ds : List Value} (h : RepL w G e xs cs) (h' : RepL w G e ys ds) : RepL w G e (xs ++ ys) (cs ++ ds) := by
  cases xs with
  | nil => cases h; exact h'
  | cons x xs => cases h with
    | cons _ _ _ c d h1 h2 => rw [List.append_assoc]; exact .cons e x _ c _ h1 (RepL.append h2 h')
termination_by xs.length
theorem RepL.take {w : World} {G : BS} {e : Ty} : ∀ {xs : List (Den e)} {cs : List Value} (h : RepL w G e xs cs) (i : Nat), RepL w G e (xs.take i) (cs.take (i * sz e))
  | _, _, .nil _, i => by simp; exact .nil e
  | _, _, .cons _ x xs cs ds h1 h2, 0 => by simp; exact .nil e
  | _, _, .cons _ x xs cs ds h1 h2, i + 1 => by
    have ih := RepL.take h2 i
    have hl := h1.len
    rw [show (i + 1) * sz e = cs.length + i * sz e by rw [hl, Nat.add_mul]; omega, take_past]
    exact .cons e x _ cs _ h1 ih
theorem RepL.drop {w : World} {G : BS} {e : Ty} : ∀ {xs : List (Den e)} {cs : List Value} (h : RepL w G e xs cs) (i : Nat), RepL w G e (xs.drop i) (cs.drop (i * sz e))
  | _, _, .nil _, i => by simp; exact .nil e
  | _, _, .cons _ x xs cs ds h1 h2, 0 => by simpa using .cons e x xs cs ds h1 h2
  | _, _, .cons _ x xs cs ds h1 h2, i + 1 => by
    have ih := RepL.drop h2 i
    have hl := h1.len
    rw [show (i + 1) * sz e = cs.length + i * sz e by rw [hl, Nat.add_mul]; omega, drop_past]
    simpa using ih
/-- One place written anew. -/
theorem RepL.set {w : World} {G : BS} {e : Ty} : ∀ {xs : List (Den e)} {cs : List Value} (h : RepL w G e xs cs) (i : Nat) (hi : i < xs.length) {y : Den e} {ds : List Value} (hy : RepC w G e y ds), RepL w G e (xs.set i y) (cs.take (i * sz e) ++ (ds ++ cs.drop ((i + 1) * sz e)))
  | _, _, .nil _, i, hi, _, _, _ => by simp at hi
  | _, _, .cons _ x xs cs ds h1 h2, 0, _, y, es, hy => by
    have hl := h1.len
    simp [← hl]
    exact .cons e y xs es ds hy h2
  | _, _, .cons _ x xs cs ds h1 h2, i + 1, hi, y, es, hy => by
    have ih := RepL.set h2 i (by simpa using hi) hy
    have hl := h1.len
    rw [show (i + 1) * sz e = cs.length + i * sz e by rw [hl, Nat.add_mul]; omega, show (i + 1 + 1) * sz e = cs.length + (i + 1) * sz e by rw [hl, Nat.add_mul (i + 1)]; omega, take_past, drop_past, List.append_assoc]
    exact .cons e x _ cs _ h1 ih

/-! ### Values in slots -/
/-- A value that means this. -/
def VRep (w : World) (G : BS) (t : Ty) (x : Den t) (v : Value) : Prop := ∃ cs, RepC w G t x cs ∧ v = if isAggT t then .agg cs.toArray else cs.getD 0 undef
theorem VRep.move {w w' : World} {G G' : BS} {t : Ty} {x : Den t} {v : Value} (h : VRep w G t x v) (hg : ∀ b, G b → G' b) (hb : ∀ b, G b → w'.heap[b]? = w.heap[b]?) : VRep w' G' t x v :=
  let ⟨cs, h1, h2⟩ := h; ⟨cs, h1.move hg hb, h2⟩
theorem VRep.anyw {w : World} {G : BS} {t : Ty} {x : Den t} {v : Value} (h : VRep w G t x v) (hf : flat t = true) (w' : World) (G' : BS) : VRep w' G' t x v :=
  let ⟨cs, h1, h2⟩ := h; ⟨cs, h1.anyw hf w' G', h2⟩

/-! ### Rows of rows of their own -/
mutual
inductive SepC (w : World) : BS → (t : Ty) → Den t → List Value → Prop
  | flat (F : BS) (t : Ty) (x : Den t) (cs : List Value) (hf : flat t = true) (h : RepC w (fun _ => False) t x cs) : SepC w F t x cs
  | nil (F : BS) (e : Ty) : SepC w F (.sl e) ([] : List (Den e)) [.slice none 0 0]
  | sl (F G : BS) (e : Ty) (xs : List (Den e)) (b o cap : Nat) (cs : List Value) (hcap : xs.length ≤ cap) (hF : F b) (hG : ∀ c, G c → F c ∧ c ≠ b) (hl : SepL w G e xs cs) (hc : w.rangeAt b o cs) (ht : w.there b o (cap * sz e)) :
      SepC w F (.sl e) xs [.slice (some ⟨b, o, none⟩) xs.length cap]
  | pair (F G H : BS) (t u : Ty) (x : Den t) (y : Den u) (cs ds : List Value) (hg : ∀ c, G c → F c) (hh : ∀ c, H c → F c) (hd : ∀ c, G c → ¬ H c) (h1 : SepC w G t x cs) (h2 : SepC w H u y ds) : SepC w F (.pair t u) (x, y) (cs ++ ds)
  | ap (F : BS) (i : Nat) (x : NT i) (cs : List Value) (h : SepC w F (unf i) (un i x) cs) : SepC w F (.ap i) x cs
inductive SepL (w : World) : BS → (e : Ty) → List (Den e) → List Value → Prop
  | nil (F : BS) (e : Ty) : SepL w F e [] []
  | cons (F G H : BS) (e : Ty) (x : Den e) (xs : List (Den e)) (cs ds : List Value) (hg : ∀ c, G c → F c) (hh : ∀ c, H c → F c) (hd : ∀ c, G c → ¬ H c) (h1 : SepC w G e x cs) (h2 : SepL w H e xs ds) : SepL w F e (x :: xs) (cs ++ ds)
end
theorem there_move {w w' : World} {b o n : Nat} (h : w.there b o n) (hb : w'.heap[b]? = w.heap[b]?) : w'.there b o n := fun j hj => by
  rw [World.cell?_of_block (a := ⟨b, o + j, none⟩) hb, World.frozen?_of_block (a := ⟨b, o + j, none⟩) hb]; exact h j hj
theorem sep_move {w w' : World} : (∀ F t x cs, SepC w F t x cs → ∀ F' : BS, (∀ b, F b → F' b) → (∀ b, F b → w'.heap[b]? = w.heap[b]?) → SepC w' F' t x cs) ∧
    (∀ F e xs cs, SepL w F e xs cs → ∀ F' : BS, (∀ b, F b → F' b) → (∀ b, F b → w'.heap[b]? = w.heap[b]?) → SepL w' F' e xs cs) := by
  have c1 : ∀ (F : BS) (t : Ty) (x : Den t) (cs : List Value) (hf : flat t = true) (h : RepC w (fun _ => False) t x cs), ∀ F' : BS, (∀ b, F b → F' b) → (∀ b, F b → w'.heap[b]? = w.heap[b]?) → SepC w' F' t x cs :=
    fun F t x cs hf h F' _ _ => .flat F' t x cs hf (h.anyw hf _ _)
  constructor
  · intro F t x cs h
    refine SepC.rec (motive_1 := fun F t x cs _ => ∀ F' : BS, (∀ b, F b → F' b) → (∀ b, F b → w'.heap[b]? = w.heap[b]?) → SepC w' F' t x cs) (motive_2 := fun F e xs cs _ => ∀ F' : BS, (∀ b, F b → F' b) → (∀ b, F b → w'.heap[b]? = w.heap[b]?) → SepL w' F' e xs cs)
      c1 (fun F e F' _ _ => .nil F' e) ?_ ?_ ?_ (fun F e F' _ _ => .nil F' e) ?_ h
    · intro F G e xs b o cap cs hcap hF hG _ hc ht ih F' h1 h2
      exact .sl F' G e xs b o cap cs hcap (h1 b hF) (fun c hc => ⟨h1 c (hG c hc).1, (hG c hc).2⟩) (ih G (fun _ h => h) (fun c hc => h2 c (hG c hc).1)) (fun j v hv => (World.cell?_of_block (a := ⟨b, o + j, none⟩) (h2 b hF)).trans (hc j v hv)) (there_move ht (h2 b hF))
    · intro F G H t u x y cs ds hg hh hd _ _ i1 i2 F' h1 h2
      exact .pair F' G H t u x y cs ds (fun c hc => h1 c (hg c hc)) (fun c hc => h1 c (hh c hc)) hd (i1 G (fun _ h => h) (fun c hc => h2 c (hg c hc))) (i2 H (fun _ h => h) (fun c hc => h2 c (hh c hc)))
    · intro F i x cs _ ih F' h1 h2; exact .ap F' i x cs (ih F' h1 h2)
    · intro F G H e x xs cs ds hg hh hd _ _ i1 i2 F' h1 h2
      exact .cons F' G H e x xs cs ds (fun c hc => h1 c (hg c hc)) (fun c hc => h1 c (hh c hc)) hd (i1 G (fun _ h => h) (fun c hc => h2 c (hg c hc))) (i2 H (fun _ h => h) (fun c hc => h2 c (hh c hc)))
  · intro F t x cs h
    refine SepL.rec (motive_1 := fun F t x cs _ => ∀ F' : BS, (∀ b, F b → F' b) → (∀ b, F b → w'.heap[b]? = w.heap[b]?) → SepC w' F' t x cs) (motive_2 := fun F e xs cs _ => ∀ F' : BS, (∀ b, F b → F' b) → (∀ b, F b → w'.heap[b]? = w.heap[b]?) → SepL w' F' e xs cs)
      c1 (fun F e F' _ _ => .nil F' e) ?_ ?_ ?_ (fun F e F' _ _ => .nil F' e) ?_ h
    · intro F G e xs b o cap cs hcap hF hG _ hc ht ih F' h1 h2
      exact .sl F' G e xs b o cap cs hcap (h1 b hF) (fun c hc => ⟨h1 c (hG c hc).1, (hG c hc).2⟩) (ih G (fun _ h => h) (fun c hc => h2 c (hG c hc).1)) (fun j v hv => (World.cell?_of_block (a := ⟨b, o + j, none⟩) (h2 b hF)).trans (hc j v hv)) (there_move ht (h2 b hF))
    · intro F G H t u x y cs ds hg hh hd _ _ i1 i2 F' h1 h2
      exact .pair F' G H t u x y cs ds (fun c hc => h1 c (hg c hc)) (fun c hc => h1 c (hh c hc)) hd (i1 G (fun _ h => h) (fun c hc => h2 c (hg c hc))) (i2 H (fun _ h => h) (fun c hc => h2 c (hh c hc)))
    · intro F i x cs _ ih F' h1 h2; exact .ap F' i x cs (ih F' h1 h2)
    · intro F G H e x xs cs ds hg hh hd _ _ i1 i2 F' h1 h2
      exact .cons F' G H e x xs cs ds (fun c hc => h1 c (hg c hc)) (fun c hc => h1 c (hh c hc)) hd (i1 G (fun _ h => h) (fun c hc => h2 c (hg c hc))) (i2 H (fun _ h => h) (fun c hc => h2 c (hh c hc)))
theorem SepC.move {w w' : World} {F F' : BS} {t : Ty} {x : Den t} {cs : List Value} (h : SepC w F t x cs) (hf : ∀ b, F b → F' b) (hb : ∀ b, F b → w'.heap[b]? = w.heap[b]?) : SepC w' F' t x cs := sep_move.1 _ _ _ _ h F' hf hb
theorem SepL.move {w w' : World} {F F' : BS} {e : Ty} {xs : List (Den e)} {cs : List Value} (h : SepL w F e xs cs) (hf : ∀ b, F b → F' b) (hb : ∀ b, F b → w'.heap[b]? = w.heap[b]?) : SepL w' F' e xs cs := sep_move.2 _ _ _ _ h F' hf hb
theorem sep_rep {w : World} : (∀ F t x cs, SepC w F t x cs → RepC w F t x cs) ∧ (∀ F e xs cs, SepL w F e xs cs → RepL w F e xs cs) := by
  constructor
  · intro F t x cs h
    refine SepC.rec (motive_1 := fun F t x cs _ => RepC w F t x cs) (motive_2 := fun F e xs cs _ => RepL w F e xs cs) (fun F t x cs hf h => h.anyw hf _ _) (fun F e => .nil e) ?_ ?_ (fun F i x cs _ ih => .ap i x cs ih) (fun F e => .nil e) ?_ h
    · intro F G e xs b o cap cs hcap hF hG _ hc ht ih
      exact .sl e xs b o cap cs hcap hF (ih.move (fun c hc => (hG c hc).1) (fun _ _ => rfl)) hc
    · intro F G H t u x y cs ds hg hh hd _ _ i1 i2
      exact .pair t u x y cs ds (i1.move hg (fun _ _ => rfl)) (i2.move hh (fun _ _ => rfl))
    · intro F G H e x xs cs ds hg hh hd _ _ i1 i2
      exact .cons e x xs cs ds (i1.move hg (fun _ _ => rfl)) (i2.move hh (fun _ _ => rfl))
  · intro F t x cs h
    refine SepL.rec (motive_1 := fun F t x cs _ => RepC w F t x cs) (motive_2 := fun F e xs cs _ => RepL w F e xs cs) (fun F t x cs hf h => h.anyw hf _ _) (fun F e => .nil e) ?_ ?_ (fun F i x cs _ ih => .ap i x cs ih) (fun F e => .nil e) ?_ h
    · intro F G e xs b o cap cs hcap hF hG _ hc ht ih
      exact .sl e xs b o cap cs hcap hF (ih.move (fun c hc => (hG c hc).1) (fun _ _ => rfl)) hc
    · intro F G H t u x y cs ds hg hh hd _ _ i1 i2
      exact .pair t u x y cs ds (i1.move hg (fun _ _ => rfl)) (i2.move hh (fun _ _ => rfl))
    · intro F G H e x xs cs ds hg hh hd _ _ i1 i2
      exact .cons e x xs cs ds (i1.move hg (fun _ _ => rfl)) (i2.move hh (fun _ _ => rfl))
theorem SepC.rep {w : World} {F : BS} {t : Ty} {x : Den t} {cs : List Value} (h : SepC w F t x cs) : RepC w F t x cs := sep_rep.1 _ _ _ _ h
theorem SepL.rep {w : World} {F : BS} {e : Ty} {xs : List (Den e)} {cs : List Value} (h : SepL w F e xs cs) : RepL w F e xs cs := sep_rep.2 _ _ _ _ h
theorem SepL.append {w : World} {F G H : BS} {e : Ty} {xs ys : List (Den e)} {cs ds : List Value} (h : SepL w G e xs cs) (h' : SepL w H e ys ds) (hg : ∀ c, G c → F c) (hh : ∀ c, H c → F c) (hd : ∀ c, G c → ¬ H c) : SepL w F e (xs ++ ys) (cs ++ ds) := by
  cases xs with
  | nil => cases h; exact h'.move hh (fun _ _ => rfl)
  | cons x xs => cases h with
    | cons _ G1 G2 _ _ _ c d g1 g2 g3 h1 h2 =>
      rw [List.append_assoc]
      exact .cons F G1 (fun c => G2 c ∨ H c) e x _ c _ (fun c hc => hg c (g1 c hc)) (fun c hc => hc.elim (fun q => hg c (g2 c q)) (hh c)) (fun c hc q => q.elim (g3 c hc) (hd c (g1 c hc))) h1
        (SepL.append h2 h' (fun _ h => .inl h) (fun _ h => .inr h) (fun c hc => hd c (g2 c hc)))
termination_by xs.length
/-- One place written anew. -/
theorem SepL.set {w : World} {F G H : BS} {e : Ty} {xs : List (Den e)} {cs : List Value} (h : SepL w G e xs cs) (i : Nat) (hi : i < xs.length) {y : Den e} {ds : List Value} (hy : SepC w H e y ds) (hg : ∀ c, G c → F c) (hh : ∀ c, H c → F c) (hd : ∀ c, G c → ¬ H c) :
    SepL w F e (xs.set i y) (cs.take (i * sz e) ++ (ds ++ cs.drop ((i + 1) * sz e))) := by
  cases xs with
  | nil => simp at hi
  | cons x xs => cases h with
    | cons _ G1 G2 _ _ _ c d g1 g2 g3 h1 h2 =>
      have hl := h1.rep.len
      cases i with
      | zero =>
        simp [← hl]
        exact .cons F H G2 e y xs ds d hh (fun c hc => hg c (g2 c hc)) (fun c hc q => hd c (g2 c q) hc) hy h2
      | succ i =>
        rw [show (i + 1) * sz e = c.length + i * sz e by rw [hl, Nat.add_mul]; omega, show (i + 1 + 1) * sz e = c.length + (i + 1) * sz e by rw [hl, Nat.add_mul (i + 1)]; omega, take_past, drop_past, List.append_assoc]
        exact .cons F G1 (fun c => G2 c ∨ H c) e x _ c _ (fun c hc => hg c (g1 c hc)) (fun c hc => hc.elim (fun q => hg c (g2 c q)) (hh c)) (fun c hc q => q.elim (g3 c hc) (hd c (g1 c hc))) h1
          (SepL.set h2 i (by simpa using hi) hy (fun _ h => .inl h) (fun _ h => .inr h) (fun c hc => hd c (g2 c hc)))
termination_by xs.length
theorem SepL.flat {w : World} {G F : BS} {e : Ty} (hf : flat e = true) : ∀ {xs : List (Den e)} {cs : List Value}, RepL w G e xs cs → SepL w F e xs cs
  | _, _, .nil _ => .nil F e
  | _, _, .cons _ x xs cs ds h1 h2 => .cons F (fun _ => False) (fun _ => False) e x xs cs ds (fun _ h => h.elim) (fun _ h => h.elim) (fun _ h => h.elim) (.flat _ e x cs hf (h1.anyw hf _ _)) (SepL.flat hf h2)
/-- A row of rows of its own. -/
def DpR (w : World) (e : Ty) (x : List (Den e)) (v : Value) (fp : BS) : Prop :=
  (v = .slice none 0 0 ∧ x = []) ∨ ∃ (G : BS) (b o cap : Nat) (cs : List Value), v = .slice (some ⟨b, o, none⟩) x.length cap ∧ x.length ≤ cap ∧ fp b ∧ (∀ c, G c → fp c ∧ c ≠ b) ∧ SepL w G e x cs ∧ w.rangeAt b o cs ∧ w.there b o (cap * sz e)
theorem DpR.sep {w : World} {e : Ty} {x : List (Den e)} {v : Value} {fp : BS} (h : DpR w e x v fp) : SepC w fp (.sl e) x [v] := by
  rcases h with ⟨rfl, rfl⟩ | ⟨G, b, o, cap, cs, rfl, h2, h3, h4, h5, h6, h7⟩
  · exact .nil fp e
  · exact .sl fp G e x b o cap cs h2 h3 h4 h5 h6 h7
theorem DpR.of_sep {w : World} {e : Ty} {x : List (Den e)} {cs : List Value} {fp : BS} (h : SepC w fp (.sl e) x cs) : ∃ v, cs = [v] ∧ DpR w e x v fp := by
  cases h with
  | flat _ _ _ _ hf _ => simp [Eng.flat] at hf
  | nil => exact ⟨_, rfl, .inl ⟨rfl, rfl⟩⟩
  | sl _ G _ _ b o cap cs h2 h3 h4 h5 h6 h7 => exact ⟨_, rfl, .inr ⟨G, b, o, cap, cs, rfl, h2, h3, h4, h5, h6, h7⟩⟩
theorem DpR.move {w w' : World} {e : Ty} {x : List (Den e)} {v : Value} {fp fp' : BS} (h : DpR w e x v fp) (hb : ∀ b, fp b → w'.heap[b]? = w.heap[b]?) (hf : ∀ b, fp b → fp' b) : DpR w' e x v fp' := by
  obtain ⟨u, h1, h2⟩ := DpR.of_sep (h.sep.move hf hb)
  simp at h1
  subst h1
  exact h2
theorem DpR.rep {w : World} {e : Ty} {x : List (Den e)} {v : Value} {fp : BS} (h : DpR w e x v fp) : VRep w fp (.sl e) x v := ⟨[v], h.sep.rep, by simp [isAggT]⟩
theorem DpR.len {w : World} {e : Ty} {x : List (Den e)} {v : Value} {fp : BS} (h : DpR w e x v fp) : ∃ a cap, v = .slice a x.length cap ∧ x.length ≤ cap := by
  rcases h with ⟨rfl, rfl⟩ | ⟨G, b, o, cap, cs, rfl, h2, _⟩
  · exact ⟨_, 0, rfl, Nat.le_refl _⟩
  · exact ⟨_, cap, rfl, h2⟩
end Go.Proofs.YtkgpkalclblhbaaGreatDoor.Eng
