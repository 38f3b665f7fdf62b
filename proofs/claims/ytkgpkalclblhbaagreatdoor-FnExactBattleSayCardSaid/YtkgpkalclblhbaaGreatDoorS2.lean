/-
  The interpreter's states and the machine's: the relation, and the steps that keep it.
-/
import Derived.Test.YtkgpkalclblhbaaGreatDoorS1
namespace Go.Proofs.YtkgpkalclblhbaaGreatDoor.Eng
open Go Go.RowKit
set_option linter.unusedVariables false
set_option linter.unusedSimpArgs false

def Gof (Gs Gb : BS) (tn : Bool) : BS := fun b => Gs b ∨ (tn = true ∧ Gb b)
/-- A row that one holder may write. -/
def OwnRow (w : World) (G : BS) (e : Ty) (x : List (Den e)) (v : Value) (fp : BS) : Prop :=
  (v = .slice none 0 0 ∧ x = []) ∨ ∃ b o cap cs, v = .slice (some ⟨b, o, none⟩) x.length cap ∧ x.length ≤ cap ∧ fp b ∧ RepL w G e x cs ∧ w.rangeAt b o cs ∧ w.there b o (cap * sz e)
/-- A variable with an address. -/
def BoxR (w : World) (G : BS) (t : Ty) (x : Den t) (v : Value) (fp : BS) : Prop :=
  ∃ b o cs, v = .pointer (some ⟨b, o, none⟩) ∧ fp b ∧ RepC w G t x cs ∧ w.rangeAt b o cs ∧ w.there b o (sz t)
/-- Where a path leads in a record's cells. -/
def fieldOff : Ty → Nat → Nat
  | .pair _ _, 0 => 0
  | .pair a b, n + 1 => sz a + fieldOff b n
  | _, _ => 0
def pathOff : Ty → List Nat → Nat
  | _, [] => 0
  | t, f :: fs => fieldOff (under t) f + pathOff ((fieldT (under t) f).getD .unit) fs
def obShape : Ob → Option (Bool × Ty)
  | .sl _ _ e _ => some (false, e)
  | .pubd _ _ e _ => some (false, e)
  | .box _ t _ => some (true, t)
  | .io _ e _ => some (false, e)
  | .bx t _ => some (true, t)
  | .dp e _ => some (false, e)
  | .sd _ => some (false, .sl (.int .i64))
  | _ => none
/-- A map's entries: what stands at each key. -/
def cell1 : (t : Ty) → Den t → Value
  | .int k, n => .int k n
  | .bool, b => .bool b
  | _, _ => undef
def keyC (k : Int × Int × Int) : Value := .agg #[.int .i64 k.1, .int .i64 k.2.1, .int .i64 k.2.2]
def MpR (w : World) (t : Ty) (x : List ((Int × Int × Int) × Den t)) (v : Value) (fp : BS) : Prop :=
  ∃ (b : Nat) (es : Array MapEntry) (c : Nat), v = .map (some b) ∧ fp b ∧ w.heap[b]? = some (.map es c) ∧ es.toList.map (fun e => (e.key, e.val)) = x.map fun p => (keyC p.1, cell1 t p.2)
theorem MpR.move {w w' : World} {t : Ty} {x : List ((Int × Int × Int) × Den t)} {v : Value} {fp fp' : BS} (h : MpR w t x v fp) (hb : ∀ b, fp b → w'.heap[b]? = w.heap[b]?) (hf : ∀ b, fp b → fp' b) : MpR w' t x v fp' :=
  let ⟨b, es, c, h1, h2, h3, h4⟩ := h; ⟨b, es, c, h1, hf b h2, (hb b h2).trans h3, h4⟩
def isNone : Ob → Bool
  | .none => true
  | _ => false

/-- Where heads of rows are kept that nobody writes any more: each block knows one. -/
def regM : Nat := 1000000000
def Rg (hd : Nat → Value) (v : Value) : Prop := ∃ b o n c, v = .slice (some ⟨b, o, none⟩) n c ∧ hd (regM + b) = v
def RgN (hd : Nat → Value) (v : Value) : Prop := v = .slice none 0 0 ∨ Rg hd v
theorem RgN.move {hd hd' : Nat → Value} {v : Value} (h : RgN hd v) (hR : ∀ v, Rg hd v → Rg hd' v) : RgN hd' v := h.imp id (hR v)
def RegW (N : Nat) (Mv Gs : BS) (hd : Nat → Value) (w : World) : Prop :=
  ∀ v, Rg hd v → ∃ b o n c, v = .slice (some ⟨b, o, none⟩) n c ∧ Gs b ∧ (N ≤ b ∨ Mv b) ∧ w.there b o (c * sz (.int .i64))
theorem RegW.move {N : Nat} {Mv Gs Gs' : BS} {hd hd' : Nat → Value} {w w' : World} (h : RegW N Mv Gs hd w) (hg : ∀ b, Gs b → Gs' b) (hb : ∀ b, Gs b → w'.heap[b]? = w.heap[b]?) (hR : ∀ v, Rg hd' v → Rg hd v) : RegW N Mv Gs' hd' w' := fun v hv => by
  obtain ⟨b, o, n, c, h1, h2, h3, h4⟩ := h v (hR v hv)
  exact ⟨b, o, n, c, h1, hg b h2, h3, there_move h4 (hb b h2)⟩
/-- A row of one's own whose rows nobody writes any more, each of them made here and told from the others. -/
def SdR (w : World) (G : BS) (hd : Nat → Value) (x : List (List Int)) (v : Value) (fp : BS) : Prop :=
  (v = .slice none 0 0 ∧ x = []) ∨ ∃ b o cap cs, v = .slice (some ⟨b, o, none⟩) x.length cap ∧ x.length ≤ cap ∧ fp b ∧ RepL w G (.sl (.int .i64)) x cs ∧ (∀ u ∈ cs, RgN hd u) ∧ cs.Pairwise (fun u u' => u = u' → u = .slice none 0 0) ∧ w.rangeAt b o cs ∧ w.there b o (cap * sz (.sl (.int .i64)))
theorem SdR.move {w w' : World} {G G' : BS} {hd hd' : Nat → Value} {x : List (List Int)} {v : Value} {fp fp' : BS} (h : SdR w G hd x v fp) (hg : ∀ b, G b → G' b) (hb : ∀ b, G b ∨ fp b → w'.heap[b]? = w.heap[b]?) (hf : ∀ b, fp b → fp' b) (hR : ∀ v, Rg hd v → Rg hd' v) : SdR w' G' hd' x v fp' := by
  rcases h with h | ⟨b, o, cap, cs, h1, h2, h3, h4, h5, h6, h7, h8⟩
  · exact .inl h
  · have hh := hb b (.inr h3)
    exact .inr ⟨b, o, cap, cs, h1, h2, hf b h3, h4.move hg (fun b h => hb b (.inl h)), fun u hu => (h5 u hu).move hR, h6, fun j u hu => (World.cell?_of_block (a := ⟨b, o + j, none⟩) hh).trans (h7 j u hu), there_move h8 hh⟩
mutual
def SlotR (w : World) (Gs Gb : BS) (hd : Nat → Value) (ob : List Ob) : Slot → Value → Prop
  | .dead, _ => True
  | .und, v => v = undef
  | .lit b, v => v = .bool b
  | .val tn t x, v => VRep w (Gof Gs Gb tn) t x v
  | .nil _, v => v = .slice none 0 0
  | .nnv tn e x, v => VRep w (Gof Gs Gb tn) (.sl e) x v ∧ ∃ a n c, v = .slice (some a) n c
  | .clip tn e x, v => VRep w (Gof Gs Gb tn) (.sl e) x v ∧ ∃ a, v = .slice a x.length x.length
  | .ref k, v => isNone (ob.getD k .none) = false ∧ v = hd k
  | .vw k lo hi, v => isNone (ob.getD k .none) = false ∧ ∀ e, obShape (ob.getD k .none) = some (false, e) → ∃ a n cap, hd k = .slice a n cap ∧ lo ≤ hi ∧ hi ≤ n ∧ v = .slice (if cap = lo then a else a.map (·.add (lo * sz e))) (hi - lo) (cap - lo)
  | .ptr k path, v => isNone (ob.getD k .none) = false ∧ ∀ t, obShape (ob.getD k .none) = some (true, t) → ∃ b o, hd k = .pointer (some ⟨b, o, none⟩) ∧ v = .pointer (some ⟨b, o + pathOff t path, none⟩)
  | .eptr k i path, v => isNone (ob.getD k .none) = false ∧ ∀ e, obShape (ob.getD k .none) = some (false, e) → ∃ b o n cap, hd k = .slice (some ⟨b, o, none⟩) n cap ∧ i < n ∧ v = .pointer (some ⟨b, o + i * sz e + pathOff e path, none⟩)
  | .nw x, v => VRep w (Gof Gs Gb false) (.sl (.int .i64)) x v ∧ RgN hd v
  | .sptr tn t x, v => ∃ b o cs, v = .pointer (some ⟨b, o, none⟩) ∧ RepC w (Gof Gs Gb tn) t x cs ∧ w.rangeAt b o cs ∧ Gof Gs Gb tn b
  | .tup l, v => ∃ vs : List Value, v = .tuple vs.toArray ∧ SlotsR w Gs Gb hd ob l vs
  | .agg _ l, v => ∃ vs : List Value, v = .agg vs.toArray ∧ (∀ u ∈ vs, u.oneCell' = true) ∧ SlotsR w Gs Gb hd ob l vs
def SlotsR (w : World) (Gs Gb : BS) (hd : Nat → Value) (ob : List Ob) : List Slot → List Value → Prop
  | [], vs => vs = []
  | z :: zs, vs => ∃ v r, vs = v :: r ∧ SlotR w Gs Gb hd ob z v ∧ SlotsR w Gs Gb hd ob zs r
end

/-- A variable of a record's type, its parts told by slots. -/
def BxR (w : World) (Gs Gb : BS) (hd : Nat → Value) (ob : List Ob) (t : Ty) (l : List Slot) (v : Value) (fp : BS) : Prop :=
  ∃ b o, ∃ vs : List Value, v = .pointer (some ⟨b, o, none⟩) ∧ fp b ∧ (∀ u ∈ vs, u.oneCell' = true) ∧ SlotsR w Gs Gb hd ob l vs ∧ w.rangeAt b o vs ∧ vs.length = sz t ∧ w.there b o (sz t)
def ObR (w : World) (Gs Gb : BS) (hd : Nat → Value) (obs : List Ob) (v : Value) (fp : BS) : Ob → Prop
  | .none => True
  | .gone => True
  | .sl tn nx e x => OwnRow w (Gof Gs Gb tn) e x v fp ∧ (nx = true → x = [] → v = .slice none 0 0)
  | .pubd tn nx e x => VRep w (Gof Gs Gb tn) (.sl e) x v ∧ (nx = true → x = [] → v = .slice none 0 0)
  | .box tn t x => BoxR w (Gof Gs Gb tn) t x v fp
  | .io tn e x => OwnRow w (Gof Gs Gb tn) e x v fp
  | .bx t l => BxR w Gs Gb hd obs t l v fp
  | .dp e x => DpR w e x v fp
  | .mp t x => MpR w t x v fp
  | .sd x => SdR w (Gof Gs Gb false) hd x v fp

/-- How a world may have changed since it was 'w0', with N blocks: of these only those of 'Mv' may have turned. -/
structure Ev (N : Nat) (Mv : BS) (w0 w : World) : Prop where
  os : w.os = w0.os
  tape : w.tape = w0.tape
  output : w.output = w0.output
  size : w0.heap.size ≤ w.heap.size
  block : ∀ b, b < N → ¬ Mv b → w.heap[b]? = w0.heap[b]?

def upd {α : Type} (f : Nat → α) (k : Nat) (v : α) : Nat → α := fun j => if j = k then v else f j
@[simp] theorem upd_same {α : Type} (f : Nat → α) (k : Nat) (v : α) : upd f k v k = v := by simp [upd]
theorem upd_ne {α : Type} (f : Nat → α) {k j : Nat} (v : α) (h : j ≠ k) : upd f k v j = f j := by simp [upd, h]

/-- The blocks that were handed over; and keys that stay what they are. -/
structure Mvp where
  bs : BS
  pin : Nat → Value → BS → Prop
  g0 : BS
  q : World → Prop
instance : CoeFun Mvp (fun _ => Nat → Prop) := ⟨Mvp.bs⟩
def obBox : Ob → Bool
  | .box _ _ _ => true
  | .io _ _ _ => true
  | _ => false
structure Inv (N : Nat) (w0 : World) (Mv : Mvp) (Gb Gs : BS) (hd : Nat → Value) (fp : Nat → BS) (s : St) (a : Act) (w : World) : Prop where
  ev : Ev N Mv.bs w0 w
  le : N ≤ w0.heap.size
  len : s.sl.length = a.tmps.size
  slots : ∀ i, SlotR w Gs Gb hd s.ob (s.sl.getD i .dead) (a.tmps.getD i undef)
  obs : ∀ k, ObR w Gs Gb hd s.ob (hd k) (fp k) (s.ob.getD k .none)
  own : ∀ k b, fp k b → b < w.heap.size ∧ (N ≤ b ∨ Mv b) ∧ ¬ Gs b ∧ ¬ Gb b
  disj : ∀ k j b, fp k b → fp j b → k = j
  gs : ∀ b, Gs b → b < w.heap.size ∧ (N ≤ b ∨ Mv b ∨ Mv.g0 b)
  gb : ∀ b, Gb b → b < N ∧ ¬ Mv b
  pin : ∀ k v F, Mv.pin k v F → obBox (s.ob.getD k .none) = true ∧ hd k = v ∧ ∀ b, fp k b ↔ F b
  fix : ∀ w' : World, (∀ b, b < N → ¬ Mv b → w'.heap[b]? = w0.heap[b]?) → Mv.q w'
  small : s.ob.length ≤ regM
  reg : RegW N Mv.bs Gs hd w

/-- A block that nobody holds. -/
structure Free (N : Nat) (Mv : Mvp) (Gb Gs : BS) (fp : Nat → BS) (w : World) (b : Nat) : Prop where
  lt : b < w.heap.size
  mine : N ≤ b ∨ Mv b
  gs : ¬ Gs b
  gb : ¬ Gb b
  fp : ∀ k, ¬ fp k b

theorem VRep.nilIff {w : World} {G : BS} {e : Ty} {x : List (Den e)} {v : Value} (h : VRep w G (.sl e) x v) :
    (x = [] ∧ ∃ oa, v = .slice oa 0 0) ∨ ∃ b o cap cs, x.length ≤ cap ∧ G b ∧ RepL w G e x cs ∧ w.rangeAt b o cs ∧ v = .slice (some ⟨b, o, none⟩) x.length cap := by
  obtain ⟨cs, h1, h2⟩ := h
  simp only [isAggT] at h2
  rcases h1.of_sl with ⟨rfl, oa, rfl⟩ | ⟨b, o, cap, ds, a1, a2, a3, a4, rfl⟩
  · left; simp at h2; exact ⟨rfl, oa, h2⟩
  · right; simp at h2; exact ⟨b, o, cap, ds, a1, a2, a3, a4, h2⟩
theorem VRep.mkNil {w : World} {G : BS} (e : Ty) {oa : Option Addr} : VRep w G (.sl e) ([] : List (Den e)) (.slice oa 0 0) := ⟨_, .nil e (oa := oa), by simp [isAggT]⟩
theorem VRep.mkSl {w : World} {G : BS} {e : Ty} {x : List (Den e)} {b o cap : Nat} {cs : List Value} (h1 : x.length ≤ cap) (h2 : G b) (h3 : RepL w G e x cs) (h4 : w.rangeAt b o cs) : VRep w G (.sl e) x (.slice (some ⟨b, o, none⟩) x.length cap) :=
  ⟨_, .sl e x b o cap cs h1 h2 h3 h4, by simp [isAggT]⟩

theorem Gof_mono {Gs Gs' Gb : BS} (h : ∀ b, Gs b → Gs' b) {tn tn' : Bool} (ht : tn = true → tn' = true) : ∀ b, Gof Gs Gb tn b → Gof Gs' Gb tn' b := fun b hb => hb.imp (h b) (fun ⟨x, y⟩ => ⟨ht x, y⟩)

/-- Slots read as they did where what is shared is unchanged, and keys keep their heads and kinds. -/
theorem slot_move {w w' : World} {Gs Gs' Gb : BS} {hd hd' : Nat → Value} {ob ob' : List Ob} (hg : ∀ b, Gs b → Gs' b) (hb : ∀ b, Gs b ∨ Gb b → w'.heap[b]? = w.heap[b]?)
    (hk : ∀ k, isNone (ob.getD k .none) = false → isNone (ob'.getD k .none) = false ∧ hd' k = hd k ∧ (∀ r, obShape (ob'.getD k .none) = some r → obShape (ob.getD k .none) = some r)) (hR : ∀ v, Rg hd v → Rg hd' v) :
    (∀ z v, SlotR w Gs Gb hd ob z v → SlotR w' Gs' Gb hd' ob' z v) := by
  have hG : ∀ tn b, Gof Gs Gb tn b → w'.heap[b]? = w.heap[b]? := fun tn b h => hb b (h.imp id (·.2))
  have hM : ∀ tn b, Gof Gs Gb tn b → Gof Gs' Gb tn b := fun tn => Gof_mono hg id
  intro z
  refine Slot.rec (motive_1 := fun z => ∀ v, SlotR w Gs Gb hd ob z v → SlotR w' Gs' Gb hd' ob' z v) (motive_2 := fun l => ∀ vs, SlotsR w Gs Gb hd ob l vs → SlotsR w' Gs' Gb hd' ob' l vs) ?_ ?_ ?_ ?_ ?_ ?_ ?_ ?_ ?_ ?_ ?_ ?_ ?_ ?_ ?_ ?_ ?_ z
  · intro v _; simp only [SlotR]
  · intro v h; simpa only [SlotR] using h
  · intro b v h; simpa only [SlotR] using h
  · intro tn t x v h; simp only [SlotR] at h ⊢; exact h.move (hM tn) (hG tn)
  · intro e v h; simpa only [SlotR] using h
  · intro tn e x v h; simp only [SlotR] at h ⊢; exact ⟨h.1.move (hM tn) (hG tn), h.2⟩
  · intro tn e x v h; simp only [SlotR] at h ⊢; exact ⟨h.1.move (hM tn) (hG tn), h.2⟩
  · intro k v h; simp only [SlotR] at h ⊢; obtain ⟨a1, a2, a3⟩ := hk k h.1; exact ⟨a1, by rw [a2]; exact h.2⟩
  · intro k lo hi v h; simp only [SlotR] at h ⊢; obtain ⟨a1, a2, a3⟩ := hk k h.1; exact ⟨a1, fun e he => by rw [a2]; exact h.2 e (a3 _ he)⟩
  · intro k p v h; simp only [SlotR] at h ⊢; obtain ⟨a1, a2, a3⟩ := hk k h.1; exact ⟨a1, fun e he => by rw [a2]; exact h.2 e (a3 _ he)⟩
  · intro k i p v h; simp only [SlotR] at h ⊢; obtain ⟨a1, a2, a3⟩ := hk k h.1; exact ⟨a1, fun e he => by rw [a2]; exact h.2 e (a3 _ he)⟩
  · intro tn t x v h
    simp only [SlotR] at h ⊢
    obtain ⟨b, o, cs, h1, h2, h3, h4⟩ := h
    exact ⟨b, o, cs, h1, h2.move (hM tn) (hG tn), fun j u hu => (World.cell?_of_block (a := ⟨b, o + j, none⟩) (hG tn b h4)).trans (h3 j u hu), hM tn b h4⟩
  · intro l ih v h; simp only [SlotR] at h ⊢; obtain ⟨vs, h1, h2⟩ := h; exact ⟨vs, h1, ih vs h2⟩
  · intro t l ih v h; simp only [SlotR] at h ⊢; obtain ⟨vs, h1, h0, h2⟩ := h; exact ⟨vs, h1, h0, ih vs h2⟩
  · intro x v h; simp only [SlotR] at h ⊢; exact ⟨h.1.move (hM false) (hG false), h.2.move hR⟩
  · intro vs h; simpa only [SlotsR] using h
  · intro z zs h1 h2 vs h
    simp only [SlotsR] at h ⊢
    obtain ⟨v, r, a1, a2, a3⟩ := h
    exact ⟨v, r, a1, h1 v a2, h2 r a3⟩

theorem slots_move {w w' : World} {Gs Gs' Gb : BS} {hd hd' : Nat → Value} {ob ob' : List Ob} (hg : ∀ b, Gs b → Gs' b) (hb : ∀ b, Gs b ∨ Gb b → w'.heap[b]? = w.heap[b]?)
    (hk : ∀ k, isNone (ob.getD k .none) = false → isNone (ob'.getD k .none) = false ∧ hd' k = hd k ∧ (∀ r, obShape (ob'.getD k .none) = some r → obShape (ob.getD k .none) = some r)) (hR : ∀ v, Rg hd v → Rg hd' v) :
    ∀ (l : List Slot) (vs : List Value), SlotsR w Gs Gb hd ob l vs → SlotsR w' Gs' Gb hd' ob' l vs
  | [], vs, h => by simpa only [SlotsR] using h
  | z :: l, vs, h => by
    simp only [SlotsR] at h ⊢
    obtain ⟨v, r, h1, h2, h3⟩ := h
    exact ⟨v, r, h1, slot_move hg hb hk hR z v h2, slots_move hg hb hk hR l r h3⟩
theorem OwnRow.move {w w' : World} {G G' : BS} {e : Ty} {x : List (Den e)} {v : Value} {fp fp' : BS} (h : OwnRow w G e x v fp) (hg : ∀ b, G b → G' b) (hb : ∀ b, G b ∨ fp b → w'.heap[b]? = w.heap[b]?) (hf : ∀ b, fp b → fp' b) : OwnRow w' G' e x v fp' := by
  rcases h with h | ⟨b, o, cap, cs, h1, h2, h3, h4, h5, h6⟩
  · exact .inl h
  · have hh := hb b (.inr h3)
    exact .inr ⟨b, o, cap, cs, h1, h2, hf b h3, h4.move hg (fun b h => hb b (.inl h)), fun j u hu => (World.cell?_of_block (a := ⟨b, o + j, none⟩) hh).trans (h5 j u hu), fun j hj => by
      rw [World.cell?_of_block (a := ⟨b, o + j, none⟩) hh, World.frozen?_of_block (a := ⟨b, o + j, none⟩) hh]; exact h6 j hj⟩
theorem BoxR.move {w w' : World} {G G' : BS} {t : Ty} {x : Den t} {v : Value} {fp fp' : BS} (h : BoxR w G t x v fp) (hg : ∀ b, G b → G' b) (hb : ∀ b, G b ∨ fp b → w'.heap[b]? = w.heap[b]?) (hf : ∀ b, fp b → fp' b) : BoxR w' G' t x v fp' := by
  obtain ⟨b, o, cs, h1, h3, h4, h5, h6⟩ := h
  have hh := hb b (.inr h3)
  exact ⟨b, o, cs, h1, hf b h3, h4.move hg (fun b h => hb b (.inl h)), fun j u hu => (World.cell?_of_block (a := ⟨b, o + j, none⟩) hh).trans (h5 j u hu), fun j hj => by
      rw [World.cell?_of_block (a := ⟨b, o + j, none⟩) hh, World.frozen?_of_block (a := ⟨b, o + j, none⟩) hh]; exact h6 j hj⟩
theorem BxR.move {w w' : World} {Gs Gs' Gb : BS} {hd hd' : Nat → Value} {obs obs' : List Ob} {t : Ty} {l : List Slot} {v : Value} {fp fp' : BS} (h : BxR w Gs Gb hd obs t l v fp) (hg : ∀ b, Gs b → Gs' b) (hb : ∀ b, (Gs b ∨ Gb b) ∨ fp b → w'.heap[b]? = w.heap[b]?) (hf : ∀ b, fp b → fp' b)
    (hk : ∀ k, isNone (obs.getD k .none) = false → isNone (obs'.getD k .none) = false ∧ hd' k = hd k ∧ (∀ r, obShape (obs'.getD k .none) = some r → obShape (obs.getD k .none) = some r)) (hR : ∀ v, Rg hd v → Rg hd' v) : BxR w' Gs' Gb hd' obs' t l v fp' := by
  obtain ⟨b, o, vs, h1, h3, h0, h4, h5, h7, h6⟩ := h
  have hh := hb b (.inr h3)
  exact ⟨b, o, vs, h1, hf b h3, h0, slots_move hg (fun b h => hb b (.inl h)) hk hR l vs h4, fun j u hu => (World.cell?_of_block (a := ⟨b, o + j, none⟩) hh).trans (h5 j u hu), h7, fun j hj => by
      rw [World.cell?_of_block (a := ⟨b, o + j, none⟩) hh, World.frozen?_of_block (a := ⟨b, o + j, none⟩) hh]; exact h6 j hj⟩
theorem ObR.move {w w' : World} {Gs Gs' Gb : BS} {hd hd' : Nat → Value} {obs obs' : List Ob} {v : Value} {fp fp' : BS} {ob : Ob} (h : ObR w Gs Gb hd obs v fp ob) (hg : ∀ b, Gs b → Gs' b) (hb : ∀ b, (Gs b ∨ Gb b) ∨ fp b → w'.heap[b]? = w.heap[b]?) (hf : ∀ b, fp b → fp' b)
    (hk : ∀ k, isNone (obs.getD k .none) = false → isNone (obs'.getD k .none) = false ∧ hd' k = hd k ∧ (∀ r, obShape (obs'.getD k .none) = some r → obShape (obs.getD k .none) = some r)) (hR : ∀ v, Rg hd v → Rg hd' v) : ObR w' Gs' Gb hd' obs' v fp' ob := by
  have hG : ∀ tn b, Gof Gs Gb tn b ∨ fp b → w'.heap[b]? = w.heap[b]? := fun tn b h => hb b (h.imp (fun h => h.imp id (·.2)) id)
  have hM : ∀ tn b, Gof Gs Gb tn b → Gof Gs' Gb tn b := fun tn => Gof_mono hg id
  cases ob with
  | none => trivial
  | gone => trivial
  | sl tn nx e x => exact ⟨h.1.move (hM tn) (hG tn) hf, h.2⟩
  | pubd tn nx e x => exact ⟨h.1.move (hM tn) (fun b hh => hG tn b (.inl hh)), h.2⟩
  | box tn t x => exact BoxR.move h (hM tn) (hG tn) hf
  | io tn e x => exact OwnRow.move h (hM tn) (hG tn) hf
  | bx t l => exact BxR.move h hg hb hf hk hR
  | dp e x => exact DpR.move h (fun b hh => hb b (.inr hh)) hf
  | mp t x => exact MpR.move h (fun b hh => hb b (.inr hh)) hf
  | sd x => exact SdR.move h (hM false) (hG false) hf hR

variable {N : Nat} {w0 : World} {Mv : Mvp} {Gb Gs : BS} {hd : Nat → Value} {fp : Nat → BS} {s : St} {a : Act} {w w' : World}

/-- Another world in which nothing that is held has turned. -/
theorem Inv.world (h : Inv N w0 Mv Gb Gs hd fp s a w) (ho : w'.os = w.os) (ht : w'.tape = w.tape) (hp : w'.output = w.output) (hs : w.heap.size ≤ w'.heap.size)
    (hb : ∀ b, b < w.heap.size → ¬ Free N Mv Gb Gs fp w b → w'.heap[b]? = w.heap[b]?) : Inv N w0 Mv Gb Gs hd fp s a w' := by
  have e1 : ∀ b, Gs b ∨ Gb b → w'.heap[b]? = w.heap[b]? := fun b hh => by
    refine hb b ?_ (fun f => hh.elim f.gs f.gb)
    rcases hh with hh | hh
    · exact (h.gs b hh).1
    · have := (h.gb b hh).1; have := h.le; have := h.ev.size; omega
  have e2 : ∀ k b, fp k b → w'.heap[b]? = w.heap[b]? := fun k b hh => hb b (h.own k b hh).1 (fun f => f.fp k hh)
  refine ⟨⟨ho.trans h.ev.os, ht.trans h.ev.tape, hp.trans h.ev.output, Nat.le_trans h.ev.size hs, fun b hN hM => ?_⟩, h.le, h.len, fun i => slot_move (fun _ x => x) e1 (fun k hk => ⟨hk, rfl, fun _ x => x⟩) (fun _ h => h) _ _ (h.slots i),
    fun k => (h.obs k).move (fun _ x => x) (fun b hh => hh.elim (e1 b) (e2 k b)) (fun _ x => x) (fun k hk => ⟨hk, rfl, fun _ x => x⟩) (fun _ h => h), fun k b hh => ⟨Nat.lt_of_lt_of_le (h.own k b hh).1 hs, (h.own k b hh).2⟩, h.disj, fun b hh => ⟨Nat.lt_of_lt_of_le (h.gs b hh).1 hs, (h.gs b hh).2⟩, h.gb, h.pin, h.fix, h.small, h.reg.move (fun _ x => x) (fun b hb => e1 b (.inl hb)) (fun _ h => h)⟩
  rw [← h.ev.block b hN hM]
  refine hb b ?_ (fun f => f.mine.elim (by omega) hM)
  have := h.le; have := h.ev.size; omega
theorem Inv.drew (h : Inv N w0 Mv Gb Gs hd fp s a w) : Inv N w0 Mv Gb Gs hd fp s a w.drew := h.world rfl rfl rfl (Nat.le_refl _) (fun _ _ _ => rfl)
theorem Inv.alloc (h : Inv N w0 Mv Gb Gs hd fp s a w) (o : Obj) : Inv N w0 Mv Gb Gs hd fp s a (w.alloc o) ∧ Free N Mv Gb Gs fp (w.alloc o) w.heap.size := by
  refine ⟨h.world rfl rfl rfl (by simp) (fun b hb _ => Below.heap_alloc _ _ _ hb), ⟨by simp, .inl ?_, fun hh => ?_, fun hh => ?_, fun k hh => ?_⟩⟩
  · have := h.le; have := h.ev.size; omega
  · have := (h.gs _ hh).1; omega
  · have := (h.gb _ hh).1; have := h.le; have := h.ev.size; omega
  · have := (h.own k _ hh).1; omega
theorem setCells_block (b : Nat) : ∀ (vs : List Value) (o : Nat) (w : World) (k : Nat), k ≠ b → (w.setCells b o vs).heap[k]? = w.heap[k]?
  | [], _, _, _, _ => rfl
  | v :: r, o, w, k, h => by rw [World.setCells, setCells_block b r _ _ k h]; exact Below.heap_setCell _ _ _ _ h
theorem setCells_size (b : Nat) : ∀ (vs : List Value) (o : Nat) (w : World), (w.setCells b o vs).heap.size = w.heap.size
  | [], _, _ => rfl
  | v :: r, o, w => by rw [World.setCells, setCells_size b r]; simp [World.setCell]
theorem setCells_rest (b : Nat) : ∀ (vs : List Value) (o : Nat) (w : World), (w.setCells b o vs).os = w.os ∧ (w.setCells b o vs).tape = w.tape ∧ (w.setCells b o vs).output = w.output
  | [], _, _ => ⟨rfl, rfl, rfl⟩
  | v :: r, o, w => by rw [World.setCells]; have := setCells_rest b r (o + 1) (w.setCell ⟨b, o, none⟩ v); exact this
/-- Writing where nobody holds anything. -/
theorem Inv.write (h : Inv N w0 Mv Gb Gs hd fp s a w) {b : Nat} (hf : Free N Mv Gb Gs fp w b) (o : Nat) (vs : List Value) : Inv N w0 Mv Gb Gs hd fp s a (w.setCells b o vs) := by
  have hr := setCells_rest b vs o w
  exact h.world hr.1 hr.2.1 hr.2.2 (by rw [setCells_size]; exact Nat.le_refl _) (fun k _ hk => setCells_block b vs o w k (fun e => hk (e ▸ hf)))

theorem getD_set_self {α : Type} (l : List α) (i : Nat) (x d : α) : (l.set i x).getD i d = if i < l.length then x else d := by
  simp only [List.getD_eq_getElem?_getD, List.getElem?_set, if_true]
  split <;> rfl
theorem getD_set_ne' {α : Type} (l : List α) {i j : Nat} (x d : α) (h : j ≠ i) : (l.set i x).getD j d = l.getD j d := by
  simp only [List.getD_eq_getElem?_getD, List.getElem?_set]
  rw [if_neg (fun e => h e.symm)]

/-- A value goes into a slot. -/
theorem Inv.put (h : Inv N w0 Mv Gb Gs hd fp s a w) (d : Option Nat) {z : Slot} {v : Value} (hz : SlotR w Gs Gb hd s.ob z v) : Inv N w0 Mv Gb Gs hd fp ⟨match d with | some d => s.sl.set d z | none => s.sl, s.ob⟩ (a.put d v) w := by
  cases d with
  | none => exact h
  | some d =>
    refine ⟨h.ev, h.le, by simp [Act.put, h.len], fun i => ?_, h.obs, h.own, h.disj, h.gs, h.gb, h.pin, h.fix, h.small, h.reg⟩
    simp only [Act.put, Array.getD_eq_getD_getElem?, Array.getElem?_setIfInBounds]
    by_cases hi : i = d
    · subst hi
      rw [getD_set_self, h.len]
      split
      · simp; exact hz
      · simp; simp only [SlotR]
    · rw [getD_set_ne' _ _ _ hi, if_neg (fun e => hi e.symm), ← Array.getD_eq_getD_getElem?]
      exact h.slots i

/-- What lies under a key is never written any more. -/
theorem Inv.pubKey (h : Inv N w0 Mv Gb Gs hd fp s a w) {k : Nat} {tn nx : Bool} {e : Ty} {x : List (Den e)} (hk : s.ob.getD k .none = .sl tn nx e x) :
    Inv N w0 Mv Gb (fun b => Gs b ∨ fp k b) hd (upd fp k fun _ => False) ⟨s.sl, s.ob.set k (.pubd tn nx e x)⟩ a w := by
  have hlt : k < s.ob.length := by
    rcases Nat.lt_or_ge k s.ob.length with h | h
    · exact h
    · rw [List.getD_eq_getElem?_getD, List.getElem?_eq_none h] at hk; cases hk
  have hkk : ∀ j, isNone (s.ob.getD j .none) = false → isNone ((s.ob.set k (.pubd tn nx e x)).getD j .none) = false ∧ hd j = hd j ∧ (∀ r, obShape ((s.ob.set k (.pubd tn nx e x)).getD j .none) = some r → obShape (s.ob.getD j .none) = some r) := fun j hj => by
    by_cases hjk : j = k
    · subst hjk; simp only [getD_set_self, hlt, if_true]; exact ⟨rfl, trivial, fun r hr => by rw [hk]; exact hr⟩
    · simp only [getD_set_ne' _ _ _ hjk]; exact ⟨hj, trivial, fun _ x => x⟩
  refine ⟨h.ev, h.le, h.len, fun i => slot_move (fun _ x => .inl x) (fun _ _ => rfl) hkk (fun _ h => h) _ _ (h.slots i), fun j => ?_, fun j b hb => ?_, fun i j b hi hj => ?_, fun b hb => ?_, h.gb, fun j v F hp => ?_, h.fix, by simp only [List.length_set]; exact h.small, h.reg.move (fun _ x => .inl x) (fun _ _ => rfl) (fun _ h => h)⟩
  rotate_right
  · obtain ⟨p1, p2, p3⟩ := h.pin j v F hp
    have hjk : j ≠ k := fun e => by subst e; rw [hk] at p1; cases p1
    simp only [getD_set_ne' _ _ _ hjk, upd_ne _ _ hjk]; exact ⟨p1, p2, p3⟩
  · by_cases hjk : j = k
    · subst hjk
      simp only [getD_set_self, hlt, if_true]
      have h0 := h.obs j
      rw [hk] at h0
      refine ⟨?_, h0.2⟩
      rcases h0.1 with ⟨h1, h2⟩ | ⟨b, o, cap, cs, h1, h2, h3, h4, h5, h6⟩
      · rw [h1, h2]; exact .mkNil e
      · rw [h1]; exact .mkSl h2 (.inl (.inr h3)) (h4.move (Gof_mono (fun _ x => .inl x) id) (fun _ _ => rfl)) h5
    · simp only [getD_set_ne' _ _ _ hjk, upd_ne _ _ hjk]
      exact (h.obs j).move (fun _ x => .inl x) (fun _ _ => rfl) (fun _ x => x) hkk (fun _ h => h)
  · by_cases hjk : j = k
    · subst hjk; simp at hb
    · rw [upd_ne _ _ hjk] at hb
      exact ⟨(h.own j b hb).1, (h.own j b hb).2.1, fun hh => hh.elim (h.own j b hb).2.2.1 (fun h' => hjk (h.disj j k b hb h')), (h.own j b hb).2.2.2⟩
  · by_cases hik : i = k
    · subst hik; simp at hi
    · by_cases hjk : j = k
      · subst hjk; simp at hj
      · rw [upd_ne _ _ hik] at hi; rw [upd_ne _ _ hjk] at hj; exact h.disj i j b hi hj
  · rcases hb with hb | hb
    · exact h.gs b hb
    · exact ⟨(h.own k b hb).1, (h.own k b hb).2.1.imp id .inl⟩
/-- What lies under a key is let go. -/
theorem Inv.kill (h : Inv N w0 Mv Gb Gs hd fp s a w) {k : Nat} (hk : isNone (s.ob.getD k .none) = false) (hnb : obBox (s.ob.getD k .none) = false) : Inv N w0 Mv Gb Gs hd (upd fp k fun _ => False) ⟨s.sl, s.ob.set k .gone⟩ a w := by
  have hlt : k < s.ob.length := by
    rcases Nat.lt_or_ge k s.ob.length with h | h
    · exact h
    · rw [List.getD_eq_getElem?_getD, List.getElem?_eq_none h] at hk; cases hk
  have hkk : ∀ j, isNone (s.ob.getD j .none) = false → isNone ((s.ob.set k .gone).getD j .none) = false ∧ hd j = hd j ∧ (∀ r, obShape ((s.ob.set k .gone).getD j .none) = some r → obShape (s.ob.getD j .none) = some r) := fun j hj => by
    by_cases hjk : j = k
    · subst hjk; simp only [getD_set_self, hlt, if_true]; exact ⟨rfl, trivial, fun r hr => by cases hr⟩
    · simp only [getD_set_ne' _ _ _ hjk]; exact ⟨hj, trivial, fun _ x => x⟩
  refine ⟨h.ev, h.le, h.len, fun i => slot_move (fun _ x => x) (fun _ _ => rfl) hkk (fun _ h => h) _ _ (h.slots i), fun j => ?_, fun j b hb => ?_, fun i j b hi hj => ?_, h.gs, h.gb, fun j v F hp => ?_, h.fix, by simp only [List.length_set]; exact h.small, h.reg⟩
  rotate_right
  · obtain ⟨p1, p2, p3⟩ := h.pin j v F hp
    have hjk : j ≠ k := fun e => by subst e; rw [hnb] at p1; cases p1
    simp only [getD_set_ne' _ _ _ hjk, upd_ne _ _ hjk]; exact ⟨p1, p2, p3⟩
  · by_cases hjk : j = k
    · subst hjk; simp only [getD_set_self, hlt, if_true, ObR]
    · simp only [getD_set_ne' _ _ _ hjk, upd_ne _ _ hjk]; exact (h.obs j).move (fun _ x => x) (fun _ _ => rfl) (fun _ x => x) hkk (fun _ h => h)
  · by_cases hjk : j = k
    · subst hjk; simp at hb
    · rw [upd_ne _ _ hjk] at hb; exact h.own j b hb
  · by_cases hik : i = k
    · subst hik; simp at hi
    · by_cases hjk : j = k
      · subst hjk; simp at hj
      · rw [upd_ne _ _ hik] at hi; rw [upd_ne _ _ hjk] at hj; exact h.disj i j b hi hj
theorem Free.killed {b k : Nat} (h : Inv N w0 Mv Gb Gs hd fp s a w) (hb : fp k b) : Free N Mv Gb Gs (upd fp k fun _ => False) w b :=
  ⟨(h.own k b hb).1, (h.own k b hb).2.1, (h.own k b hb).2.2.1, (h.own k b hb).2.2.2, fun j hj => by
    by_cases hjk : j = k
    · subst hjk; simp at hj
    · rw [upd_ne _ _ hjk] at hj; exact hjk (h.disj j k b hj hb)⟩
theorem rg_upd {hd : Nat → Value} {k : Nat} {v u : Value} (hk : k < regM) : Rg (upd hd k v) u ↔ Rg hd u := by
  constructor
  · rintro ⟨b, o, n, c, h1, h2⟩
    rw [upd_ne _ _ (by omega)] at h2
    exact ⟨b, o, n, c, h1, h2⟩
  · rintro ⟨b, o, n, c, h1, h2⟩
    exact ⟨b, o, n, c, h1, by rw [upd_ne _ _ (by omega)]; exact h2⟩
/-- Something new under a key that nobody has used. -/
theorem Inv.newKey (h : Inv N w0 Mv Gb Gs hd fp s a w) {k : Nat} (hk : s.ob.getD k .gone = .none) {v : Value} {F : BS} (hF : ∀ b, F b → Free N Mv Gb Gs fp w b) {ob : Ob} (ho : isNone ob = false) (hr : ObR w Gs Gb hd s.ob v F ob) :
    Inv N w0 Mv Gb Gs (upd hd k v) (upd fp k F) ⟨s.sl, s.ob.set k ob⟩ a w := by
  have hlt : k < s.ob.length := by
    rcases Nat.lt_or_ge k s.ob.length with h | h
    · exact h
    · rw [List.getD_eq_getElem?_getD, List.getElem?_eq_none h] at hk; cases hk
  have hkM : k < regM := Nat.lt_of_lt_of_le hlt h.small
  have hk' : s.ob.getD k .none = .none := by
    rw [List.getD_eq_getElem?_getD, List.getElem?_eq_getElem hlt] at hk ⊢; exact hk
  have hkk : ∀ j, isNone (s.ob.getD j .none) = false → isNone ((s.ob.set k ob).getD j .none) = false ∧ upd hd k v j = hd j ∧ (∀ r, obShape ((s.ob.set k ob).getD j .none) = some r → obShape (s.ob.getD j .none) = some r) := fun j hj => by
    have hjk : j ≠ k := fun e => by subst e; rw [hk'] at hj; cases hj
    simp only [getD_set_ne' _ _ _ hjk, upd_ne _ _ hjk]; exact ⟨hj, trivial, fun _ x => x⟩
  refine ⟨h.ev, h.le, h.len, fun i => slot_move (fun _ x => x) (fun _ _ => rfl) hkk (fun _ h => (rg_upd hkM).2 h) _ _ (h.slots i), fun j => ?_, fun j b hb => ?_, fun i j b hi hj => ?_, h.gs, h.gb, fun j v' F' hp => ?_, h.fix, by simp only [List.length_set]; exact h.small, h.reg.move (fun _ x => x) (fun _ _ => rfl) (fun _ h => (rg_upd hkM).1 h)⟩
  rotate_right
  · obtain ⟨p1, p2, p3⟩ := h.pin j v' F' hp
    have hjk : j ≠ k := fun e => by subst e; rw [hk'] at p1; cases p1
    simp only [getD_set_ne' _ _ _ hjk, upd_ne _ _ hjk]; exact ⟨p1, p2, p3⟩
  · by_cases hjk : j = k
    · subst hjk; simp only [getD_set_self, hlt, if_true, upd_same]; exact hr.move (fun _ x => x) (fun _ _ => rfl) (fun _ x => x) hkk (fun _ h => (rg_upd hkM).2 h)
    · simp only [getD_set_ne' _ _ _ hjk, upd_ne _ _ hjk]; exact (h.obs j).move (fun _ x => x) (fun _ _ => rfl) (fun _ x => x) hkk (fun _ h => (rg_upd hkM).2 h)
  · by_cases hjk : j = k
    · subst hjk; simp at hb; have := hF b hb; exact ⟨this.lt, this.mine, this.gs, this.gb⟩
    · rw [upd_ne _ _ hjk] at hb; exact h.own j b hb
  · by_cases hik : i = k
    · subst hik
      by_cases hjk : j = i
      · exact hjk.symm
      · simp at hi; rw [upd_ne _ _ hjk] at hj; exact ((hF b hi).fp j hj).elim
    · by_cases hjk : j = k
      · subst hjk; simp at hj; rw [upd_ne _ _ hik] at hi; exact ((hF b hj).fp i hi).elim
      · rw [upd_ne _ _ hik] at hi; rw [upd_ne _ _ hjk] at hj; exact h.disj i j b hi hj
/-- Blocks that nobody holds are shared from here on. -/
theorem Inv.share (h : Inv N w0 Mv Gb Gs hd fp s a w) {F : BS} (hF : ∀ b, F b → Free N Mv Gb Gs fp w b) : Inv N w0 Mv Gb (fun b => Gs b ∨ F b) hd fp s a w :=
  ⟨h.ev, h.le, h.len, fun i => slot_move (fun _ x => .inl x) (fun _ _ => rfl) (fun j hj => ⟨hj, rfl, fun _ x => x⟩) (fun _ h => h) _ _ (h.slots i),
    fun j => (h.obs j).move (fun _ x => .inl x) (fun _ _ => rfl) (fun _ x => x) (fun j hj => ⟨hj, rfl, fun _ x => x⟩) (fun _ h => h), fun j b hb => ⟨(h.own j b hb).1, (h.own j b hb).2.1, fun hh => hh.elim (h.own j b hb).2.2.1 (fun hf => (hF b hf).fp j hb), (h.own j b hb).2.2.2⟩,
    h.disj, fun b hb => hb.elim (h.gs b) (fun hf => ⟨(hF b hf).lt, (hF b hf).mine.imp id .inl⟩), h.gb, h.pin, h.fix, h.small, h.reg.move (fun _ x => .inl x) (fun _ _ => rfl) (fun _ h => h)⟩
/-- What lies under a key turns, and with it its own block alone. -/
theorem Inv.turn (h : Inv N w0 Mv Gb Gs hd fp s a w) {k b : Nat} (hb : fp k b) {ob : Ob} (hs : obShape ob = obShape (s.ob.getD k .none)) (hbb : obBox (s.ob.getD k .none) = true → obBox ob = true) (hn : isNone (s.ob.getD k .none) = false) (hn' : isNone ob = false) {w1 : World}
    (hrs : w1.os = w.os ∧ w1.tape = w.tape ∧ w1.output = w.output) (hsz : w1.heap.size = w.heap.size) (hblk : ∀ c, c ≠ b → w1.heap[c]? = w.heap[c]?)
    (hr : ObR w1 Gs Gb hd s.ob (hd k) (fp k) ob) : Inv N w0 Mv Gb Gs hd fp ⟨s.sl, s.ob.set k ob⟩ a w1 := by
  have hlt : k < s.ob.length := by
    rcases Nat.lt_or_ge k s.ob.length with h | h
    · exact h
    · rw [List.getD_eq_getElem?_getD, List.getElem?_eq_none h] at hn; cases hn
  have e1 : ∀ c, Gs c ∨ Gb c → w1.heap[c]? = w.heap[c]? := fun c hc => hblk c (fun e => by
    subst e; exact hc.elim (h.own k c hb).2.2.1 (h.own k c hb).2.2.2)
  have hkk : ∀ j, isNone (s.ob.getD j .none) = false → isNone ((s.ob.set k ob).getD j .none) = false ∧ hd j = hd j ∧ (∀ r, obShape ((s.ob.set k ob).getD j .none) = some r → obShape (s.ob.getD j .none) = some r) := fun j hj => by
    by_cases hjk : j = k
    · subst hjk; simp only [getD_set_self, hlt, if_true]; exact ⟨hn', trivial, fun r hr => by rw [← hs]; exact hr⟩
    · simp only [getD_set_ne' _ _ _ hjk]; exact ⟨hj, trivial, fun _ x => x⟩
  refine ⟨⟨hrs.1.trans h.ev.os, hrs.2.1.trans h.ev.tape, hrs.2.2.trans h.ev.output, by rw [hsz]; exact h.ev.size, fun c hN hM => ?_⟩, h.le, h.len, fun i => slot_move (fun _ x => x) e1 hkk (fun _ h => h) _ _ (h.slots i), fun j => ?_,
    fun j c hc => by rw [hsz]; exact h.own j c hc, h.disj, fun c hc => by rw [hsz]; exact h.gs c hc, h.gb, fun j v F hp => ?_, h.fix, by simp only [List.length_set]; exact h.small, h.reg.move (fun _ x => x) (fun b hb => e1 b (.inl hb)) (fun _ h => h)⟩
  rotate_right
  · obtain ⟨p1, p2, p3⟩ := h.pin j v F hp
    refine ⟨?_, p2, p3⟩
    by_cases hjk : j = k
    · subst hjk
      simp only [getD_set_self, hlt, if_true]
      exact hbb p1
    · simp only [getD_set_ne' _ _ _ hjk]; exact p1
  · rw [hblk c (fun e => by subst e; exact (h.own k c hb).2.1.elim (by omega) hM)]; exact h.ev.block c hN hM
  · by_cases hjk : j = k
    · subst hjk; simp only [getD_set_self, hlt, if_true]; exact hr.move (fun _ x => x) (fun _ _ => rfl) (fun _ x => x) hkk (fun _ h => h)
    · simp only [getD_set_ne' _ _ _ hjk]
      exact (h.obs j).move (fun _ x => x) (fun c hc => hc.elim (e1 c) (fun hc => hblk c (fun e => by subst e; exact hjk (h.disj j k c hc hb)))) (fun _ x => x) hkk (fun _ h => h)
/-- What lies under a key is written anew in its own block. -/
theorem Inv.store (h : Inv N w0 Mv Gb Gs hd fp s a w) {k b : Nat} (hb : fp k b) {ob : Ob} (hs : obShape ob = obShape (s.ob.getD k .none)) (hbb : obBox (s.ob.getD k .none) = true → obBox ob = true) (hn : isNone (s.ob.getD k .none) = false) (hn' : isNone ob = false) (o : Nat) (vs : List Value)
    (hr : ObR (w.setCells b o vs) Gs Gb hd s.ob (hd k) (fp k) ob) : Inv N w0 Mv Gb Gs hd fp ⟨s.sl, s.ob.set k ob⟩ a (w.setCells b o vs) :=
  h.turn hb hs hbb hn hn' (setCells_rest b vs o w) (setCells_size b vs o w) (fun c hc => setCells_block b vs o w c hc) hr
end Go.Proofs.YtkgpkalclblhbaaGreatDoor.Eng
