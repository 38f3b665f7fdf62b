/-
  What the types' table must hold, and what operands read as.
-/
import Derived.Test.YtkgpkalclblhbaaGreatDoorS2s
namespace Go.Proofs.YtkgpkalclblhbaaGreatDoor.Eng
open Go Go.RowKit
set_option linter.unusedVariables false
set_option linter.unusedSimpArgs false

def zeroCNT : Nat → List Value
  | 0 => [.int .i64 0, .slice none 0 0]
  | 1 => [.slice none 0 0]
  | 2 => [.slice none 0 0, .slice none 0 0]
  | 3 => [.int .i64 0, .int .i64 0]
  | 4 => [.slice none 0 0, .int .i64 0, .slice none 0 0, .slice none 0 0]
  | 5 => [.int .i64 0, .int .i64 0, .int .i64 0]
  | _ => []
def zeroC : Ty → List Value
  | .int k => [.int k 0]
  | .bool => [.bool false]
  | .str => [.string ByteArray.empty]
  | .unit => []
  | .sl _ => [.slice none 0 0]
  | .pair a b => zeroC a ++ zeroC b
  | .ap i => zeroCNT i
  | .err => [.nilIface]
def zeroV (t : Ty) : Value := if isAggT t then .agg (zeroC t).toArray else (zeroC t).getD 0 undef
theorem zeroRep (w : World) (G : BS) : ∀ t, RepC w G t (zeroD t) (zeroC t)
  | .int k => .int k 0
  | .bool => .bool false
  | .str => .str ByteArray.empty
  | .unit => .unit
  | .sl e => .nil e
  | .pair a b => .pair a b _ _ _ _ (zeroRep w G a) (zeroRep w G b)
  | .ap 0 => .ap 0 _ _ (.pair _ _ _ _ [_] [_] (.int _ _) (.pair _ _ _ _ [_] [] (.nil _) .unit))
  | .ap 1 => .ap 1 _ _ (.nil _)
  | .ap 2 => .ap 2 _ _ (.pair _ _ _ _ [_] [_] (.nil _) (.pair _ _ _ _ [_] [] (.nil _) .unit))
  | .ap 3 => .ap 3 _ _ (.pair _ _ _ _ [_] [_] (.int _ _) (.pair _ _ _ _ [_] [] (.int _ _) .unit))
  | .ap 4 => .ap 4 _ _ (.pair _ _ _ _ [_] [_, _, _] (.nil _) (.pair _ _ _ _ [_] [_, _] (.int _ _) (.pair _ _ _ _ [_] [_] (.nil _) (.pair _ _ _ _ [_] [] (.nil _) .unit))))
  | .ap 5 => .arr w G (0, 0, 0)
  | .ap (n + 6) => .ap (n + 6) _ _ .unit
  | .err => .errNil

/-- Two types of which one is the other's meaning. -/
def Same (t u : Ty) : Prop := t = u ∨ t = under u
theorem sz_under (t : Ty) : sz (under t) = sz t := by
  cases t <;> first | rfl | exact sz_unf _
theorem Same.sz {t u : Ty} (h : Same t u) : sz t = sz u := by rcases h with rfl | rfl; rfl; exact sz_under u

section facts
variable (P : Program) (T : Tab)
def FieldsOk : List Field → Nat → Ty → Prop
  | [], _, .unit => True
  | f :: fs, off, .pair a b => f.offset = off ∧ (∃ u, T.ty f.type = some u ∧ Same u a) ∧ FieldsOk fs (off + sz a) b
  | _, _, _ => False
def DescOk : TypeDesc → Ty → Prop
  | .int k, .int j => k = j
  | .bool, .bool => True
  | .string, .str => True
  | .slice e, .sl u => ∃ u', T.ty e = some u' ∧ Same u' u
  | .array n e, .ap 5 => n = 3 ∧ T.ty e = some (.int .i64)
  | .interface _, .err => True
  | .struct fs, t => isAggT t = true ∧ FieldsOk T fs.toList 0 (under t) ∧ t ≠ .ap 5
  | _, _ => False
structure TyFacts (tid : TypeId) (t : Ty) : Prop where
  info : ∃ i, P.info? tid = some i ∧ i.size = sz t ∧ i.bytes ≤ 128 ∧ i.zero = some (zeroV t)
  small : sz t ≤ 100
  desc : ∃ d, P.underlying tid = some d ∧ DescOk T d t
/-- A map whose keys are three numbers. -/
structure MpFacts (tid : TypeId) (t : Ty) : Prop where
  desc : ∃ kt et, P.underlying tid = some (.map kt et) ∧ T.ty kt = some (.ap 5) ∧ T.ty et = some t
  sc : scalar t = true
/-- Records of two numbers are held against each other. -/
structure EqFacts (tid : TypeId) : Prop where
  guard : ∀ (op : BinOp) (x y : Operand) (a b c d : Int) (w : World), (eqGuard op tid x y (.agg #[.int .i64 a, .int .i64 b]) (.agg #[.int .i64 c, .int .i64 d])).run P w = .ok () w
  equal : ∀ (a b c d : Int) (w : World), (Op.equal tid (.agg #[.int .i64 a, .int .i64 b]) (.agg #[.int .i64 c, .int .i64 d])).run P w = .ok (decide (a = c) && decide (b = d)) w
def TabOk : Prop := (∀ tid t, T.ty tid = some t → TyFacts P T tid t) ∧ (∀ tid t, T.mp tid = some t → MpFacts P T tid t) ∧ ∀ tid, T.eq tid = true → EqFacts P tid
end facts

/-! ### Rows that are read -/
/-- A row: where it lies ('B'), and what its places mean ('G'). -/
def RowR (w : World) (G B : BS) (e : Ty) (x : List (Den e)) (v : Value) : Prop :=
  ((∃ oa, v = .slice oa 0 0) ∧ x = []) ∨ ∃ b o cap cs, x.length ≤ cap ∧ B b ∧ RepL w G e x cs ∧ w.rangeAt b o cs ∧ v = .slice (some ⟨b, o, none⟩) x.length cap
theorem RowR.toV {w : World} {G : BS} {e : Ty} {x : List (Den e)} {v : Value} (h : RowR w G G e x v) : VRep w G (.sl e) x v := by
  rcases h with ⟨⟨oa, rfl⟩, rfl⟩ | ⟨b, o, cap, cs, h1, h2, h3, h4, rfl⟩
  · exact .mkNil e
  · exact .mkSl h1 h2 h3 h4
theorem VRep.row {w : World} {G : BS} {e : Ty} {x : List (Den e)} {v : Value} (h : VRep w G (.sl e) x v) : RowR w G G e x v := by
  rcases h.nilIff with ⟨h1, h2⟩ | ⟨b, o, cap, cs, h1, h2, h3, h4, h5⟩
  · exact .inl ⟨h2, h1⟩
  · exact .inr ⟨b, o, cap, cs, h1, h2, h3, h4, h5⟩
theorem OwnRow.row {w : World} {G fp : BS} {e : Ty} {x : List (Den e)} {v : Value} (h : OwnRow w G e x v fp) : RowR w G fp e x v := by
  rcases h with h | ⟨b, o, cap, cs, h1, h2, h3, h4, h5, h6⟩
  · exact .inl ⟨⟨none, h.1⟩, h.2⟩
  · exact .inr ⟨b, o, cap, cs, h2, h3, h4, h5, h1⟩
theorem RowR.len {w : World} {G B : BS} {e : Ty} {x : List (Den e)} {v : Value} (h : RowR w G B e x v) : ∃ a cap, v = .slice a x.length cap ∧ x.length ≤ cap := by
  rcases h with ⟨⟨oa, rfl⟩, rfl⟩ | ⟨b, o, cap, cs, h1, h2, h3, h4, rfl⟩
  · exact ⟨oa, 0, rfl, Nat.le_refl _⟩
  · exact ⟨_, cap, rfl, h1⟩
theorem RowR.mono {w : World} {G G' B B' : BS} {e : Ty} {x : List (Den e)} {v : Value} (h : RowR w G B e x v) (hg : ∀ b, G b → G' b) (hb : ∀ b, B b → B' b) : RowR w G' B' e x v := by
  rcases h with h | ⟨b, o, cap, cs, h1, h2, h3, h4, rfl⟩
  · exact .inl h
  · exact .inr ⟨b, o, cap, cs, h1, hb b h2, h3.move hg (fun _ _ => rfl), h4, rfl⟩
theorem RowR.move {w w' : World} {G G' B B' : BS} {e : Ty} {x : List (Den e)} {v : Value} (h : RowR w G B e x v) (hg : ∀ b, G b → G' b) (hb : ∀ b, B b → B' b) (hh : ∀ b, G b ∨ B b → w'.heap[b]? = w.heap[b]?) : RowR w' G' B' e x v := by
  rcases h with h | ⟨b, o, cap, cs, h1, h2, h3, h4, rfl⟩
  · exact .inl h
  · exact .inr ⟨b, o, cap, cs, h1, hb b h2, h3.move hg (fun b h => hh b (.inl h)), fun j u hu => (World.cell?_of_block (a := ⟨b, o + j, none⟩) (hh b (.inr h2))).trans (h4 j u hu), rfl⟩
theorem rangeAt_drop {w : World} {b o : Nat} {cs : List Value} (h : w.rangeAt b o cs) (n : Nat) : w.rangeAt b (o + n) (cs.drop n) := fun j v hv => by
  have := h (n + j) v (by simpa [List.getElem?_drop] using hv)
  rwa [show o + n + j = o + (n + j) by omega]
theorem rangeAt_take {w : World} {b o : Nat} {cs : List Value} (h : w.rangeAt b o cs) (n : Nat) : w.rangeAt b o (cs.take n) := fun j v hv => by
  rw [List.getElem?_take] at hv
  split at hv
  · exact h j v hv
  · cases hv
/-- A part of a row. -/
theorem RowR.sub {w : World} {G B : BS} {e : Ty} {x : List (Den e)} {a : Option Addr} {n cap : Nat} (h : RowR w G B e x (.slice a n cap)) {lo hi : Nat} (h1 : lo ≤ hi) (h2 : hi ≤ n) :
    RowR w G B e ((x.take hi).drop lo) (.slice (if cap = lo then a else a.map (·.add (lo * sz e))) (hi - lo) (cap - lo)) := by
  rcases h with ⟨⟨oa, h⟩, rfl⟩ | ⟨b, o, cap', cs, g1, g2, g3, g4, h⟩
  · cases h
    obtain rfl : hi = 0 := by omega
    obtain rfl : lo = 0 := by omega
    exact .inl ⟨⟨a, by simp⟩, by simp⟩
  · cases h
    have hl : ((x.take hi).drop lo).length = hi - lo := by simp; omega
    refine .inr ⟨b, if cap = lo then o else o + lo * sz e, cap - lo, (cs.take (hi * sz e)).drop (lo * sz e), by omega, g2, (g3.take hi).drop lo, ?_, ?_⟩
    · split
      · rename_i hc
        have : (cs.take (hi * sz e)).drop (lo * sz e) = [] := by
          have : hi = lo := by omega
          subst this
          simp
        rw [this]
        intro j v hv; simp at hv
      · exact rangeAt_drop (rangeAt_take g4 _) _
    · rw [hl]
      split
      · rfl
      · simp [Addr.add_mid]
def DataR (w : World) (G B : BS) (v : Value) : PV → Prop
  | ⟨.sl e, x⟩ => RowR w G B e x v
  | ⟨t, x⟩ => VRep w B t x v

variable {P : Program} {T : Tab} {N : Nat} {w0 : World} {Mv : Mvp} {Gb Gs : BS} {hd : Nat → Value} {fp : Nat → BS} {s : St} {a : Act} {w w' : World}

theorem constSlot_ok (t : Option Ty) (v : Value) (ob : List Ob) : SlotR w Gs Gb hd ob (constSlot t v) v := by
  unfold constSlot
  split
  · simp only [SlotR]
  · simp only [SlotR]; exact ⟨_, .int _ _, by simp [isAggT]⟩
  · simp only [SlotR]; exact ⟨_, .str _, by simp [isAggT]⟩
  · simp only [SlotR]; exact ⟨_, .errNil, by simp [isAggT]⟩
  · split <;> simp only [SlotR]
  · simp only [SlotR]
theorem rd_ok (h : Inv N w0 Mv Gb Gs hd fp s a w) (t : Option Ty) (x : Operand) : SlotR w Gs Gb hd s.ob (rd s t x) (a.eval x) := by
  cases x with
  | tmp i => exact h.slots i
  | const v => exact constSlot_ok t v s.ob
  | global g => simp only [rd, SlotR]
  | func f => simp only [rd, SlotR]
/-- What a slot and what lies under its key say of a value. -/
theorem data1_ok (hs : ∀ k, ObR w Gs Gb hd s.ob (hd k) (fp k) (s.ob.getD k .none)) {z : Slot} {v : Value} (hz : SlotR w Gs Gb hd s.ob z v) {tn : Bool} {p : PV} (hd' : data1 z (obOf s z) = some (tn, p)) :
    DataR w (Gof Gs Gb tn) (fun b => Gof Gs Gb tn b ∨ ∃ k, fp k b) v p ∧ (own1 z (obOf s z) = false → VRep w (Gof Gs Gb tn) p.t p.x v) := by
  have hV : ∀ {t : Ty} {x : Den t}, VRep w (Gof Gs Gb tn) t x v → DataR w (Gof Gs Gb tn) (fun b => Gof Gs Gb tn b ∨ ∃ k, fp k b) v ⟨t, x⟩ := by
    intro t x h
    cases t with
    | sl e => exact h.row.mono (fun _ h => h) (fun _ h => .inl h)
    | _ => exact VRep.move h (fun _ h => .inl h) (fun _ _ => rfl)
  cases z with
  | lit b =>
    simp only [data1] at hd'; cases hd'; simp only [SlotR] at hz; subst hz
    have : VRep w (Gof Gs Gb false) .bool b (.bool b) := ⟨_, .bool b, by simp [isAggT]⟩
    exact ⟨hV this, fun _ => this⟩
  | val tn' t x => simp only [data1] at hd'; cases hd'; simp only [SlotR] at hz; exact ⟨hV hz, fun _ => hz⟩
  | nil e => simp only [data1] at hd'; cases hd'; simp only [SlotR] at hz; subst hz; exact ⟨hV (.mkNil e), fun _ => .mkNil e⟩
  | nnv tn' e x => simp only [data1] at hd'; cases hd'; simp only [SlotR] at hz; exact ⟨hV hz.1, fun _ => hz.1⟩
  | nw x => simp only [data1] at hd'; cases hd'; simp only [SlotR] at hz; exact ⟨hV hz.1, fun _ => hz.1⟩
  | clip tn' e x => simp only [data1] at hd'; cases hd'; simp only [SlotR] at hz; exact ⟨hV hz.1, fun _ => hz.1⟩
  | ref k =>
    simp only [SlotR] at hz
    obtain ⟨_, rfl⟩ := hz
    have h0 := hs k
    simp only [data1, obOf, keyOf] at hd' ⊢
    split at hd'
    · rename_i tn' nx e x hb; cases hd'
      rw [hb] at h0 ⊢
      exact ⟨h0.1.row.mono (fun _ h => h) (fun b h => .inr ⟨k, h⟩), fun h => by simp [own1] at h⟩
    · rename_i tn' nx e x hb; cases hd'
      rw [hb] at h0 ⊢
      exact ⟨hV h0.1, fun _ => h0.1⟩
    · cases hd'
  | vw k lo hi =>
    simp only [SlotR] at hz
    obtain ⟨_, hz⟩ := hz
    have h0 := hs k
    simp only [data1, obOf, keyOf] at hd' ⊢
    split at hd'
    · rename_i tn' nx e x hb; cases hd'
      rw [hb] at h0 hz ⊢
      obtain ⟨a', n, cap, e1, e2, e3, rfl⟩ := hz e rfl
      refine ⟨?_, fun h => by simp [own1] at h⟩
      have h1 := h0.1.row
      rw [e1] at h1
      exact (h1.sub e2 e3).mono (fun _ h => h) (fun b h => .inr ⟨k, h⟩)
    · rename_i tn' nx e x hb; cases hd'
      rw [hb] at h0 hz ⊢
      obtain ⟨a', n, cap, e1, e2, e3, rfl⟩ := hz e rfl
      have h1 := h0.1.row
      rw [e1] at h1
      have h2 := (h1.sub e2 e3).toV
      exact ⟨hV h2, fun _ => h2⟩
    · cases hd'
  | _ => simp [data1] at hd'
theorem own1_row (hs : ∀ k, ObR w Gs Gb hd s.ob (hd k) (fp k) (s.ob.getD k .none)) {z : Slot} {v : Value} (hz : SlotR w Gs Gb hd s.ob z v) (ho : own1 z (obOf s z) = true) {tn : Bool} {q : PV} (hq : data1 z (obOf s z) = some (tn, q)) :
    ∃ (k : Nat) (e : Ty) (y : List (Den e)), keyOf z = some k ∧ q = ⟨.sl e, y⟩ ∧ RowR w (Gof Gs Gb tn) (fp k) e y v ∧ ∃ b, pub1 z (obOf s z) = [(k, b)] := by
  cases z with
  | ref k =>
    simp only [obOf, keyOf] at ho hq ⊢
    have h0 := hs k
    simp only [SlotR] at hz
    cases hb : s.ob.getD k .none with
    | sl tn' nx e0 x0 =>
      rw [hb] at h0 hq
      simp only [data1, Option.some.injEq, Prod.mk.injEq] at hq
      obtain ⟨rfl, rfl⟩ := hq
      exact ⟨k, e0, x0, rfl, rfl, by rw [hz.2]; exact h0.1.row, _, rfl⟩
    | _ => rw [hb] at ho; simp [own1] at ho
  | vw k lo hi =>
    simp only [obOf, keyOf] at ho hq ⊢
    have h0 := hs k
    simp only [SlotR] at hz
    cases hb : s.ob.getD k .none with
    | sl tn' nx e0 x0 =>
      rw [hb] at h0 hq
      simp only [data1, Option.some.injEq, Prod.mk.injEq] at hq
      obtain ⟨rfl, rfl⟩ := hq
      obtain ⟨a', n, cap, e1, e2, e3, e4⟩ := hz.2 e0 (by rw [hb]; rfl)
      have h1 := h0.1.row
      rw [e1] at h1
      exact ⟨k, e0, _, rfl, rfl, by rw [e4]; exact h1.sub e2 e3, _, rfl⟩
    | _ => rw [hb] at ho; simp [own1] at ho
  | _ => simp [own1] at ho
theorem own1_pub {z : Slot} {b : Ob} (h : own1 z b = false) : pub1 z b = [] := by
  cases z <;> cases b <;> first | rfl | (simp [own1] at h)
theorem own1_key {z : Slot} {b : Ob} (h : own1 z b = true) : ∃ kb, kb ∈ pub1 z b := by
  cases z <;> cases b <;> first | (simp [own1] at h; done) | exact ⟨_, List.mem_cons_self ..⟩
theorem VRep.to {G : BS} {q : PV} {t : Ty} {y : Den t} {v : Value} (h : VRep w G q.t q.x v) (hy : q.to t = some y) (hag : isAggT t = isAggT q.t) : VRep w G t y v := by
  obtain ⟨cs, h1, h2⟩ := h
  exact ⟨cs, h1.to hy, by rw [hag]; exact h2⟩
theorem to_agg {q : PV} {t : Ty} {y : Den t} (hy : q.to t = some y) (hu : isAggT t = isAggT (under t)) (hu' : isAggT q.t = isAggT (under q.t)) : isAggT t = isAggT q.t := by
  unfold PV.to at hy
  split at hy
  · rename_i e; rw [e]
  · split at hy
    · rename_i _ e; rw [hu, e]
    · split at hy
      · rename_i _ _ e; rw [hu', e]
      · cases hy
theorem agg_under (t : Ty) (ht : t ≠ .ap 1 ∨ True) : isAggT t = isAggT (under t) := by
  cases t with
  | ap j => match j with
    | 0 => rfl
    | 1 => rfl
    | 2 => rfl
    | 3 => rfl
    | 4 => rfl
    | 5 => rfl
    | _ + 6 => rfl
  | _ => rfl
theorem VRep.to' {G : BS} {q : PV} {t : Ty} {y : Den t} {v : Value} (h : VRep w G q.t q.x v) (hy : q.to t = some y) : VRep w G t y v :=
  h.to hy (to_agg hy (agg_under _ (.inr trivial)) (agg_under _ (.inr trivial)))
/-- One part, as data in what may be looked at. -/
theorem lend1 (hs : ∀ k, ObR w Gs Gb hd s.ob (hd k) (fp k) (s.ob.getD k .none)) {z : Slot} {v : Value} (hz : SlotR w Gs Gb hd s.ob z v) {tn : Bool} {q : PV} (hq : data1 z (obOf s z) = some (tn, q)) {G : BS}
    (hG : ∀ b, Gof Gs Gb tn b → G b) (hF : ∀ k ∈ (pub1 z (obOf s z)).map (·.1), ∀ b, fp k b → G b) : VRep w G q.t q.x v := by
  by_cases ho : own1 z (obOf s z) = true
  · obtain ⟨k, e, y, k1, rfl, k2, b, k3⟩ := own1_row hs hz ho hq
    exact (k2.mono hG (hF k (by rw [k3]; simp))).toV
  · exact ((data1_ok hs hz hq).2 (by simpa using ho)).move hG (fun _ _ => rfl)
theorem VRep.cell {G : BS} {t : Ty} {x : Den t} {v : Value} (h : VRep w G t x v) (h1 : sz t = 1) (h2 : isAggT t = false) : RepC w G t x [v] ∧ v.oneCell' = true := by
  obtain ⟨cs, h3, h4⟩ := h
  have hl := h3.len
  rw [h1] at hl
  obtain ⟨y, rfl⟩ := List.length_eq_one_iff.1 hl
  simp [h2] at h4
  subst h4
  exact ⟨h3, h3.one _ (by simp)⟩
theorem aggF_ok (hs : ∀ k, ObR w Gs Gb hd s.ob (hd k) (fp k) (s.ob.getD k .none)) {G : BS} : ∀ (t : Ty) (l : List Slot) (vs : List Value) {tn : Bool} {y : Den t}, SlotsR w Gs Gb hd s.ob l vs → aggF t l (l.map (obOf s)) = some (tn, y) →
    (∀ b, Gof Gs Gb tn b → G b) → (∀ k ∈ (pubL l (l.map (obOf s))).map (·.1), ∀ b, fp k b → G b) → RepC w G t y vs
  | .pair a b, z :: l, vs, tn, y, hz, ha, hG, hF => by
    simp only [SlotsR] at hz
    obtain ⟨v, r, rfl, hz1, hz2⟩ := hz
    simp only [List.map_cons, aggF] at ha
    split at ha
    · rename_i t1 p t2 y2 h1 h2
      split at ha
      · rename_i x hx
        split at ha
        · rename_i hc
          cases ha
          simp only [List.map_cons, pubL, List.map_append] at hF
          have e1 := lend1 hs hz1 h1 (G := G) (fun b hb => hG b (Gof_mono (fun _ h => h) (fun h => by simp [h]) b hb)) (fun k hk => hF k (List.mem_append_left _ hk))
          have e2 := ((e1.to' hx).cell hc.1 hc.2).1
          have e3 := aggF_ok hs b l r hz2 h2 (fun b hb => hG b (Gof_mono (fun _ h => h) (fun h => by simp [h]) b hb)) (fun k hk => hF k (List.mem_append_right _ hk))
          exact .pair a b x y2 [v] r e2 e3
        · cases ha
      · cases ha
    · cases ha
  | .unit, [], vs, tn, y, hz, ha, hG, hF => by
    simp only [SlotsR] at hz
    subst hz
    exact .unit
  | .pair _ _, [], _, _, _, _, ha, _, _ => by simp [aggF] at ha
  | .unit, _ :: _, _, _, _, _, ha, _, _ => by simp [aggF] at ha
  | .int _, _, _, _, _, _, ha, _, _ => by simp [aggF] at ha
  | .bool, _, _, _, _, _, ha, _, _ => by simp [aggF] at ha
  | .str, _, _, _, _, _, ha, _, _ => by simp [aggF] at ha
  | .sl _, _, _, _, _, _, ha, _, _ => by simp [aggF] at ha
  | .ap _, _, _, _, _, _, ha, _, _ => by simp [aggF] at ha
/-- What a slot says, as data in what may be looked at: what is its own must be, too. -/
theorem lend_ok (hs : ∀ k, ObR w Gs Gb hd s.ob (hd k) (fp k) (s.ob.getD k .none)) {z : Slot} {v : Value} (hz : SlotR w Gs Gb hd s.ob z v) {tn : Bool} {q : PV} (hq : dataV (viewZ s z) = some (tn, q)) {G : BS}
    (hG : ∀ b, Gof Gs Gb tn b → G b) (hF : ∀ k ∈ (pubM (viewZ s z)).map (·.1), ∀ b, fp k b → G b) : VRep w G q.t q.x v := by
  by_cases hzz : ∃ t l, z = .agg t l
  · obtain ⟨t, l, rfl⟩ := hzz
    simp only [dataV, viewZ, obsOf] at hq
    simp only [pubM, viewZ, obsOf] at hF
    split at hq
    · rename_i tn' y hy
      split at hq
      · rename_i hag
        cases hq
        simp only [SlotR] at hz
        obtain ⟨vs, rfl, _, h3⟩ := hz
        exact ⟨vs, RepC.fo (aggF_ok hs (under t) l vs h3 hy hG hF), by rw [if_pos hag]⟩
      · cases hq
    · cases hq
  · have hq' : data1 z (obOf s z) = some (tn, q) := by
      cases z with
      | agg t l => exact absurd ⟨t, l, rfl⟩ hzz
      | _ => exact hq
    refine lend1 hs hz hq' hG (fun k hk => hF k ?_)
    cases z with
    | agg t l => exact absurd ⟨t, l, rfl⟩ hzz
    | _ => exact hk
theorem ownL_pub : ∀ {l : List Slot} {bs : List Ob}, ownL l bs = false → pubL l bs = []
  | z :: l, o :: bs, h => by
    simp only [ownL, Bool.or_eq_false_iff] at h
    simp only [pubL, ownL_pub h.2, List.append_nil]
    exact own1_pub h.1
  | [], _, _ => by simp [pubL]
  | _ :: _, [], _ => by simp [pubL]
theorem own_pub {v : V} (h : isOwn v = false) : pubM v = [] := by
  unfold isOwn at h
  unfold pubM
  split at h
  · exact ownL_pub h
  · exact own1_pub h
theorem data_ok (hs : ∀ k, ObR w Gs Gb hd s.ob (hd k) (fp k) (s.ob.getD k .none)) {z : Slot} {v : Value} (hz : SlotR w Gs Gb hd s.ob z v) {tn : Bool} {p : PV} (hd' : dataV (viewZ s z) = some (tn, p)) :
    DataR w (Gof Gs Gb tn) (fun b => Gof Gs Gb tn b ∨ ∃ k, fp k b) v p ∧ (isOwn (viewZ s z) = false → VRep w (Gof Gs Gb tn) p.t p.x v) := by
  refine ⟨?_, fun ho => lend_ok hs hz hd' (fun _ h => h) (fun k hk => by rw [own_pub ho] at hk; simp at hk)⟩
  by_cases hzz : ∃ t l, z = .agg t l
  · have h1 := lend_ok hs hz hd' (G := fun b => Gof Gs Gb tn b ∨ ∃ k, fp k b) (fun _ h => .inl h) (fun k _ b hb => .inr ⟨k, hb⟩)
    obtain ⟨t, l, rfl⟩ := hzz
    simp only [dataV, viewZ, obsOf] at hd'
    split at hd'
    · split at hd'
      · rename_i hag
        cases hd'
        cases t with
        | sl e => simp [isAggT] at hag
        | _ => exact h1
      · cases hd'
    · cases hd'
  · have hq' : data1 z (obOf s z) = some (tn, p) := by
      cases z with
      | agg t l => exact absurd ⟨t, l, rfl⟩ hzz
      | _ => exact hd'
    exact (data1_ok hs hz hq').1
theorem view_data (h : Inv N w0 Mv Gb Gs hd fp s a w) (o : Option Ty × Operand) {tn : Bool} {p : PV} (hd' : dataV (view s o) = some (tn, p)) :
    DataR w (Gof Gs Gb tn) (fun b => Gof Gs Gb tn b ∨ ∃ k, fp k b) (a.eval o.2) p ∧ (isOwn (view s o) = false → VRep w (Gof Gs Gb tn) p.t p.x (a.eval o.2)) :=
  data_ok h.obs (rd_ok h o.1 o.2) hd'
theorem view_int (h : Inv N w0 Mv Gb Gs hd fp s a w) (o : Option Ty × Operand) {n : Int} (hn : intV (view s o) = some n) : ∃ k, a.eval o.2 = .int k n := by
  unfold intV at hn
  split at hn
  · rename_i b k n' hd'
    cases hn
    obtain ⟨h1, _⟩ := view_data h o hd'
    obtain ⟨cs, h2, h3⟩ := h1
    rw [h2.of_int] at h3
    exact ⟨k, by simpa [isAggT] using h3⟩
  · cases hn

/-! ### Publishing -/
def pubZ (s : St) (l : List Slot) : St := ⟨s.sl, modOb s.ob ((l.map (viewZ s)).flatMap pubM)⟩
def pubS (s : St) (l : List (Option Ty × Operand)) : St := ⟨s.sl, modOb s.ob ((l.map (view s)).flatMap pubM)⟩
theorem pubS_z (s : St) (l : List (Option Ty × Operand)) : pubS s l = pubZ s (l.map fun o => rd s o.1 o.2) := by
  unfold pubS pubZ
  rw [List.map_map]
  rfl
theorem modOb_append (l : List Ob) (m r : List (Nat × Ob)) : modOb l (m ++ r) = modOb (modOb l r) m := by
  induction m with
  | nil => rfl
  | cons x m ih => obtain ⟨k, b⟩ := x; simp [modOb, ih]
def PubOk (s : St) (m : List (Nat × Ob)) : Prop := ∀ kb ∈ m, ∃ tn nx e x, s.ob.getD kb.1 .none = .sl tn nx e x ∧ kb.2 = .pubd tn nx e x
theorem pub_mods (h : Inv N w0 Mv Gb Gs hd fp s a w) : ∀ m : List (Nat × Ob), PubOk s m → ∃ Gs' fp', Inv N w0 Mv Gb Gs' hd fp' ⟨s.sl, modOb s.ob m⟩ a w ∧ (∀ b, Gs b → Gs' b) ∧
    (∀ k, (modOb s.ob m).getD k .none = s.ob.getD k .none ∧ fp' k = fp k ∨ ∃ tn nx e x, s.ob.getD k .none = .sl tn nx e x ∧ (modOb s.ob m).getD k .none = .pubd tn nx e x) ∧
    (∀ kb ∈ m, (modOb s.ob m).getD kb.1 .none = kb.2) ∧ (∀ k, (modOb s.ob m).getD k .gone = .none ↔ s.ob.getD k .gone = .none)
  | [], _ => ⟨Gs, fp, h, fun _ h => h, fun k => .inl ⟨rfl, rfl⟩, fun o ho => by simp at ho, fun k => Iff.rfl⟩
  | (k, b) :: m, hp => by
    obtain ⟨Gs1, fp1, h1, h2, h3, h4, h5⟩ := pub_mods h m (fun kb hk => hp kb (by simp [hk]))
    obtain ⟨tn, nx, e, x, hb, rfl⟩ := hp (k, b) (by simp)
    simp only at hb
    have hlt : k < (modOb s.ob m).length := by
      rcases Nat.lt_or_ge k (modOb s.ob m).length with h | h
      · exact h
      · rcases h3 k with ⟨h6, _⟩ | ⟨_, _, _, _, _, h6⟩
        · rw [hb, List.getD_eq_getElem?_getD, List.getElem?_eq_none h] at h6; cases h6
        · rw [List.getD_eq_getElem?_getD, List.getElem?_eq_none h] at h6; cases h6
    simp only [modOb]
    rcases h3 k with ⟨h6, h7⟩ | ⟨tn', nx', e', x', h6, h7⟩
    · rw [hb] at h6
      have hq := h1.pubKey h6
      refine ⟨_, _, hq, fun b hb => Or.inl (h2 b hb), fun j => ?_, fun kb hkb => ?_, fun j => ?_⟩
      · by_cases hj : j = k
        · subst hj; right; exact ⟨tn, nx, e, x, hb, by rw [getD_set_self, if_pos hlt]⟩
        · rw [getD_set_ne' _ _ _ hj, upd_ne _ _ hj]; exact h3 j
      · rcases List.mem_cons.1 hkb with rfl | hkb
        · rw [getD_set_self, if_pos hlt]
        · by_cases hjk : kb.1 = k
          · obtain ⟨t1, t2, t3, t4, t5, t6⟩ := hp kb (by simp [hkb])
            rw [hjk, hb] at t5
            cases t5
            rw [hjk, getD_set_self, if_pos hlt, t6]
          · rw [getD_set_ne' _ _ _ hjk]; exact h4 kb hkb
      · by_cases hj : j = k
        · subst hj
          rw [getD_set_self, if_pos hlt]
          have : s.ob.getD j .gone = .sl tn nx e x := by
            rcases Nat.lt_or_ge j s.ob.length with h | h
            · rw [List.getD_eq_getElem?_getD, List.getElem?_eq_getElem h] at hb ⊢; exact hb
            · rw [List.getD_eq_getElem?_getD, List.getElem?_eq_none h] at hb; cases hb
          rw [this]; simp
        · rw [getD_set_ne' _ _ _ hj]; exact h5 j
    · have hsame : (modOb s.ob m).set k (.pubd tn nx e x) = modOb s.ob m := by
        rw [hb] at h6
        cases h6
        apply List.ext_getElem?
        intro j
        rw [List.getElem?_set]
        split
        · rename_i hj
          subst hj
          rw [List.getElem?_eq_getElem hlt]
          rw [List.getD_eq_getElem?_getD, List.getElem?_eq_getElem hlt] at h7
          simpa using h7.symm
        · rfl
      rw [hsame]
      refine ⟨Gs1, fp1, h1, h2, h3, fun kb hkb => ?_, h5⟩
      rcases List.mem_cons.1 hkb with rfl | hkb
      · rw [hb] at h6; cases h6; exact h7
      · exact h4 kb hkb
theorem pub1_ok {z : Slot} {kb : Nat × Ob} (h : kb ∈ pub1 z (obOf s z)) : own1 z (obOf s z) = true ∧ keyOf z = some kb.1 ∧ ∃ tn nx e x, s.ob.getD kb.1 .none = .sl tn nx e x ∧ kb.2 = .pubd tn nx e x := by
  cases z with
  | ref k =>
    simp only [obOf, keyOf] at h ⊢
    cases hb : s.ob.getD k .none with
    | sl tn nx e x =>
      rw [hb] at h
      simp only [pub1, List.mem_cons, List.not_mem_nil, or_false] at h
      subst h
      exact ⟨rfl, rfl, tn, nx, e, x, hb, rfl⟩
    | _ => rw [hb] at h; simp [pub1] at h
  | vw k lo hi =>
    simp only [obOf, keyOf] at h ⊢
    cases hb : s.ob.getD k .none with
    | sl tn nx e x =>
      rw [hb] at h
      simp only [pub1, List.mem_cons, List.not_mem_nil, or_false] at h
      subst h
      exact ⟨rfl, rfl, tn, nx, e, x, hb, rfl⟩
    | _ => rw [hb] at h; simp [pub1] at h
  | _ => simp [pub1] at h
theorem pubL_ok : ∀ {l : List Slot} {kb : Nat × Ob}, kb ∈ pubL l (l.map (obOf s)) → ∃ z ∈ l, kb ∈ pub1 z (obOf s z)
  | z :: l, kb, h => by
    simp only [List.map_cons, pubL] at h
    rcases List.mem_append.1 h with h | h
    · exact ⟨z, by simp, h⟩
    · obtain ⟨z', h1, h2⟩ := pubL_ok h; exact ⟨z', by simp [h1], h2⟩
  | [], kb, h => by simp [pubL] at h
theorem pubM_ok {z : Slot} {kb : Nat × Ob} (h : kb ∈ pubM (viewZ s z)) : ∃ tn nx e x, s.ob.getD kb.1 .none = .sl tn nx e x ∧ kb.2 = .pubd tn nx e x := by
  cases z with
  | agg t l =>
    obtain ⟨z', _, h2⟩ := pubL_ok (s := s) (l := l) (by simpa [pubM, viewZ, obsOf] using h)
    exact (pub1_ok h2).2.2
  | ref k => exact (pub1_ok (z := .ref k) h).2.2
  | vw k lo hi => exact (pub1_ok (z := .vw k lo hi) h).2.2
  | _ => simp [pubM, pub1, viewZ] at h
/-- What is published reads as before. -/
theorem data1_pub {z : Slot} {b b' : Ob} (h : b' = b ∨ ∃ tn nx e x, b = .sl tn nx e x ∧ b' = .pubd tn nx e x) : data1 z b' = data1 z b := by
  rcases h with rfl | ⟨tn, nx, e, x, rfl, rfl⟩
  · rfl
  · cases z <;> rfl
theorem aggF_pub : ∀ {t : Ty} {l : List Slot} {f g : Slot → Ob}, (∀ z ∈ l, data1 z (f z) = data1 z (g z)) → aggF t l (l.map f) = aggF t l (l.map g)
  | .pair a b, z :: l, f, g, h => by
    simp only [List.map_cons, aggF, h z (by simp)]
    rw [aggF_pub (t := b) (l := l) (f := f) (g := g) (fun z hz => h z (by simp [hz]))]
  | .unit, [], _, _, _ => rfl
  | .pair _ _, [], _, _, _ => rfl
  | .unit, _ :: _, _, _, _ => rfl
  | .int _, _, _, _, _ => by simp [aggF]
  | .bool, _, _, _, _ => by simp [aggF]
  | .str, _, _, _, _ => by simp [aggF]
  | .sl _, _, _, _, _ => by simp [aggF]
  | .ap _, _, _, _, _ => by simp [aggF]
  | .err, _, _, _, _ => by simp [aggF]
theorem ownL_false : ∀ {l : List Slot} {f : Slot → Ob}, (∀ z ∈ l, own1 z (f z) = false) → ownL l (l.map f) = false
  | z :: l, f, h => by simp only [List.map_cons, ownL, h z (by simp), Bool.false_or]; exact ownL_false (fun z hz => h z (by simp [hz]))
  | [], _, _ => rfl
/-- Behind the publishing every slot is shared data. -/
theorem pub_dataZ (h : Inv N w0 Mv Gb Gs hd fp s a w) (l : List Slot) : ∃ Gs' fp', Inv N w0 Mv Gb Gs' hd fp' (pubZ s l) a w ∧ (∀ b, Gs b → Gs' b) ∧
    (∀ z ∈ l, ∀ v, SlotR w Gs' Gb hd (pubZ s l).ob z v → ∀ tn p, dataV (viewZ s z) = some (tn, p) → VRep w (Gof Gs' Gb tn) p.t p.x v) ∧ (∀ k, (pubZ s l).ob.getD k .gone = .none ↔ s.ob.getD k .gone = .none) ∧
    (∀ k, (pubZ s l).ob.getD k .none = s.ob.getD k .none ∧ fp' k = fp k ∨ ∃ tn nx e x, s.ob.getD k .none = .sl tn nx e x ∧ (pubZ s l).ob.getD k .none = .pubd tn nx e x) := by
  have hPub : PubOk s ((l.map (viewZ s)).flatMap pubM) := by
    intro kb hkb
    rw [List.mem_flatMap] at hkb
    obtain ⟨v, hv, hkb⟩ := hkb
    obtain ⟨z, _, rfl⟩ := List.mem_map.1 hv
    exact pubM_ok hkb
  obtain ⟨Gs1, fp1, h1, h2, h3, h4, h5⟩ := pub_mods h _ hPub
  refine ⟨Gs1, fp1, h1, h2, fun z hz v hzv' tn p hp => ?_, h5, h3⟩
  have hsub : ∀ kb ∈ pubM (viewZ s z), (pubZ s l).ob.getD kb.1 .none = kb.2 := fun kb hkb => h4 kb (List.mem_flatMap.2 ⟨_, List.mem_map.2 ⟨z, hz, rfl⟩, hkb⟩)
  have key : ∀ z' : Slot, (∀ kb ∈ pub1 z' (obOf s z'), (pubZ s l).ob.getD kb.1 .none = kb.2) → data1 z' (obOf (pubZ s l) z') = data1 z' (obOf s z') ∧ own1 z' (obOf (pubZ s l) z') = false := by
    intro z' hsub'
    have e1 : obOf (pubZ s l) z' = obOf s z' ∨ ∃ tn nx e x, obOf s z' = .sl tn nx e x ∧ obOf (pubZ s l) z' = .pubd tn nx e x := by
      unfold obOf
      cases keyOf z' with
      | none => exact .inl rfl
      | some k => rcases h3 k with ⟨h6, _⟩ | h6
                  · exact .inl h6
                  · exact .inr h6
    refine ⟨data1_pub e1, ?_⟩
    rcases e1 with e1 | ⟨t1, t2, t3, t4, e1, e2⟩
    · by_cases ho : own1 z' (obOf s z') = true
      · exfalso
        obtain ⟨kb, hkb⟩ := own1_key ho
        obtain ⟨_, g1, t1, t2, t3, t4, g2, g3⟩ := pub1_ok hkb
        have g4 := hsub' kb hkb
        simp only [obOf, g1] at e1
        rw [g4, g2, g3] at e1
        cases e1
      · rw [e1]; simpa using ho
    · rw [e2]; cases z' <;> rfl
  have e3 : dataV (viewZ (pubZ s l) z) = some (tn, p) ∧ isOwn (viewZ (pubZ s l) z) = false := by
    cases z with
    | agg t ll =>
      simp only [pubM, viewZ, obsOf] at hsub
      have hall : ∀ z' ∈ ll, data1 z' (obOf (pubZ s l) z') = data1 z' (obOf s z') ∧ own1 z' (obOf (pubZ s l) z') = false := fun z' hz' => key z' (fun kb hkb => hsub kb (memL hz' hkb))
      refine ⟨?_, ?_⟩
      · rw [← hp]
        simp only [dataV, viewZ, obsOf]
        rw [aggF_pub (t := under t) (f := obOf (pubZ s l)) (g := obOf s) (fun z' hz' => (hall z' hz').1)]
      · simp only [isOwn, viewZ, obsOf]
        exact ownL_false (fun z' hz' => (hall z' hz').2)
    | _ =>
      simp only [pubM, viewZ] at hsub
      have := key _ hsub
      simp only [dataV, isOwn, viewZ] at hp ⊢
      rw [this.1]
      exact ⟨hp, this.2⟩
  exact (data_ok h1.obs hzv' e3.1).2 e3.2
where
  memL : ∀ {ll : List Slot} {z' : Slot} {kb : Nat × Ob}, z' ∈ ll → kb ∈ pub1 z' (obOf s z') → kb ∈ pubL ll (ll.map (obOf s))
    | z :: ll, z', kb, h, h2 => by
      simp only [List.map_cons, pubL]
      rcases List.mem_cons.1 h with rfl | h
      · exact List.mem_append_left _ h2
      · exact List.mem_append_right _ (memL h h2)
/-- Behind the publishing every operand is shared data. -/
theorem pub_data (h : Inv N w0 Mv Gb Gs hd fp s a w) (l : List (Option Ty × Operand)) : ∃ Gs' fp', Inv N w0 Mv Gb Gs' hd fp' (pubS s l) a w ∧ (∀ b, Gs b → Gs' b) ∧
    (∀ o ∈ l, ∀ tn p, dataV (view s o) = some (tn, p) → VRep w (Gof Gs' Gb tn) p.t p.x (a.eval o.2)) ∧ (∀ k, (pubS s l).ob.getD k .gone = .none ↔ s.ob.getD k .gone = .none) ∧
    (∀ k, (pubS s l).ob.getD k .none = s.ob.getD k .none ∧ fp' k = fp k ∨ ∃ tn nx e x, s.ob.getD k .none = .sl tn nx e x ∧ (pubS s l).ob.getD k .none = .pubd tn nx e x) := by
  rw [pubS_z]
  obtain ⟨Gs1, fp1, h1, h2, h3, h4, h5⟩ := pub_dataZ h (l.map fun o => rd s o.1 o.2)
  exact ⟨Gs1, fp1, h1, h2, fun o ho tn p hp => h3 _ (List.mem_map.2 ⟨o, ho, rfl⟩) _ (rd_ok h1 o.1 o.2) tn p hp, h4, h5⟩
end Go.Proofs.YtkgpkalclblhbaaGreatDoor.Eng
