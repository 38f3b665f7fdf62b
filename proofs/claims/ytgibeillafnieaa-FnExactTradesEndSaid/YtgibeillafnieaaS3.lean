/-
  What the types' table must hold, and what operands read as.
-/
import Derived.Test.YtgibeillafnieaaS2
namespace Go.Proofs.Ytgibeillafnieaa.Eng
open Go Go.RowKit
set_option linter.unusedVariables false
set_option linter.unusedSimpArgs false

def zeroCNT : Nat → List Value
  | 0 => [.int .i64 0, .slice none 0 0]
  | 1 => [.slice none 0 0]
  | 2 => [.slice none 0 0, .slice none 0 0]
  | 3 => [.int .i64 0, .int .i64 0]
  | 4 => [.slice none 0 0, .int .i64 0, .slice none 0 0, .slice none 0 0]
  | _ => []
def zeroC : Ty → List Value
  | .int k => [.int k 0]
  | .bool => [.bool false]
  | .str => [.string ByteArray.empty]
  | .unit => []
  | .sl _ => [.slice none 0 0]
  | .pair a b => zeroC a ++ zeroC b
  | .ap i => zeroCNT i
def zeroV (t : Ty) : Value := if isAggT t then .agg (zeroC t).toArray else (zeroC t).getD 0 undef
theorem zeroRep (w : World) (G : BS) : ∀ t, RepC w G t (zeroD t) (zeroC t)
  | .int k => .int k 0
  | .bool => .bool false
  | .str => .str ByteArray.empty
  | .unit => .unit
  | .sl e => .nil e
  | .pair a b => .pair a b _ _ _ _ (zeroRep w G a) (zeroRep w G b)
  | .ap 0 => .ap 0 _ _ (.pair _ _ _ _ [_] [_] (.int _ _) (.pair _ _ _ _ [_] [] (.nil _) .unit))
  | .ap 1 => .ap 1 _ _ (.nil _)
  | .ap 2 => .ap 2 _ _ (.pair _ _ _ _ [_] [_] (.nil _) (.pair _ _ _ _ [_] [] (.nil _) .unit))
  | .ap 3 => .ap 3 _ _ (.pair _ _ _ _ [_] [_] (.int _ _) (.pair _ _ _ _ [_] [] (.int _ _) .unit))
  | .ap 4 => .ap 4 _ _ (.pair _ _ _ _ [_] [_, _, _] (.nil _) (.pair _ _ _ _ [_] [_, _] (.int _ _) (.pair _ _ _ _ [_] [_] (.nil _) (.pair _ _ _ _ [_] [] (.nil _) .unit))))
  | .ap (n + 5) => .ap (n + 5) _ _ .unit

/-- Two types of which one is the other's meaning. -/
def Same (t u : Ty) : Prop := t = u ∨ t = under u
theorem sz_under (t : Ty) : sz (under t) = sz t := by
  cases t <;> first | rfl | exact sz_unf _
theorem Same.sz {t u : Ty} (h : Same t u) : sz t = sz u := by rcases h with rfl | rfl; rfl; exact sz_under u

section facts
variable (P : Program) (T : Tab)
def FieldsOk : List Field → Nat → Ty → Prop
  | [], _, .unit => True
  | f :: fs, off, .pair a b => f.offset = off ∧ (∃ u, T.ty f.type = some u ∧ Same u a) ∧ FieldsOk fs (off + sz a) b
  | _, _, _ => False
def DescOk : TypeDesc → Ty → Prop
  | .int k, .int j => k = j
  | .bool, .bool => True
  | .string, .str => True
  | .slice e, .sl u => ∃ u', T.ty e = some u' ∧ Same u' u
  | .struct fs, t => isAggT t = true ∧ FieldsOk T fs.toList 0 (under t)
  | _, _ => False
structure TyFacts (tid : TypeId) (t : Ty) : Prop where
  info : ∃ i, P.info? tid = some i ∧ i.size = sz t ∧ i.bytes ≤ 128 ∧ i.zero = some (zeroV t)
  small : sz t ≤ 100
  desc : ∃ d, P.underlying tid = some d ∧ DescOk T d t
def TabOk : Prop := ∀ tid t, T.ty tid = some t → TyFacts P T tid t
end facts

/-! ### Rows that are read -/
/-- A row: where it lies ('B'), and what its places mean ('G'). -/
def RowR (w : World) (G B : BS) (e : Ty) (x : List (Den e)) (v : Value) : Prop :=
  ((∃ oa, v = .slice oa 0 0) ∧ x = []) ∨ ∃ b o cap cs, x.length ≤ cap ∧ B b ∧ RepL w G e x cs ∧ w.rangeAt b o cs ∧ v = .slice (some ⟨b, o, none⟩) x.length cap
theorem RowR.toV {w : World} {G : BS} {e : Ty} {x : List (Den e)} {v : Value} (h : RowR w G G e x v) : VRep w G (.sl e) x v := by
  rcases h with ⟨⟨oa, rfl⟩, rfl⟩ | ⟨b, o, cap, cs, h1, h2, h3, h4, rfl⟩
  · exact .mkNil e
  · exact .mkSl h1 h2 h3 h4
theorem VRep.row {w : World} {G : BS} {e : Ty} {x : List (Den e)} {v : Value} (h : VRep w G (.sl e) x v) : RowR w G G e x v := by
  rcases h.nilIff with ⟨h1, h2⟩ | ⟨b, o, cap, cs, h1, h2, h3, h4, h5⟩
  · exact .inl ⟨h2, h1⟩
  · exact .inr ⟨b, o, cap, cs, h1, h2, h3, h4, h5⟩
theorem OwnRow.row {w : World} {G fp : BS} {e : Ty} {x : List (Den e)} {v : Value} (h : OwnRow w G e x v fp) : RowR w G fp e x v := by
  rcases h with h | ⟨b, o, cap, cs, h1, h2, h3, h4, h5, h6⟩
  · exact .inl ⟨⟨none, h.1⟩, h.2⟩
  · exact .inr ⟨b, o, cap, cs, h2, h3, h4, h5, h1⟩
theorem RowR.len {w : World} {G B : BS} {e : Ty} {x : List (Den e)} {v : Value} (h : RowR w G B e x v) : ∃ a cap, v = .slice a x.length cap ∧ x.length ≤ cap := by
  rcases h with ⟨⟨oa, rfl⟩, rfl⟩ | ⟨b, o, cap, cs, h1, h2, h3, h4, rfl⟩
  · exact ⟨oa, 0, rfl, Nat.le_refl _⟩
  · exact ⟨_, cap, rfl, h1⟩
theorem RowR.mono {w : World} {G G' B B' : BS} {e : Ty} {x : List (Den e)} {v : Value} (h : RowR w G B e x v) (hg : ∀ b, G b → G' b) (hb : ∀ b, B b → B' b) : RowR w G' B' e x v := by
  rcases h with h | ⟨b, o, cap, cs, h1, h2, h3, h4, rfl⟩
  · exact .inl h
  · exact .inr ⟨b, o, cap, cs, h1, hb b h2, h3.move hg (fun _ _ => rfl), h4, rfl⟩
theorem RowR.move {w w' : World} {G G' B B' : BS} {e : Ty} {x : List (Den e)} {v : Value} (h : RowR w G B e x v) (hg : ∀ b, G b → G' b) (hb : ∀ b, B b → B' b) (hh : ∀ b, G b ∨ B b → w'.heap[b]? = w.heap[b]?) : RowR w' G' B' e x v := by
  rcases h with h | ⟨b, o, cap, cs, h1, h2, h3, h4, rfl⟩
  · exact .inl h
  · exact .inr ⟨b, o, cap, cs, h1, hb b h2, h3.move hg (fun b h => hh b (.inl h)), fun j u hu => (World.cell?_of_block (a := ⟨b, o + j, none⟩) (hh b (.inr h2))).trans (h4 j u hu), rfl⟩
theorem rangeAt_drop {w : World} {b o : Nat} {cs : List Value} (h : w.rangeAt b o cs) (n : Nat) : w.rangeAt b (o + n) (cs.drop n) := fun j v hv => by
  have := h (n + j) v (by simpa [List.getElem?_drop] using hv)
  rwa [show o + n + j = o + (n + j) by omega]
theorem rangeAt_take {w : World} {b o : Nat} {cs : List Value} (h : w.rangeAt b o cs) (n : Nat) : w.rangeAt b o (cs.take n) := fun j v hv => by
  rw [List.getElem?_take] at hv
  split at hv
  · exact h j v hv
  · cases hv
/-- A part of a row. -/
theorem RowR.sub {w : World} {G B : BS} {e : Ty} {x : List (Den e)} {a : Option Addr} {n cap : Nat} (h : RowR w G B e x (.slice a n cap)) {lo hi : Nat} (h1 : lo ≤ hi) (h2 : hi ≤ n) :
    RowR w G B e ((x.take hi).drop lo) (.slice (if cap = lo then a else a.map (·.add (lo * sz e))) (hi - lo) (cap - lo)) := by
  rcases h with ⟨⟨oa, h⟩, rfl⟩ | ⟨b, o, cap', cs, g1, g2, g3, g4, h⟩
  · cases h
    obtain rfl : hi = 0 := by omega
    obtain rfl : lo = 0 := by omega
    exact .inl ⟨⟨a, by simp⟩, by simp⟩
  · cases h
    have hl : ((x.take hi).drop lo).length = hi - lo := by simp; omega
    refine .inr ⟨b, if cap = lo then o else o + lo * sz e, cap - lo, (cs.take (hi * sz e)).drop (lo * sz e), by omega, g2, (g3.take hi).drop lo, ?_, ?_⟩
    · split
      · rename_i hc
        have : (cs.take (hi * sz e)).drop (lo * sz e) = [] := by
          have : hi = lo := by omega
          subst this
          simp
        rw [this]
        intro j v hv; simp at hv
      · exact rangeAt_drop (rangeAt_take g4 _) _
    · rw [hl]
      split
      · rfl
      · simp [Addr.add_mid]
def DataR (w : World) (G B : BS) (v : Value) : PV → Prop
  | ⟨.sl e, x⟩ => RowR w G B e x v
  | ⟨t, x⟩ => VRep w G t x v

variable {P : Program} {T : Tab} {N : Nat} {w0 : World} {Mv : Mvp} {Gb Gs : BS} {hd : Nat → Value} {fp : Nat → BS} {s : St} {a : Act} {w w' : World}

theorem constSlot_ok (t : Option Ty) (v : Value) (ob : List Ob) : SlotR w Gs Gb hd ob (constSlot t v) v := by
  unfold constSlot
  split
  · simp only [SlotR]
  · simp only [SlotR]; exact ⟨_, .int _ _, by simp [isAggT]⟩
  · simp only [SlotR]; exact ⟨_, .str _, by simp [isAggT]⟩
  · split <;> simp only [SlotR]
  · simp only [SlotR]
theorem rd_ok (h : Inv N w0 Mv Gb Gs hd fp s a w) (t : Option Ty) (x : Operand) : SlotR w Gs Gb hd s.ob (rd s t x) (a.eval x) := by
  cases x with
  | tmp i => exact h.slots i
  | const v => exact constSlot_ok t v s.ob
  | global g => simp only [rd, SlotR]
  | func f => simp only [rd, SlotR]
/-- What a slot and what lies under its key say of a value. -/
theorem data_ok (hs : ∀ k, ObR w Gs Gb (hd k) (fp k) (s.ob.getD k .none)) {z : Slot} {v : Value} (hz : SlotR w Gs Gb hd s.ob z v) {tn : Bool} {p : PV} (hd' : dataV ⟨z, obOf s z⟩ = some (tn, p)) :
    DataR w (Gof Gs Gb tn) (fun b => Gof Gs Gb tn b ∨ ∃ k, fp k b) v p ∧ (isOwn ⟨z, obOf s z⟩ = false → VRep w (Gof Gs Gb tn) p.t p.x v) := by
  have hV : ∀ {t : Ty} {x : Den t}, VRep w (Gof Gs Gb tn) t x v → DataR w (Gof Gs Gb tn) (fun b => Gof Gs Gb tn b ∨ ∃ k, fp k b) v ⟨t, x⟩ := by
    intro t x h
    cases t with
    | sl e => exact h.row.mono (fun _ h => h) (fun _ h => .inl h)
    | _ => exact h
  unfold dataV at hd'
  split at hd'
  · rename_i b h; cases hd'; simp only at h; subst h; simp only [SlotR] at hz; subst hz
    have : VRep w (Gof Gs Gb false) .bool b (.bool b) := ⟨_, .bool b, by simp [isAggT]⟩
    exact ⟨hV this, fun _ => this⟩
  · rename_i tn' t x h; cases hd'; simp only at h; subst h; simp only [SlotR] at hz
    exact ⟨hV hz, fun _ => hz⟩
  · rename_i e h; cases hd'; simp only at h; subst h; simp only [SlotR] at hz; subst hz
    exact ⟨hV (.mkNil e), fun _ => .mkNil e⟩
  · rename_i tn' e x h; cases hd'; simp only at h; subst h; simp only [SlotR] at hz
    exact ⟨hV hz.1, fun _ => hz.1⟩
  · rename_i tn' e x h; cases hd'; simp only at h; subst h; simp only [SlotR] at hz
    exact ⟨hV hz.1, fun _ => hz.1⟩
  · rename_i k h; simp only at h; subst h
    simp only [SlotR] at hz
    obtain ⟨_, rfl⟩ := hz
    have h0 := hs k
    simp only [obOf, keyOf] at hd' ⊢
    split at hd'
    · rename_i tn' nx e x hb; cases hd'
      rw [hb] at h0 ⊢
      exact ⟨h0.1.row.mono (fun _ h => h) (fun b h => .inr ⟨k, h⟩), fun h => by simp [isOwn] at h⟩
    · rename_i tn' nx e x hb; cases hd'
      rw [hb] at h0 ⊢
      exact ⟨hV h0.1, fun _ => h0.1⟩
    · cases hd'
  · rename_i k lo hi h; simp only at h; subst h
    simp only [SlotR] at hz
    obtain ⟨_, hz⟩ := hz
    have h0 := hs k
    simp only [obOf, keyOf] at hd' ⊢
    split at hd'
    · rename_i tn' nx e x hb; cases hd'
      rw [hb] at h0 hz ⊢
      obtain ⟨a', n, cap, e1, e2, e3, rfl⟩ := hz e rfl
      refine ⟨?_, fun h => by simp [isOwn] at h⟩
      have h1 := h0.1.row
      rw [e1] at h1
      exact (h1.sub e2 e3).mono (fun _ h => h) (fun b h => .inr ⟨k, h⟩)
    · rename_i tn' nx e x hb; cases hd'
      rw [hb] at h0 hz ⊢
      obtain ⟨a', n, cap, e1, e2, e3, rfl⟩ := hz e rfl
      have h1 := h0.1.row
      rw [e1] at h1
      have h2 := (h1.sub e2 e3).toV
      exact ⟨hV h2, fun _ => h2⟩
    · cases hd'
  · cases hd'
theorem view_data (h : Inv N w0 Mv Gb Gs hd fp s a w) (o : Option Ty × Operand) {tn : Bool} {p : PV} (hd' : dataV (view s o) = some (tn, p)) :
    DataR w (Gof Gs Gb tn) (fun b => Gof Gs Gb tn b ∨ ∃ k, fp k b) (a.eval o.2) p ∧ (isOwn (view s o) = false → VRep w (Gof Gs Gb tn) p.t p.x (a.eval o.2)) :=
  data_ok h.obs (rd_ok h o.1 o.2) hd'
theorem view_int (h : Inv N w0 Mv Gb Gs hd fp s a w) (o : Option Ty × Operand) {n : Int} (hn : intV (view s o) = some n) : ∃ k, a.eval o.2 = .int k n := by
  unfold intV at hn
  split at hn
  · rename_i b k n' hd'
    cases hn
    obtain ⟨h1, _⟩ := view_data h o hd'
    obtain ⟨cs, h2, h3⟩ := h1
    rw [h2.of_int] at h3
    exact ⟨k, by simpa [isAggT] using h3⟩
  · cases hn

/-! ### Publishing -/
def pubS (s : St) (l : List (Option Ty × Operand)) : St := ⟨s.sl, modOb s.ob ((l.map (view s)).flatMap pubM)⟩
theorem modOb_append (l : List Ob) (m r : List (Nat × Ob)) : modOb l (m ++ r) = modOb (modOb l r) m := by
  induction m with
  | nil => rfl
  | cons x m ih => obtain ⟨k, b⟩ := x; simp [modOb, ih]
theorem pub_all (h : Inv N w0 Mv Gb Gs hd fp s a w) : ∀ l : List (Option Ty × Operand), ∃ Gs' fp', Inv N w0 Mv Gb Gs' hd fp' (pubS s l) a w ∧ (∀ b, Gs b → Gs' b) ∧
    (∀ k, (pubS s l).ob.getD k .none = s.ob.getD k .none ∧ fp' k = fp k ∨ ∃ tn nx e x, s.ob.getD k .none = .sl tn nx e x ∧ (pubS s l).ob.getD k .none = .pubd tn nx e x) ∧
    (∀ o ∈ l, isOwn (view s o) = true → ∃ k, keyOf (rd s o.1 o.2) = some k ∧ ∃ tn nx e x, s.ob.getD k .none = .sl tn nx e x ∧ (pubS s l).ob.getD k .none = .pubd tn nx e x) ∧ (∀ k, (pubS s l).ob.getD k .gone = .none ↔ s.ob.getD k .gone = .none)
  | [] => ⟨Gs, fp, h, fun _ h => h, fun k => .inl ⟨rfl, rfl⟩, fun o ho => by simp at ho, fun k => Iff.rfl⟩
  | o :: l => by
    obtain ⟨Gs1, fp1, h1, h2, h3, h4, h5⟩ := pub_all h l
    have hsl : (pubS s (o :: l)).sl = (pubS s l).sl := rfl
    have hob : (pubS s (o :: l)).ob = modOb (pubS s l).ob (pubM (view s o)) := by simp [pubS, modOb_append]
    by_cases ho : isOwn (view s o) = true
    · obtain ⟨k, tn, nx, e, x, hk, hb, hp⟩ : ∃ k tn nx e x, keyOf (rd s o.1 o.2) = some k ∧ s.ob.getD k .none = .sl tn nx e x ∧ pubM (view s o) = [(k, .pubd tn nx e x)] := by
        unfold isOwn at ho
        simp only [view] at ho ⊢
        split at ho
        · rename_i k tn nx e x hz hb
          refine ⟨k, tn, nx, e, x, by rw [hz]; rfl, ?_, by rw [hz] at hb ⊢; simp only [pubM, hb]⟩
          rw [hz] at hb; simpa [obOf, keyOf] using hb
        · rename_i k lo hi tn nx e x hz hb
          refine ⟨k, tn, nx, e, x, by rw [hz]; rfl, ?_, by rw [hz] at hb ⊢; simp only [pubM, hb]⟩
          rw [hz] at hb; simpa [obOf, keyOf] using hb
        · cases ho
      rw [hp] at hob
      simp only [modOb] at hob
      have hlt : k < (pubS s l).ob.length := by
        rcases Nat.lt_or_ge k (pubS s l).ob.length with h | h
        · exact h
        · rcases h3 k with ⟨h6, _⟩ | ⟨_, _, _, _, _, h6⟩
          · rw [hb, List.getD_eq_getElem?_getD, List.getElem?_eq_none h] at h6; cases h6
          · rw [List.getD_eq_getElem?_getD, List.getElem?_eq_none h] at h6; cases h6
      rcases h3 k with ⟨h6, h7⟩ | ⟨tn', nx', e', x', h6, h7⟩
      · rw [hb] at h6
        have hq := h1.pubKey h6
        refine ⟨_, _, by rw [show pubS s (o :: l) = ⟨(pubS s l).sl, (pubS s l).ob.set k (.pubd tn nx e x)⟩ by rw [← hob]; rfl]; exact hq, fun b hb => Or.inl (h2 b hb), fun j => ?_, fun o' ho' hq' => ?_, fun j => ?_⟩
        · rw [hob]
          by_cases hj : j = k
          · subst hj; right; exact ⟨tn, nx, e, x, hb, by rw [getD_set_self, if_pos hlt]⟩
          · rw [getD_set_ne' _ _ _ hj, upd_ne _ _ hj]; exact h3 j
        · rw [hob]
          rcases List.mem_cons.1 ho' with rfl | ho'
          · exact ⟨k, hk, tn, nx, e, x, hb, by rw [getD_set_self, if_pos hlt]⟩
          · obtain ⟨j, hj, t1, t2, t3, t4, t5, t6⟩ := h4 o' ho' hq'
            by_cases hjk : j = k
            · subst hjk; rw [hb] at t5; exact ⟨j, hj, tn, nx, e, x, hb, by rw [getD_set_self, if_pos hlt]⟩
            · exact ⟨j, hj, t1, t2, t3, t4, t5, by rw [getD_set_ne' _ _ _ hjk]; exact t6⟩
        · rw [hob]
          by_cases hj : j = k
          · subst hj
            rw [getD_set_self, if_pos hlt]
            have : s.ob.getD j .gone = .sl tn nx e x := by
              rcases Nat.lt_or_ge j s.ob.length with h | h
              · rw [List.getD_eq_getElem?_getD, List.getElem?_eq_getElem h] at hb ⊢; exact hb
              · rw [List.getD_eq_getElem?_getD, List.getElem?_eq_none h] at hb; cases hb
            rw [this]; simp
          · rw [getD_set_ne' _ _ _ hj]; exact h5 j
      · have hsame : (pubS s l).ob.set k (.pubd tn nx e x) = (pubS s l).ob := by
          rw [hb] at h6
          cases h6
          apply List.ext_getElem?
          intro j
          rw [List.getElem?_set]
          split
          · rename_i hj
            subst hj
            rw [List.getElem?_eq_getElem hlt]
            rw [List.getD_eq_getElem?_getD, List.getElem?_eq_getElem hlt] at h7
            simpa using h7.symm
          · rfl
        rw [hsame] at hob
        have heq : pubS s (o :: l) = pubS s l := by
          have : pubS s (o :: l) = ⟨(pubS s (o :: l)).sl, (pubS s (o :: l)).ob⟩ := rfl
          rw [this, hsl, hob]
        rw [heq]
        refine ⟨Gs1, fp1, h1, h2, h3, fun o' ho' hq' => ?_, h5⟩
        rcases List.mem_cons.1 ho' with rfl | ho'
        · exact ⟨k, hk, tn', nx', e', x', h6, h7⟩
        · exact h4 o' ho' hq'
    · have hp : pubM (view s o) = [] := by
        unfold isOwn at ho
        unfold pubM
        split <;> simp_all
      rw [hp] at hob
      simp only [modOb] at hob
      have heq : pubS s (o :: l) = pubS s l := by
        have : pubS s (o :: l) = ⟨(pubS s (o :: l)).sl, (pubS s (o :: l)).ob⟩ := rfl
        rw [this, hsl, hob]
      rw [heq]
      refine ⟨Gs1, fp1, h1, h2, h3, fun o' ho' hq' => ?_, h5⟩
      rcases List.mem_cons.1 ho' with rfl | ho'
      · exact absurd hq' ho
      · exact h4 o' ho' hq'
/-- Behind the publishing every operand is shared data. -/
theorem pub_data (h : Inv N w0 Mv Gb Gs hd fp s a w) (l : List (Option Ty × Operand)) : ∃ Gs' fp', Inv N w0 Mv Gb Gs' hd fp' (pubS s l) a w ∧ (∀ b, Gs b → Gs' b) ∧
    (∀ o ∈ l, ∀ tn p, dataV (view s o) = some (tn, p) → VRep w (Gof Gs' Gb tn) p.t p.x (a.eval o.2)) ∧ (∀ k, (pubS s l).ob.getD k .gone = .none ↔ s.ob.getD k .gone = .none) ∧
    (∀ k, (pubS s l).ob.getD k .none = s.ob.getD k .none ∧ fp' k = fp k ∨ ∃ tn nx e x, s.ob.getD k .none = .sl tn nx e x ∧ (pubS s l).ob.getD k .none = .pubd tn nx e x) := by
  obtain ⟨Gs1, fp1, h1, h2, h3, h4, h5⟩ := pub_all h l
  refine ⟨Gs1, fp1, h1, h2, fun o ho tn p hp => ?_, h5, h3⟩
  have hz := rd_ok h1 o.1 o.2
  have hrd : rd (pubS s l) o.1 o.2 = rd s o.1 o.2 := rfl
  by_cases hq : isOwn (view s o) = true
  · obtain ⟨k, hk, t1, t2, t3, t4, t5, t6⟩ := h4 o ho hq
    have e1 : obOf (pubS s l) (rd (pubS s l) o.1 o.2) = .pubd t1 t2 t3 t4 := by rw [hrd]; simp only [obOf, hk, t6]
    have e2 : obOf s (rd s o.1 o.2) = .sl t1 t2 t3 t4 := by simp only [obOf, hk, t5]
    have e3 : dataV ⟨rd (pubS s l) o.1 o.2, obOf (pubS s l) (rd (pubS s l) o.1 o.2)⟩ = some (tn, p) := by
      rw [e1, hrd]
      simp only [view, e2] at hp
      unfold dataV at hp ⊢
      simp only at hp ⊢
      split at hp <;> simp_all
    refine (data_ok h1.obs hz e3).2 ?_
    rw [e1]
    unfold isOwn
    split <;> simp_all
  · have e1 : obOf (pubS s l) (rd (pubS s l) o.1 o.2) = obOf s (rd s o.1 o.2) ∨ ∃ tn nx e x, obOf s (rd s o.1 o.2) = .sl tn nx e x ∧ obOf (pubS s l) (rd (pubS s l) o.1 o.2) = .pubd tn nx e x := by
      rw [hrd]
      unfold obOf
      cases keyOf (rd s o.1 o.2) with
      | none => exact .inl rfl
      | some k => rcases h3 k with ⟨h6, _⟩ | h6
                  · exact .inl h6
                  · exact .inr h6
    have e3 : dataV ⟨rd (pubS s l) o.1 o.2, obOf (pubS s l) (rd (pubS s l) o.1 o.2)⟩ = some (tn, p) ∧ isOwn ⟨rd (pubS s l) o.1 o.2, obOf (pubS s l) (rd (pubS s l) o.1 o.2)⟩ = false := by
      rcases e1 with e1 | ⟨tn', nx, e, x, e1, e2⟩
      · rw [e1, hrd]
        exact ⟨hp, by simpa [view] using hq⟩
      · rw [e2, hrd]
        simp only [view, e1] at hp hq
        unfold dataV at hp ⊢
        unfold isOwn at hq ⊢
        simp only at hp hq ⊢
        split at hp <;> simp_all
    exact (data_ok h1.obs hz e3.1).2 e3.2
end Go.Proofs.Ytgibeillafnieaa.Eng
