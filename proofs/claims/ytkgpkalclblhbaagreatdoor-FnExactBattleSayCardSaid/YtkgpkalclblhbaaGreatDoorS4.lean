/-
  One operation: what the model does is what the interpreter says: numbers, copies, addresses, reads.
-/
import Derived.Test.YtkgpkalclblhbaaGreatDoorS3
import Derived.Great.BuildSlice
import Derived.Laws.MakeOwn
namespace Go.Proofs.YtkgpkalclblhbaaGreatDoor.Eng
open Go Go.RowKit
set_option linter.unusedVariables false
set_option linter.unusedSimpArgs false

variable {P : Program} {T : Tab} {N : Nat} {w0 : World} {Mv : Mvp} {Gb Gs : BS} {hd : Nat → Value} {fp : Nat → BS} {s : St} {a : Act} {w w' : World}

/-- The operation runs, and the relation holds behind it. -/
def OpOk (P : Program) (N : Nat) (w0 : World) (Mv : Mvp) (Gb : BS) (s : St) (a : Act) (w : World) (o : Oper) (z : Slot) (m : List (Nat × Ob)) : Prop :=
  ∃ v w' Gs' hd' fp', ((execOp a.eval o).run P w = .ok (.value v) w' ∨ (execOp a.eval o).run P w = .ok .skip w' ∧ v = undef) ∧ Inv N w0 Mv Gb Gs' hd' fp' (s.out o.dst z m) (a.put o.dst v) w'

theorem St.out_nil (s : St) (d : Option Nat) (z : Slot) : s.out d z [] = ⟨match d with | some d => s.sl.set d z | none => s.sl, s.ob⟩ := by
  cases d <;> rfl
theorem OpOk.of_put (h : Inv N w0 Mv Gb Gs hd fp s a w) {o : Oper} {z : Slot} {v : Value} (hr : (execOp a.eval o).run P w = .ok (.value v) w) (hz : SlotR w Gs Gb hd s.ob z v) : OpOk P N w0 Mv Gb s a w o z [] :=
  ⟨v, w, Gs, hd, fp, .inl hr, by rw [St.out_nil]; exact h.put o.dst hz⟩
theorem mkVal_ok {ob : List Ob} {tn : Bool} {t : Ty} {x : Den t} {v : Value} (h : VRep w (Gof Gs Gb tn) t x v) : SlotR w Gs Gb hd ob (mkVal tn t x) v := by
  unfold mkVal
  simp only [SlotR]
  cases hf : flat t with
  | true => exact h.anyw hf _ _
  | false => simpa using h
theorem VRep.int {G : BS} (k : IntKind) (n : Int) : VRep w G (.int k) n (.int k n) := ⟨_, .int k n, by simp [isAggT]⟩
theorem VRep.bool {G : BS} (b : Bool) : VRep w G .bool b (.bool b) := ⟨_, .bool b, by simp [isAggT]⟩
theorem VRep.of_int {G : BS} {k : IntKind} {n : Int} {v : Value} (h : VRep w G (.int k) n v) : v = .int k n := by
  obtain ⟨cs, h1, h2⟩ := h; rw [h1.of_int] at h2; simpa [isAggT] using h2
theorem VRep.of_bool {G : BS} {b : Bool} {v : Value} (h : VRep w G .bool b v) : v = .bool b := by
  obtain ⟨cs, h1, h2⟩ := h; rw [h1.of_bool] at h2; simpa [isAggT] using h2
theorem VRep.of_str {G : BS} {l : List UInt8} {v : Value} (h : VRep w G .str l v) : ∃ s : ByteArray, l = s.data.toList ∧ v = .string s := by
  obtain ⟨cs, h1, h2⟩ := h; obtain ⟨s, h3, h4⟩ := h1.of_str; exact ⟨s, h3, by rw [h4] at h2; simpa [isAggT] using h2⟩
theorem VRep.str {G : BS} (s : ByteArray) : VRep w G .str s.data.toList (.string s) := ⟨_, .str s, by simp [isAggT]⟩
/-- What is neither a row: data as it stands. -/
theorem data_int (h : Inv N w0 Mv Gb Gs hd fp s a w) (o : Option Ty × Operand) {b : Bool} {k : IntKind} {n : Int} (hv : dataV (view s o) = some (b, ⟨.int k, n⟩)) : a.eval o.2 = .int k n :=
  VRep.of_int (view_data h o hv).1
theorem data_bool (h : Inv N w0 Mv Gb Gs hd fp s a w) (o : Option Ty × Operand) {b : Bool} {x : Bool} (hv : dataV (view s o) = some (b, ⟨.bool, x⟩)) : a.eval o.2 = .bool x :=
  VRep.of_bool (view_data h o hv).1
theorem data_str (h : Inv N w0 Mv Gb Gs hd fp s a w) (o : Option Ty × Operand) {b : Bool} {x : List UInt8} (hv : dataV (view s o) = some (b, ⟨.str, x⟩)) : ∃ s : ByteArray, x = s.data.toList ∧ a.eval o.2 = .string s :=
  VRep.of_str (view_data h o hv).1
theorem data_row (h : Inv N w0 Mv Gb Gs hd fp s a w) (o : Option Ty × Operand) {b : Bool} {e : Ty} {x : List (Den e)} (hv : dataV (view s o) = some (b, ⟨.sl e, x⟩)) :
    RowR w (Gof Gs Gb b) (fun c => Gof Gs Gb b c ∨ ∃ k, fp k c) e x (a.eval o.2) := (view_data h o hv).1

theorem rowT_facts (hT : TabOk P T) {tid : Nat} {e : Ty} (h : rowT T tid = some e) : ∃ eid u, P.underlying tid = some (.slice eid) ∧ T.ty eid = some u ∧ Same u e := by
  unfold rowT at h
  split at h
  · rename_i e' he
    cases h
    obtain ⟨d, h1, h2⟩ := (hT.1 tid _ he).desc
    unfold DescOk at h2
    split at h2 <;> first | (rename_i hh; cases hh; done) | skip
    · rename_i e2 u2 heq
      cases heq
      obtain ⟨u', h3, h4⟩ := h2
      exact ⟨e2, u', h1, h3, h4⟩
    · rename_i fs heq; simp [isAggT] at h2
    · cases h2
  · cases h

/-! ### Copies -/
theorem ok_move (h : Inv N w0 Mv Gb Gs hd fp s a w) {o : Oper} {x : Operand} (t : Option Ty) (ho : o.op = .move x ∨ o.op = .assign x) : OpOk P N w0 Mv Gb s a w o (rd s t x) [] :=
  OpOk.of_put h (v := a.eval x) (by rcases ho with ho | ho <;> simp [execOp, ho]) (rd_ok h t x)
theorem ok_pick (h : Inv N w0 Mv Gb Gs hd fp s a w) {o : Oper} {c x y : Operand} {b : Bool} (t t' : Option Ty) (ho : o.op = .pick c x y) (hc : rd s t c = .lit b) : OpOk P N w0 Mv Gb s a w o (rd s t' (if b then x else y)) [] := by
  have h1 := rd_ok h t c
  rw [hc] at h1
  simp only [SlotR] at h1
  refine OpOk.of_put h (v := a.eval (if b then x else y)) ?_ (rd_ok h t' _)
  simp only [execOp, ho, h1, asBool, Sem.run_bind, Sem.run_pure, Result.andThen_ok]
  cases b <;> rfl

/-! ### Numbers -/
theorem ok_pure (h : Inv N w0 Mv Gb Gs hd fp s a w) {o : Oper} {c tn : Bool} {p : PV} {z : Slot} {m : List (Nat × Ob)} (hp : pureO c tn p = some (true, z, m)) {v : Value} (hv : c = true → (execOp a.eval o).run P w = .ok (.value v) w ∧ VRep w (Gof Gs Gb tn) p.t p.x v) : OpOk P N w0 Mv Gb s a w o z m := by
  unfold pureO at hp
  simp only [Option.some.injEq, Prod.mk.injEq] at hp
  obtain ⟨h1, h2, h3⟩ := hp
  subst h2; subst h3
  obtain ⟨h4, h5⟩ := hv h1
  exact OpOk.of_put h h4 (mkVal_ok h5)
theorem ok_pureE (h : Inv N w0 Mv Gb Gs hd fp s a w) {o : Oper} {c tn : Bool} {p : PV} {z : Slot} {m : List (Nat × Ob)} (hp : pureO c tn p = some (true, z, m)) (hv : c = true → ∃ v, (execOp a.eval o).run P w = .ok (.value v) w ∧ VRep w (Gof Gs Gb tn) p.t p.x v) : OpOk P N w0 Mv Gb s a w o z m := by
  have hc : c = true := by unfold pureO at hp; simp at hp; exact hp.1
  obtain ⟨v, h1, h2⟩ := hv hc
  exact ok_pure h hp (fun _ => ⟨h1, h2⟩)
theorem eqGuard_int (op : BinOp) (t : TypeId) (x y : Operand) (k j : IntKind) (n m : Int) : (eqGuard op t x y (.int k n) (.int j m)).run P w = .ok () w := by
  unfold eqGuard
  cases op <;> simp <;> rfl
theorem ok_arith {op : BinOp} {k : IntKind} {n m : Int} {c : Bool} {r : PV} (hr : arith op k n m = some (c, r)) (hsh : isShift op = false) (hc : c = true) (t : TypeId) : ∃ v, (binOp op t (.int k n) (.int k m)).run P w = .ok v w ∧ ∀ G, VRep w G r.t r.x v := by
  subst hc
  cases op <;> simp only [arith, isShift, Option.some.injEq, Prod.mk.injEq, reduceCtorEq] at hr hsh <;>
    first
      | (obtain ⟨h1, rfl⟩ := hr
         refine ⟨_, ?_, fun G => VRep.int _ _⟩
         simp [binOp, Op.intArith, Op.intDiv, Op.intBits]
         try (simp at h1; simp [h1])
         done)
      | (obtain ⟨h1, rfl⟩ := hr
         refine ⟨_, ?_, fun G => VRep.bool _⟩
         simp [binOp, Op.intCmp]
         try rfl
         done)
theorem ok_shift {op : BinOp} {k j : IntKind} {n m : Int} {c : Bool} {r : PV} (hr : shiftD op k n m = some (c, r)) (hc : c = true) (t : TypeId) : ∃ v, (binOp op t (.int k n) (.int j m)).run P w = .ok v w ∧ ∀ G, VRep w G r.t r.x v := by
  subst hc
  cases op <;> simp only [shiftD, Option.some.injEq, Prod.mk.injEq, reduceCtorEq] at hr
  all_goals
    obtain ⟨h1, rfl⟩ := hr
    have h1' : ¬ m < 0 := by simpa using h1
    refine ⟨_, ?_, fun G => VRep.int _ _⟩
    simp [binOp, Op.shift, h1']
    try rfl
theorem toList_eq (s : ByteArray) : s.toList = s.data.toList := by
  have key : ∀ (n i : Nat) (r : List UInt8), s.size - i = n → ByteArray.toList.loop s i r = r.reverse ++ s.data.toList.drop i := by
    intro n
    induction n with
    | zero =>
      intro i r h
      unfold ByteArray.toList.loop
      rw [if_neg (by omega), List.drop_eq_nil_of_le (by have : s.data.toList.length = s.size := rfl; omega)]; simp
    | succ n ih =>
      intro i r h
      unfold ByteArray.toList.loop
      have hi : i < s.size := by omega
      have hi' : i < s.data.toList.length := hi
      rw [if_pos hi, ih (i + 1) _ (by omega), List.drop_eq_getElem_cons hi']
      simp [ByteArray.get!, hi]
  unfold ByteArray.toList
  rw [key _ 0 [] rfl]
  simp
theorem data_ext {s t : ByteArray} (h : s.data.toList = t.data.toList) : s = t := by
  cases s; cases t; congr; exact Array.ext' h
theorem ok_str {op : BinOp} {s1 s2 : ByteArray} {c : Bool} {r : PV} (hr : strD op s1.data.toList s2.data.toList = some (c, r)) (hc : c = true) (t : TypeId) : ∃ v, (binOp op t (.string s1) (.string s2)).run P w = .ok v w ∧ ∀ G, VRep w G r.t r.x v := by
  subst hc
  cases op <;> simp only [strD, Option.some.injEq, Prod.mk.injEq, reduceCtorEq] at hr
  all_goals obtain ⟨h1, rfl⟩ := hr
  · have e : (s1 ++ s2).data.toList = s1.data.toList ++ s2.data.toList := by simp [ByteArray.data_append]
    refine ⟨.string (s1 ++ s2), ?_, fun G => by have := VRep.str (w := w) (G := G) (s1 ++ s2); rw [e] at this; exact this⟩
    have h2 : s1.data.toList.length + s2.data.toList.length < lim := by simpa using h1
    have h3 : s1.size + s2.size < 1099511627776 := h2
    have h4 : ¬ (IntKind.i64.max < ((s1.size : Int) + (s2.size : Int))) := by
      have : IntKind.i64.max = 9223372036854775807 := by decide
      omega
    simp [binOp, Op.stringOp, h4]
    omega
  · refine ⟨_, ?_, fun G => VRep.bool _⟩
    simp only [binOp, Op.stringOp, toList_eq, Sem.run_pure]
    rw [show (s1.data.toList == s2.data.toList) = decide (s1.data.toList = s2.data.toList) from by rw [Bool.eq_iff_iff]; simp]
  · refine ⟨_, ?_, fun G => VRep.bool _⟩
    simp only [binOp, Op.stringOp, toList_eq, Sem.run_pure]
    rw [show (s1.data.toList == s2.data.toList) = decide (s1.data.toList = s2.data.toList) from by rw [Bool.eq_iff_iff]; simp]
end Go.Proofs.YtkgpkalclblhbaaGreatDoor.Eng
