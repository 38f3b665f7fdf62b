/-
  All operations that call nothing.
-/
import Derived.Test.YtkgpkalclblhbaaGreatDoorS14m
namespace Go.Proofs.YtkgpkalclblhbaaGreatDoor.Eng
open Go Go.RowKit
set_option linter.unusedVariables false
set_option linter.unusedSimpArgs false

variable {P : Program} {T : Tab} {N : Nat} {w0 : World} {Mv : Mvp} {Gb Gs : BS} {hd : Nat → Value} {fp : Nat → BS} {s : St} {a : Act} {w w' : World}

theorem op_ok (hT : TabOk P T) (h : Inv N w0 Mv Gb Gs hd fp s a w) {own : List Nat} {o : Oper} {z : Slot} {m : List (Nat × Ob)}
    (hop : opC T own o (views T s o) (freshOb s o.dst) = some (true, z, m)) : OpOk P N w0 Mv Gb s a w o z m := by
  cases ho : o.op with
  | move x =>
    simp only [opC, ho, views, opnds, List.map] at hop
    cases hop
    exact ok_move h _ (.inl ho)
  | assign x =>
    simp only [opC, ho, views, opnds, List.map] at hop
    cases hop
    exact ok_move h _ (.inr ho)
  | pick c x y =>
    simp only [opC, ho, views, opnds, List.map] at hop
    split at hop
    · rename_i hc; cases hop; exact ok_pick (b := true) h none _ ho hc
    · rename_i hc; cases hop; exact ok_pick (b := false) h none _ ho hc
    · cases hop
  | alloc t => exact ok_alloc hT h ho hop
  | box t x => exact ok_box hT h ho hop
  | build t ps => exact ok_build hT h ho hop
  | buildSlice t n ps => exact ok_buildSlice hT h ho hop
  | load t x => exact ok_load hT h ho hop
  | store t x y => exact ok_store hT h ho hop
  | nilCheck x => exact ok_nilCheck h ho hop
  | binOp op t x y u => exact ok_binOp hT h ho hop
  | unOp op t x => exact ok_unOp h ho hop
  | convert t u x => exact ok_convert hT h ho hop
  | makeSlice t l c => exact ok_makeSlice hT h ho hop
  | slice t x l h' m' => exact ok_slice hT h ho hop
  | fieldAddr t x f => exact ok_fieldAddr hT h ho hop
  | field t x f => exact ok_field hT h ho hop
  | indexAddr t x i => exact ok_indexAddr hT h ho hop
  | index t x i => exact ok_index hT h ho hop
  | extract x i => exact ok_extract h ho hop
  | sliceToArrayPointer t x => exact ok_arrPtr hT h ho hop
  | makeMap t r =>
    cases r with
    | none => exact ok_mpMake hT h ho hop
    | some r => simp [opC, ho] at hop
  | lookup t x i c =>
    cases c with
    | false => exact ok_mpLook hT h ho hop
    | true => simp [opC, ho] at hop
  | insert t x y u => exact ok_mpPut hT h (.inl ho) hop
  | mapUpdate t x y u => exact ok_mpPut hT h (.inr ho) hop
  | call c =>
    obtain ⟨callee, xs, ts⟩ := c
    cases callee with
    | builtin b =>
      cases b with
      | append => exact ok_append hT h ho hop
      | len => exact ok_len hT h ho hop
      | max => exact ok_maxmin h (.inl rfl) ho hop
      | min => exact ok_maxmin h (.inr rfl) ho hop
      | clear => exact ok_clear hT h ho hop
      | _ => simp [opC, ho] at hop
    | value f => simp [opC, ho] at hop
    | invoke r n => simp [opC, ho] at hop
  | _ => simp [opC, ho] at hop

/-! ### What a function keeps to -/
def tupOf (us : List Value) : Value := match us with
  | [u] => u
  | us => .tuple us.toArray
def grpV : List (Option Ty) → List Value → List Value
  | none :: g, v :: vs => v :: grpV g vs
  | some t :: g, v :: vs => .agg ((v :: vs).take (sz t)).toArray :: grpV g ((v :: vs).drop (sz t))
  | _, vs => vs
def ArgsR (w : World) (G0 G : BS) (F : Nat → BS) : Nat → List (Ty × PM) → List PV → List Value → Prop
  | _, [], [], [] => True
  | i, (t, m) :: prs, p :: ps, v :: vs => p.t = t ∧ (match m with
      | .ln => VRep w G p.t p.x v
      | .ptr => BoxR w G0 p.t p.x v (F i)
      | .mv => ∃ (e : Ty) (x : List (Den e)), p = ⟨.sl e, x⟩ ∧ OwnRow w G e x v (F i)
      | .io => ∃ (e : Ty) (x : List (Den e)), p = ⟨.sl e, x⟩ ∧ OwnRow w G e x v (F i)
      | .dio => ∃ (e : Ty) (x : List (Den e)), p = ⟨.sl e, x⟩ ∧ DpR w e x v (F i)) ∧ ArgsR w G0 G F (i + 1) prs ps vs
  | _, _, _, _ => False
def OutR (w : World) (Gs Gb F : BS) (m : RM) (p : PV) (v : Value) : Prop :=
  if m.bx then BoxR w (Gof Gs Gb m.tn) p.t p.x v F
  else if m.own then if m.dp then ∃ (e : Ty) (x : List (Den e)), p = ⟨.sl e, x⟩ ∧ DpR w e x v F else ∃ (e : Ty) (x : List (Den e)), p = ⟨.sl e, x⟩ ∧ OwnRow w (Gof Gs Gb m.tn) e x v F ∧ (m.nx = true → x = [] → v = .slice none 0 0)
  else VRep w (Gof Gs Gb m.tn) p.t p.x v
def OutsR (w : World) (Gs Gb : BS) (Fr : Nat → BS) : Nat → List (Ty × RM) → List PV → List Value → Prop
  | _, [], _, [] => True
  | i, (t, m) :: ms, p :: ps, v :: vs => p.t = t ∧ OutR w Gs Gb (Fr i) m p v ∧ OutsR w Gs Gb Fr (i + 1) ms ps vs
  | _, _, _, _ => False
def PtrsR (w : World) (Gs G : BS) (F : Nat → BS) : Nat → List (Ty × PM) → List Value → List PV → Prop
  | _, [], _, [] => True
  | i, (t, .ptr) :: prs, v :: vs, p :: ps => p.t = t ∧ BoxR w Gs p.t p.x v (F i) ∧ PtrsR w Gs G F (i + 1) prs vs ps
  | i, (t, .io) :: prs, v :: vs, p :: ps => p.t = t ∧ (∃ (e : Ty) (x : List (Den e)), p = ⟨.sl e, x⟩ ∧ OwnRow w G e x v (F i)) ∧ PtrsR w Gs G F (i + 1) prs vs ps
  | i, (t, .dio) :: prs, v :: vs, p :: ps => p.t = t ∧ (∃ (e : Ty) (x : List (Den e)), p = ⟨.sl e, x⟩ ∧ DpR w e x v (F i)) ∧ PtrsR w Gs G F (i + 1) prs vs ps
  | i, (_, .ln) :: prs, _ :: vs, ps => PtrsR w Gs G F (i + 1) prs vs ps
  | i, (_, .mv) :: prs, _ :: vs, ps => PtrsR w Gs G F (i + 1) prs vs ps
  | _, _, _, _ => False
def PtrAt (prs : List (Ty × PM)) (i : Nat) : Prop := ∃ t m, prs[i]? = some (t, m) ∧ m.pinned = true
/-- What is put together takes one cell a part. -/
def oneG : List (Option Ty) → List Value → Prop
  | none :: g, v :: vs => oneG g vs
  | some t :: g, v :: vs => 0 < sz t ∧ sz t ≤ (v :: vs).length ∧ (∀ u ∈ (v :: vs).take (sz t), u.oneCell' = true) ∧ oneG g ((v :: vs).drop (sz t))
  | _, _ => True
structure GoodArgs (w : World) (G0 G : BS) (F : Nat → BS) (f : FnT) (ps : List PV) (vs : List Value) : Prop where
  args : ArgsR w G0 G F 0 f.pars ps vs
  g0 : ∀ b, G0 b → G b
  own : ∀ i b, F i b → b < w.heap.size ∧ ¬ G b
  disj : ∀ i j b, F i b → F j b → i = j
  lt : ∀ b, G b → b < w.heap.size
  inr : ∀ i b, F i b → i < f.pars.length
  one : oneG f.pg vs
def Post (w0 : World) (G0 G : BS) (F : Nat → BS) (f : FnT) (vs : List Value) (rs : List PV) (e : Ending) (w' : World) : Prop :=
  ∃ (us : List Value) (Gs : BS) (Fr : Nat → BS), e = .returned (tupOf (grpV f.rg us)) ∧ Ev w0.heap.size (fun b => ∃ i, F i b) w0 w' ∧
    (∀ b, Gs b → b < w'.heap.size ∧ (w0.heap.size ≤ b ∨ (∃ i, F i b) ∨ G0 b) ∧ ∀ i, PtrAt f.pars i → ¬ F i b) ∧
    OutsR w' Gs G Fr 0 f.outs rs us ∧ PtrsR w' Gs (Gof Gs G true) F 0 f.pars vs (rs.drop f.outs.length) ∧
    (∀ j b, Fr j b → b < w'.heap.size ∧ (w0.heap.size ≤ b ∨ ∃ i, F i b) ∧ ¬ Gs b ∧ ∀ i, PtrAt f.pars i → ¬ F i b) ∧
    (∀ j j' b, Fr j b → Fr j' b → j = j')
/-- Whatever comes to be, what is said of variables that are only read holds. -/
def Keeps (w : World) (F : Nat → BS) (q : World → Prop) : Prop := ∀ w' : World, (∀ b, b < w.heap.size → (∀ i, ¬ F i b) → w'.heap[b]? = w.heap[b]?) → q w'
def Sound (P : Program) (T : Tab) (g : Nat) (call : List PV → Option (T.R g)) : Prop :=
  ∀ (f : FnT) (ps : List PV) (r : T.R g), T.fn g = some f → call ps = some r → ∀ (w : World) (G0 G : BS) (F : Nat → BS) (vs : List Value), GoodArgs w G0 G F f ps vs → Keeps w F T.q →
    Calls P g (grpV f.pg vs).toArray w (Post w G0 G F f vs (spread (T.outTys g) r))
def SoundM (P : Program) (T : Tab) (Mv : Mvp) (call : (g : Nat) → List PV → Option (T.R g)) : Prop := (∀ g, Sound P T g (call g)) ∧ ∀ w, Mv.q w → T.q w
/-- A function's table is its text. -/
structure FnOk (P : Program) (g : Nat) (f : FnT) : Prop where
  fn : ∃ fn, P.funcs[g]? = some fn ∧ fn.body = some f.code ∧ fn.ntmps = f.ntmps ∧ fn.results.toList = f.res ∧ fn.name ≠ "runtime.NumGoroutine"
  pars : f.pars.length ≤ f.ntmps
  small : f.nk ≤ regM
end Go.Proofs.YtkgpkalclblhbaaGreatDoor.Eng
