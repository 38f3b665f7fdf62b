/-
  The tables, checked; a law's call.
-/
import Derived.Test.YtkgpkalclblhbaaGreatDoorS25
namespace Go.Proofs.YtkgpkalclblhbaaGreatDoor.Eng
open Go Go.RowKit
set_option linter.unusedVariables false
set_option linter.unusedSimpArgs false

variable {P : Program} {T : Tab}

def sameB (t u : Ty) : Bool := decide (t = u) || decide (t = under u)
def fieldsB (ty : Nat → Option Ty) : List Field → Nat → Ty → Bool
  | [], _, .unit => true
  | f :: fs, off, .pair a b => f.offset == off && (match ty f.type with
    | some u => sameB u a
    | none => false) && fieldsB ty fs (off + sz a) b
  | _, _, _ => false
def descB (ty : Nat → Option Ty) : TypeDesc → Ty → Bool
  | .int k, .int j => decide (k = j)
  | .bool, .bool => true
  | .string, .str => true
  | .slice e, .sl u => match ty e with
    | some u' => sameB u' u
    | none => false
  | .array n e, .ap 5 => n == 3 && decide (ty e = some (.int .i64))
  | .interface _, .err => true
  | .struct fs, t => isAggT t && (fieldsB ty fs.toList 0 (under t) && decide (t ≠ .ap 5))
  | _, _ => false
theorem sameB_spec {t u : Ty} (h : sameB t u = true) : Same t u := by
  simp only [sameB, Bool.or_eq_true, decide_eq_true_eq] at h
  exact h
theorem fieldsB_spec : ∀ (fs : List Field) (off : Nat) (t : Ty), fieldsB T.ty fs off t = true → FieldsOk T fs off t
  | [], off, t, h => by
    cases t <;> simp [fieldsB] at h
    trivial
  | f :: fs, off, t, h => by
    cases t <;> simp [fieldsB] at h
    obtain ⟨⟨h1, h2⟩, h3⟩ := h
    split at h2
    · rename_i u hu
      exact ⟨h1, ⟨u, hu, sameB_spec h2⟩, fieldsB_spec fs _ _ h3⟩
    · cases h2
theorem descB_spec {d : TypeDesc} {t : Ty} (h : descB T.ty d t = true) : DescOk T d t := by
  unfold descB at h
  split at h
  · simpa [DescOk] using h
  · trivial
  · trivial
  · split at h
    · rename_i u hu; exact ⟨u, hu, sameB_spec h⟩
    · cases h
  · rw [Bool.and_eq_true, beq_iff_eq, decide_eq_true_eq] at h
    exact h
  · trivial
  · rename_i fs t
    rw [Bool.and_eq_true, Bool.and_eq_true, decide_eq_true_eq] at h
    simp only [DescOk]
    exact ⟨h.1, fieldsB_spec _ _ _ h.2.1, h.2.2⟩
  · cases h
theorem tyFacts_mk {tid : TypeId} {t : Ty} (h1 : (P.info? tid).map (fun i => (i.size, decide (i.bytes ≤ 128), i.zero)) = some (sz t, true, some (zeroV t))) (h2 : (P.underlying tid).map (fun d => descB T.ty d t) = some true) (h3 : decide (sz t ≤ 100) = true) : TyFacts P T tid t := by
  refine ⟨?_, of_decide_eq_true h3, ?_⟩
  · cases hi : P.info? tid with
    | none => rw [hi] at h1; cases h1
    | some i =>
      rw [hi] at h1
      simp only [Option.map_some, Option.some.injEq, Prod.mk.injEq, decide_eq_true_eq] at h1
      exact ⟨i, rfl, h1⟩
  · cases hd : P.underlying tid with
    | none => rw [hd] at h2; cases h2
    | some d =>
      rw [hd] at h2
      simp only [Option.map_some, Option.some.injEq] at h2
      exact ⟨d, rfl, descB_spec h2⟩
theorem mpFacts_mk {tid : TypeId} {t : Ty} (h : (match P.underlying tid with | some (.map k e) => decide (T.ty k = some (.ap 5)) && decide (T.ty e = some t) | _ => false) = true) (hs : scalar t = true) : MpFacts P T tid t := by
  split at h
  · rename_i k e hu
    rw [Bool.and_eq_true, decide_eq_true_eq, decide_eq_true_eq] at h
    exact ⟨⟨k, e, hu, h.1, h.2⟩, hs⟩
  · cases h
def isI64 : Option TypeDesc → Bool
  | some (.int .i64) => true
  | _ => false
def eqB (P : Program) (tid : TypeId) : Bool := match P.underlying tid with
  | some (.struct fs) => match fs.toList with
    | [f0, f1] => (f0.name != "_" && f1.name != "_") && (f0.offset == 0 && f1.offset == 1) && (isI64 (P.underlying f0.type) && isI64 (P.underlying f1.type)) && !P.stoodInHeld tid && !P.eqGuardType P.depth tid
    | _ => false
  | _ => false
theorem isI64_spec {d : Option TypeDesc} (h : isI64 d = true) : d = some (.int .i64) := by
  unfold isI64 at h
  split at h
  · rfl
  · cases h
theorem eqFacts_mk {tid : TypeId} (h : eqB P tid = true) : EqFacts P tid := by
  unfold eqB at h
  split at h
  · rename_i fs hu
    split at h
    · rename_i f0 f1 hfs
      simp only [Bool.and_eq_true, Bool.not_eq_true', bne_iff_ne, ne_eq, beq_iff_eq] at h
      obtain ⟨⟨⟨⟨⟨n0, n1⟩, o0, o1⟩, t0, t1⟩, hst⟩, hg⟩ := h
      have u0 := isI64_spec t0
      have u1 := isI64_spec t1
      obtain rfl : fs = #[f0, f1] := by apply Array.ext'; simpa using hfs
      have part0 : ∀ (x y : Int) (w : World), (part f0.type #[.int .i64 x, .int .i64 y] 0).run P w = .ok (.int .i64 x) w := fun x y w => by
        unfold part isAgg
        simp [Sem.run_bind, run_underlying u0, Sem.run_pure]
      have part1 : ∀ (x y : Int) (w : World), (part f1.type #[.int .i64 x, .int .i64 y] 1).run P w = .ok (.int .i64 y) w := fun x y w => by
        unfold part isAgg
        simp [Sem.run_bind, run_underlying u1, Sem.run_pure]
      have q0 : ∀ (x y : Int) (w : World), (Op.equalIn 9999 f0.type (.int .i64 x) (.int .i64 y)).run P w = .ok (x == y) w := fun x y w => by
        show (Op.equalIn (9998 + 1) _ _ _).run P w = _
        rw [Op.equalIn.eq_def]
        simp only [Sem.run_bind, run_underlying u0, Result.andThen_ok, Sem.run_ite, if_true, Sem.run_pure]
      have q1 : ∀ (x y : Int) (w : World), (Op.equalIn 9999 f1.type (.int .i64 x) (.int .i64 y)).run P w = .ok (x == y) w := fun x y w => by
        show (Op.equalIn (9998 + 1) _ _ _).run P w = _
        rw [Op.equalIn.eq_def]
        simp only [Sem.run_bind, run_underlying u1, Result.andThen_ok, Sem.run_ite, if_true, Sem.run_pure]
      refine ⟨fun op x y a b c d w => ?_, fun a b c d w => ?_⟩
      · unfold eqGuard
        cases op <;> simp [hg, Sem.run_bind, run_program, Sem.run_pure]
      · rw [equal_step, Op.equalIn.eq_def]
        simp only [Sem.run_bind, run_underlying hu, Result.andThen_ok, run_program, hst, Bool.false_eq_true, if_false, Sem.run_ite, Sem.run_pure, List.forIn_toArray, List.forIn_cons, List.forIn_nil, n0, n1, ne_eq, not_false_eq_true, if_true, o0, o1, part0, part1, q0, q1]
        by_cases h1 : a = c <;> by_cases h2 : b = d <;> simp [h1, h2, Sem.run_pure, Sem.run_bind, part0, part1, q0, q1, n0, n1, o0, o1]
    · cases h
  · cases h
theorem fnOk_mk {g : Nat} {f : FnT} {fn : Func} (h1 : P.funcs[g]? = some fn) (h2 : fn.body = some f.code) (h3 : fn.ntmps = f.ntmps) (h4 : fn.results.toList = f.res) (h5 : (fn.name == "runtime.NumGoroutine") = false) (h6 : decide (f.pars.length ≤ f.ntmps ∧ f.nk ≤ 1000000000) = true) : FnOk P g f :=
  ⟨⟨fn, h1, h2, h3, h4, by simpa using h5⟩, (of_decide_eq_true h6).1, (of_decide_eq_true h6).2⟩

/-- A law: its arguments are only read, and it says true. -/
theorem law_calls (hm : P.follows .mixedOrders = true) (hT : TabOk P T) (hFn : ∀ g f, T.fn g = some f → FnOk P g f) {X : Ext T} (hX : ∀ g x, X g = some x → Sound P T g x) {k g : Nat} {f : FnT} {ps : List PV} {r : T.R g}
    (hf : T.fn g = some f) (ho : f.outs = [(.bool, ⟨false, false, false, false, false⟩)]) (hg : f.rg = []) (hpg : f.pg = []) (hr : runF T X k g ps = some r) (hs : spread (T.outTys g) r = [⟨.bool, true⟩]) {w : World} {vs : List Value}
    (ha : ArgsR w (fun _ => False) (fun b => b < w.heap.size) (fun _ _ => False) 0 f.pars ps vs) (hq : ∀ w' : World, (∀ b, b < w.heap.size → w'.heap[b]? = w.heap[b]?) → T.q w') : Calls P g vs.toArray w fun e w' => e = .returned (.bool true) ∧ Below w.heap.size w w' := by
  have hgv : grpV f.pg vs = vs := by rw [hpg]; cases vs <;> rfl
  rw [← hgv]
  refine (run_sound hm hT hFn hX k g f ps r hf hr w (fun _ => False) (fun b => b < w.heap.size) (fun _ _ => False) vs ⟨ha, fun b h => h.elim, fun i b h => h.elim, fun i j b h => h.elim, fun b h => h, fun i b h => h.elim, by rw [hpg]; simp [oneG]⟩ (fun w' hw => hq w' (fun b hb => hw b hb (fun _ h => h)))).mono ?_
  rintro e w' ⟨us, Gs, Fr, rfl, hev, _, hout, _, _, _⟩
  rw [ho, hs] at hout
  match us, hout with
  | [u], hout =>
    simp only [OutsR, OutR, Bool.false_eq_true, if_false] at hout
    obtain ⟨_, ⟨cs, h1, h2⟩, _⟩ := hout
    rw [h1.of_bool] at h2
    refine ⟨?_, ⟨hev.os, hev.tape, hev.output, hev.size, fun b hb => hev.block b hb (fun ⟨i, h⟩ => h)⟩⟩
    simp [isAggT] at h2
    rw [h2, hg]
    rfl
  | [], hout => simp [OutsR] at hout
  | _ :: _ :: _, hout => simp [OutsR] at hout
end Go.Proofs.YtkgpkalclblhbaaGreatDoor.Eng
