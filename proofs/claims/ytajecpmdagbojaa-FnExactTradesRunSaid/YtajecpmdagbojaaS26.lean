/-
  The tables, checked; a law's call.
-/
import Derived.Test.YtajecpmdagbojaaS25
namespace Go.Proofs.Ytajecpmdagbojaa.Eng
open Go Go.RowKit
set_option linter.unusedVariables false
set_option linter.unusedSimpArgs false

variable {P : Program} {T : Tab}

def sameB (t u : Ty) : Bool := decide (t = u) || decide (t = under u)
def fieldsB (ty : Nat → Option Ty) : List Field → Nat → Ty → Bool
  | [], _, .unit => true
  | f :: fs, off, .pair a b => f.offset == off && (match ty f.type with
    | some u => sameB u a
    | none => false) && fieldsB ty fs (off + sz a) b
  | _, _, _ => false
def descB (ty : Nat → Option Ty) : TypeDesc → Ty → Bool
  | .int k, .int j => decide (k = j)
  | .bool, .bool => true
  | .string, .str => true
  | .slice e, .sl u => match ty e with
    | some u' => sameB u' u
    | none => false
  | .struct fs, t => isAggT t && fieldsB ty fs.toList 0 (under t)
  | _, _ => false
theorem sameB_spec {t u : Ty} (h : sameB t u = true) : Same t u := by
  simp only [sameB, Bool.or_eq_true, decide_eq_true_eq] at h
  exact h
theorem fieldsB_spec : ∀ (fs : List Field) (off : Nat) (t : Ty), fieldsB T.ty fs off t = true → FieldsOk T fs off t
  | [], off, t, h => by
    cases t <;> simp [fieldsB] at h
    trivial
  | f :: fs, off, t, h => by
    cases t <;> simp [fieldsB] at h
    obtain ⟨⟨h1, h2⟩, h3⟩ := h
    split at h2
    · rename_i u hu
      exact ⟨h1, ⟨u, hu, sameB_spec h2⟩, fieldsB_spec fs _ _ h3⟩
    · cases h2
theorem descB_spec {d : TypeDesc} {t : Ty} (h : descB T.ty d t = true) : DescOk T d t := by
  unfold descB at h
  split at h
  · simpa [DescOk] using h
  · trivial
  · trivial
  · split at h
    · rename_i u hu; exact ⟨u, hu, sameB_spec h⟩
    · cases h
  · rename_i fs t
    rw [Bool.and_eq_true] at h
    simp only [DescOk]
    exact ⟨h.1, fieldsB_spec _ _ _ h.2⟩
  · cases h
theorem tyFacts_mk {tid : TypeId} {t : Ty} (h1 : (P.info? tid).map (fun i => (i.size, decide (i.bytes ≤ 128), i.zero)) = some (sz t, true, some (zeroV t))) (h2 : (P.underlying tid).map (fun d => descB T.ty d t) = some true) (h3 : decide (sz t ≤ 100) = true) : TyFacts P T tid t := by
  refine ⟨?_, of_decide_eq_true h3, ?_⟩
  · cases hi : P.info? tid with
    | none => rw [hi] at h1; cases h1
    | some i =>
      rw [hi] at h1
      simp only [Option.map_some, Option.some.injEq, Prod.mk.injEq, decide_eq_true_eq] at h1
      exact ⟨i, rfl, h1⟩
  · cases hd : P.underlying tid with
    | none => rw [hd] at h2; cases h2
    | some d =>
      rw [hd] at h2
      simp only [Option.map_some, Option.some.injEq] at h2
      exact ⟨d, rfl, descB_spec h2⟩
theorem fnOk_mk {g : Nat} {f : FnT} {fn : Func} (h1 : P.funcs[g]? = some fn) (h2 : fn.body = some f.code) (h3 : fn.ntmps = f.ntmps) (h4 : fn.results.toList = f.res) (h5 : (fn.name == "runtime.NumGoroutine") = false) (h6 : decide (f.pars.length ≤ f.ntmps) = true) : FnOk P g f :=
  ⟨⟨fn, h1, h2, h3, h4, by simpa using h5⟩, of_decide_eq_true h6⟩

/-- A law: its arguments are only read, and it says true. -/
theorem law_calls (hm : P.follows .mixedOrders = true) (hT : TabOk P T) (hFn : ∀ g f, T.fn g = some f → FnOk P g f) {X : Ext T} (hX : ∀ g x, X g = some x → Sound P T g x) {k g : Nat} {f : FnT} {ps : List PV} {r : T.R g}
    (hf : T.fn g = some f) (ho : f.outs = [(.bool, ⟨false, false, false, false, false⟩)]) (hg : f.rg = []) (hpg : f.pg = []) (hr : runF T X k g ps = some r) (hs : spread (T.outTys g) r = [⟨.bool, true⟩]) {w : World} {vs : List Value}
    (ha : ArgsR w (fun _ => False) (fun b => b < w.heap.size) (fun _ _ => False) 0 f.pars ps vs) : Calls P g vs.toArray w fun e w' => e = .returned (.bool true) ∧ Below w.heap.size w w' := by
  have hgv : grpV f.pg vs = vs := by rw [hpg]; cases vs <;> rfl
  rw [← hgv]
  refine (run_sound hm hT hFn hX k g f ps r hf hr w (fun _ => False) (fun b => b < w.heap.size) (fun _ _ => False) vs ⟨ha, fun b h => h.elim, fun i b h => h.elim, fun i j b h => h.elim, fun b h => h, fun i b h => h.elim, by rw [hpg]; simp [oneG]⟩).mono ?_
  rintro e w' ⟨us, Gs, Fr, rfl, hev, _, hout, _, _, _⟩
  rw [ho, hs] at hout
  match us, hout with
  | [u], hout =>
    simp only [OutsR, OutR, Bool.false_eq_true, if_false] at hout
    obtain ⟨_, ⟨cs, h1, h2⟩, _⟩ := hout
    rw [h1.of_bool] at h2
    refine ⟨?_, ⟨hev.os, hev.tape, hev.output, hev.size, fun b hb => hev.block b hb (fun ⟨i, h⟩ => h)⟩⟩
    simp [isAggT] at h2
    rw [h2, hg]
    rfl
  | [], hout => simp [OutsR] at hout
  | _ :: _ :: _, hout => simp [OutsR] at hout
end Go.Proofs.Ytajecpmdagbojaa.Eng
