/-
  A function that asks whether its row is nil: run twice, once for nil, once for a row that is not.
-/
import Derived.Test.YtkgpkalclblhbaaGreatDoorS25
namespace Go.Proofs.YtkgpkalclblhbaaGreatDoor.Eng
open Go Go.RowKit
set_option linter.unusedVariables false
set_option linter.unusedSimpArgs false

variable {P : Program} {T : Tab}

/-- Just a function's run, calling nothing. -/
def alone (T : Tab) (g : Nat) (f : FnT) (z : Slot) : Option (T.R g) :=
  exec T (fun _ _ => none) g f (fun _ _ _ => none) 4000 [.code f.code] ⟨z :: List.replicate (f.ntmps - 1) .dead, List.replicate f.nk .none⟩
theorem nil_sound (hm : P.follows .mixedOrders = true) (hT : TabOk P T) (hFn : ∀ g f, T.fn g = some f → FnOk P g f) {g : Nat} {f : FnT} {e : Ty} (hf : T.fn g = some f) (hp : f.pars = [(.sl e, .ln)]) (hpg : f.pg = []) (res : List (Den e) → Option (T.R g))
    (h1 : alone T g f (.nil e) = res []) (h2 : ∀ x, alone T g f (.nnv true e x) = res x) : Sound P T g (onRow T g e res) := by
  intro f' ps r hf' hr w G0 G F vs hG hK
  rw [hf] at hf'
  cases hf'
  have hargs := hG.args
  rw [hp] at hargs
  match ps, vs, hargs with
  | [p], [v], hargs =>
    simp only [ArgsR, and_true] at hargs
    obtain ⟨ht, hv⟩ := hargs
    obtain ⟨t, x⟩ := p
    simp only at ht
    subst ht
    simp only [onRow, PV.to_self ⟨.sl e, x⟩, Option.bind_some] at hr
    have hok := hFn g f hf
    obtain ⟨fn, e1, e2, e3, e4, e5⟩ := hok.fn
    obtain ⟨hd, fp, hI⟩ := init_ok hG hK hok.pars hok.small
    have hinit : initSt f [⟨.sl e, x⟩] = ⟨mkVal true (.sl e) x :: List.replicate (f.ntmps - 1) .dead, List.replicate f.nk .none⟩ := by
      unfold initSt
      rw [hp, hpg]
      rfl
    have hgv : grpV f.pg [v] = [v] := by rw [hpg]; rfl
    rw [hgv] at hI ⊢
    rw [hinit] at hI
    have htmp : (startAct f [v]).tmps.getD 0 undef = v := by
      simp only [startAct, Array.getD_eq_getD_getElem?]
      rw [Array.getElem?_append_left (by simp)]
      simp
    have hW : Way P T g f w G0 G F [v] (startMv f G0 F [v] T.q) := ⟨hf, hok, fun b hb => hb, fun b hb => hb, fun j t m v h1 hm h2 => ⟨j, t, m, h1, hm, h2, rfl, rfl⟩, fun k v F' ⟨j, t, m, h1, hm, _, h2, _⟩ => ⟨j, t, m, h1, hm, h2⟩, by rw [hp]; rfl, fun _ h => h⟩
    intro cs
    have henter : Frame.enter P g [v].toArray .normal = (bfr g).at (startAct f [v]) [.code f.code] := by
      simp [Frame.enter, Frame.at, e1, e2, bfr, startAct, e3]
    rw [henter]
    have hS : ∀ h, Sound P T h ((fun _ _ => none : (g : Nat) → List PV → Option (T.R g)) h) := fun h f ps r _ hr => by cases hr
    have hcase : (x = [] ∧ v = .slice none 0 0) ∨ ∃ a n c, v = .slice (some a) n c := by
      rcases hv.nilIff with ⟨hx, oa, hvn⟩ | ⟨b, o, cap, cs', g1, g2, g3, g4, g5⟩
      · cases oa with
        | none => exact .inl ⟨hx, hvn⟩
        | some a => exact .inr ⟨a, 0, 0, hvn⟩
      · exact .inr ⟨_, _, _, g5⟩
    rcases hcase with ⟨hx, hvn⟩ | ⟨a0, n0, c0, hvs⟩
    · subst hx
      have hI2 := hI.setSlot 0 (z := .nil e) (by rw [htmp]; simp only [SlotR]; exact hvn)
      simp only [List.set_cons_zero] at hI2
      exact exec_ok hm hT hS hFn hW (fun id t s r h => by cases h) 4000 _ _ _ _ _ _ _ _ (h1.trans hr) hI2 rfl
    · have hI2 := hI.setSlot 0 (z := .nnv true e x) (by
        rw [htmp]
        simp only [SlotR]
        exact ⟨hv.move (fun b hb => .inr ⟨rfl, hb⟩) (fun _ _ => rfl), _, _, _, hvs⟩)
      simp only [List.set_cons_zero] at hI2
      exact exec_ok hm hT hS hFn hW (fun id t s r h => by cases h) 4000 _ _ _ _ _ _ _ _ ((h2 x).trans hr) hI2 rfl

end Go.Proofs.YtkgpkalclblhbaaGreatDoor.Eng
