/-
  Functions of the library that have contracts: what the interpreter says of them is so.
-/
import Derived.Test.YtkgpkalclblhbaaGreatDoorS26
import Derived.Test.YtkgpkalclblhbaaGreatDoorE3
import Derived.Test.YtkgpkalclblhbaaGreatDoorS27
import Derived.Below
namespace Go.Proofs.YtkgpkalclblhbaaGreatDoor.Eng
open Go Go.RowKit
set_option linter.unusedVariables false
set_option linter.unusedSimpArgs false

variable {P : Program} {T : Tab}

theorem grpV_nil : ∀ us : List Value, grpV [] us = us
  | [] => rfl
  | _ :: _ => rfl
theorem lib_post {w w' : World} {G0 G : BS} {F : Nat → BS} {f : FnT} {vs us : List Value} {rs : List PV} (hrg : f.rg = []) (hb : Below w.heap.size w w') (ho : OutsR w' (fun _ => False) G (fun _ _ => False) 0 f.outs rs us)
    (hp : PtrsR w' (fun _ => False) (Gof (fun _ => False) G true) F 0 f.pars vs (rs.drop f.outs.length)) : Post w G0 G F f vs rs (.returned (tupOf us)) w' :=
  ⟨us, fun _ => False, fun _ _ => False, by rw [hrg, grpV_nil], ⟨hb.os, hb.tape, hb.output, hb.size, fun b h _ => hb.block b h⟩, fun b h => h.elim, ho, hp, fun j b h => h.elim, fun j j' b h => h.elim⟩
theorem PV.is_self {t : Ty} (x : Den t) : (PV.mk t x).is t = some x := by simp [PV.is]
theorem gate_some {α : Type} {c : Bool} {x : Option α} {r : α} (h : gate c x = some r) : c = true ∧ x = some r := by
  unfold gate at h
  split at h
  · exact ⟨by assumption, h⟩
  · cases h
theorem str_rep (w : World) (G : BS) (l : List UInt8) : VRep w G .str l (.string ⟨l.toArray⟩) := by
  have h := VRep.str (w := w) (G := G) (⟨l.toArray⟩ : ByteArray)
  simpa using h
theorem err_rep (w : World) (G : BS) : VRep w G .err true .nilIface := ⟨_, .errNil, by simp [isAggT]⟩
theorem err_rep' (w : World) (G : BS) (t : TypeId) (v : Value) : VRep w G .err false (.iface t v) := ⟨_, .err t v, by simp [isAggT]⟩
def rm0 : RM := ⟨false, false, false, false, false⟩
theorem int_sound {g : Nat} {f : FnT} {out : List UInt8 → T.R g} (hf : T.fn g = some f) (hp : f.pars = [(.int .i64, .ln)]) (ho : f.outs = [(.str, rm0)]) (hrg : f.rg = []) (hpg : f.pg = []) (hs : ∀ x, spread (T.outTys g) (out x) = [⟨.str, x⟩])
    (hc : ∀ (n : Int) (w : World), T.q w → -9223372036854775808 ≤ n → n ≤ 9223372036854775807 → Calls P g #[.int .i64 n] w fun e w' => e = .returned (.string ⟨(Lib.itoa n).toArray⟩) ∧ Below w.heap.size w w') : Sound P T g (onInt T g out) := by
  intro f' ps r hf' hr w G0 G F vs hG hK
  rw [hf] at hf'
  cases hf'
  have hq : T.q w := hK w (fun _ _ _ => rfl)
  have ha := hG.args
  rw [hp] at ha
  match ps, vs, ha with
  | [⟨t, n⟩], [v], ha =>
    simp only [ArgsR, and_true] at ha
    obtain ⟨ht, hv⟩ := ha
    subst ht
    obtain rfl := VRep.of_int hv
    simp only [onInt, PV.is_self, Option.bind_some] at hr
    obtain ⟨h1, h2⟩ := gate_some hr
    cases h2
    have h3 := of_decide_eq_true h1
    rw [hpg, grpV_nil]
    refine (hc n w hq h3.1 h3.2).mono ?_
    rintro e w' ⟨rfl, hb⟩
    exact lib_post (us := [_]) hrg hb (by rw [ho, hs]; exact ⟨rfl, by simp only [OutR, rm0, Bool.false_eq_true, if_false]; exact str_rep _ _ _, trivial⟩) (by rw [ho, hs, hp]; trivial)
theorem atoi_sound {g : Nat} {f : FnT} {out : Int × Bool → T.R g} (hf : T.fn g = some f) (hp : f.pars = [(.str, .ln)]) (ho : f.outs = [(.int .i64, rm0), (.err, rm0)]) (hrg : f.rg = []) (hpg : f.pg = []) (hs : ∀ x, spread (T.outTys g) (out x) = [⟨.int .i64, x.1⟩, ⟨.err, x.2⟩])
    (hc : ∀ (s : ByteArray) (w : World), T.q w → s.size < 4294967281 → Calls P g #[.string s] w fun e w' => (∃ v, e = .returned (.tuple #[.int .i64 (atoiD s.data.toList).1, v]) ∧ ((atoiD s.data.toList).2 = true ∧ v = .nilIface ∨ (atoiD s.data.toList).2 = false ∧ ∃ t u, v = .iface t u)) ∧ Below w.heap.size w w') : Sound P T g (onStr T g out) := by
  intro f' ps r hf' hr w G0 G F vs hG hK
  rw [hf] at hf'
  cases hf'
  have hq : T.q w := hK w (fun _ _ _ => rfl)
  have ha := hG.args
  rw [hp] at ha
  match ps, vs, ha with
  | [⟨t, n⟩], [v], ha =>
    simp only [ArgsR, and_true] at ha
    obtain ⟨ht, hv⟩ := ha
    subst ht
    obtain ⟨s, rfl, rfl⟩ := VRep.of_str hv
    simp only [onStr, PV.is_self, Option.bind_some] at hr
    obtain ⟨h1, h2⟩ := gate_some hr
    cases h2
    have h3 := of_decide_eq_true h1
    rw [hpg, grpV_nil]
    refine (hc s w hq (by simpa using h3)).mono ?_
    rintro e w' ⟨⟨v, rfl, hv2⟩, hb⟩
    refine lib_post (us := [_, v]) hrg hb ?_ (by rw [ho, hs, hp]; trivial)
    rw [ho, hs]
    refine ⟨rfl, by simp only [OutR, rm0, Bool.false_eq_true, if_false]; exact VRep.int _ _, rfl, ?_, trivial⟩
    simp only [OutR, rm0, Bool.false_eq_true, if_false]
    rcases hv2 with ⟨h4, rfl⟩ | ⟨h4, t, u, rfl⟩
    · rw [h4]; exact err_rep _ _
    · rw [h4]; exact err_rep' _ _ _ _
theorem cut_sound {g : Nat} {f : FnT} {out : List UInt8 × List UInt8 × Bool → T.R g} (hf : T.fn g = some f) (hp : f.pars = [(.str, .ln), (.str, .ln)]) (ho : f.outs = [(.str, rm0), (.str, rm0), (.bool, rm0)]) (hrg : f.rg = []) (hpg : f.pg = []) (hs : ∀ x, spread (T.outTys g) (out x) = [⟨.str, x.1⟩, ⟨.str, x.2.1⟩, ⟨.bool, x.2.2⟩])
    (hc : ∀ (s sep : ByteArray) (w : World), T.q w → s.size < 4294967281 → Calls P g #[.string s, .string sep] w fun e w' => e = .returned (.tuple #[.string ⟨(cutD s.data.toList sep.data.toList).1.toArray⟩, .string ⟨(cutD s.data.toList sep.data.toList).2.1.toArray⟩, .bool (cutD s.data.toList sep.data.toList).2.2]) ∧ Below w.heap.size w w') : Sound P T g (onStr2 T g out) := by
  intro f' ps r hf' hr w G0 G F vs hG hK
  rw [hf] at hf'
  cases hf'
  have hq : T.q w := hK w (fun _ _ _ => rfl)
  have ha := hG.args
  rw [hp] at ha
  match ps, vs, ha with
  | [⟨t, n⟩, ⟨t', n'⟩], [v, v'], ha =>
    simp only [ArgsR, and_true] at ha
    obtain ⟨ht, hv, ht', hv'⟩ := ha
    subst ht
    subst ht'
    obtain ⟨s, rfl, rfl⟩ := VRep.of_str hv
    obtain ⟨s', rfl, rfl⟩ := VRep.of_str hv'
    simp only [onStr2, PV.is_self, Option.bind_some] at hr
    obtain ⟨h1, h2⟩ := gate_some hr
    cases h2
    have h3 := of_decide_eq_true h1
    rw [hpg, grpV_nil]
    refine (hc s s' w hq (by simpa using h3)).mono ?_
    rintro e w' ⟨rfl, hb⟩
    refine lib_post (us := [_, _, _]) hrg hb ?_ (by rw [ho, hs, hp]; trivial)
    rw [ho, hs]
    refine ⟨rfl, ?_, rfl, ?_, rfl, ?_, trivial⟩
    · simp only [OutR, rm0, Bool.false_eq_true, if_false]; exact str_rep _ _ _
    · simp only [OutR, rm0, Bool.false_eq_true, if_false]; exact str_rep _ _ _
    · simp only [OutR, rm0, Bool.false_eq_true, if_false]; exact VRep.bool _
theorem RepL.strs {w : World} {G : BS} : ∀ {xs : List (Den .str)} {cs : List Value}, RepL w G .str xs cs → ∃ ys : List ByteArray, xs = ys.map (·.data.toList) ∧ cs = ys.map Value.string
  | [], cs, h => by
    cases h
    exact ⟨[], rfl, rfl⟩
  | x :: xs, cs, h => by
    cases h with
    | cons _ _ _ ds es h1 h2 =>
      obtain ⟨ys, rfl, rfl⟩ := RepL.strs h2
      cases h1
      exact ⟨_ :: ys, rfl, rfl⟩
theorem join_sound {g : Nat} {f : FnT} {out : List UInt8 → T.R g} (hf : T.fn g = some f) (hp : f.pars = [(.sl .str, .ln), (.str, .ln)]) (ho : f.outs = [(.str, rm0)]) (hrg : f.rg = []) (hpg : f.pg = []) (hs : ∀ x, spread (T.outTys g) (out x) = [⟨.str, x⟩])
    (hc : ∀ (bk o c : Nat) (xs : List ByteArray) (sep : ByteArray) (w : World), T.q w → (∀ (j : Nat) x, xs[j]? = some x → w.cell? ⟨bk, o + j, none⟩ = some (.string x)) → bk < w.heap.size → xs.length ≤ 140737488355328 → xs.length ≤ c → (Lib.join (xs.map (·.data.toList)) sep.data.toList).length ≤ 140737488355328 →
      Calls P g #[.slice (some ⟨bk, o, none⟩) xs.length c, .string sep] w fun e w' => e = .returned (.string ⟨(Lib.join (xs.map (·.data.toList)) sep.data.toList).toArray⟩) ∧ Below w.heap.size w w') : Sound P T g (onJoin T g out) := by
  intro f' ps r hf' hr w G0 G F vs hG hK
  rw [hf] at hf'
  cases hf'
  have hq : T.q w := hK w (fun _ _ _ => rfl)
  have ha := hG.args
  rw [hp] at ha
  match ps, vs, ha with
  | [⟨t, n⟩, ⟨t', n'⟩], [v, v'], ha =>
    simp only [ArgsR, and_true] at ha
    obtain ⟨ht, hv, ht', hv'⟩ := ha
    subst ht
    subst ht'
    obtain ⟨s', rfl, rfl⟩ := VRep.of_str hv'
    simp only [onJoin, PV.is_self, Option.bind_some] at hr
    obtain ⟨h1, h2⟩ := gate_some hr
    cases h2
    obtain ⟨h3, h4, h5⟩ := of_decide_eq_true h1
    rw [hpg, grpV_nil]
    rcases VRep.nilIff hv with ⟨rfl, _, _⟩ | ⟨b, o, cap, cs, a1, a2, a3, a4, rfl⟩
    · simp at h3
    · obtain ⟨ys, rfl, rfl⟩ := RepL.strs a3
      rw [List.length_map] at h3 h4 a1 ⊢
      have hcell : ∀ (j : Nat) x, ys[j]? = some x → w.cell? ⟨b, o + j, none⟩ = some (.string x) := fun j x hj => a4 j _ (by rw [List.getElem?_map, hj]; rfl)
      have hlt : b < w.heap.size := by
        obtain ⟨y, hy⟩ : ∃ y, ys[0]? = some y := ⟨ys[0], List.getElem?_eq_getElem h3⟩
        exact (cell_plain (hcell 0 y hy)).2
      refine (hc b o cap ys s' w hq hcell hlt (by omega) a1 (by unfold joinD at h5; omega)).mono ?_
      rintro e w' ⟨rfl, hb⟩
      exact lib_post (us := [_]) hrg hb (by rw [ho, hs]; exact ⟨rfl, by simp only [OutR, rm0, Bool.false_eq_true, if_false]; exact str_rep _ _ _, trivial⟩) (by rw [ho, hs, hp]; trivial)
end Go.Proofs.YtkgpkalclblhbaaGreatDoor.Eng
