/-
  Control, calls: what the interpreter says of a function is so.
-/
import Derived.Test.YtigeaijocajnhaaS24
namespace Go.Proofs.Ytigeaijocajnhaa.Eng
open Go Go.RowKit
set_option linter.unusedVariables false
set_option linter.unusedSimpArgs false

variable {P : Program} {T : Tab} {N : Nat} {w0 : World} {Mv : Mvp} {Gb Gs : BS} {hd : Nat → Value} {fp : Nat → BS} {s : St} {a : Act} {w w' : World}

def Fin (P : Program) (g : Nat) (cs : List Frame) (R : Ending → World → Prop) (m : Machine) : Prop :=
  ∃ e w' fr, R e w' ∧ Comes P m (lone fr cs w') e ∧ fr.fn = g ∧ fr.leaving P w' e
theorem Fin.of_steps {g : Nat} {cs : List Frame} {R : Ending → World → Prop} {m m' : Machine} (h : Steps P m m') (h' : Fin P g cs R m') : Fin P g cs R m := by
  obtain ⟨e, w', fr, h1, h2, h3⟩ := h'
  exact ⟨e, w', fr, h1, h2.of_steps h, h3⟩
def bfr (g : Nat) : Frame := { (default : Frame) with fn := g, kind := .normal }

/-- What is known of a run that is under way: what came in, and what will be said at its end. -/
structure Way (P : Program) (T : Tab) (g : Nat) (f : FnT) (w0 : World) (G0 G : BS) (F : Nat → BS) (vs : List Value) (Mv : Mvp) : Prop where
  fn : T.fn g = some f
  ok : FnOk P g f
  mv : ∀ b, Mv.bs b → ∃ i, F i b
  g0 : ∀ b, Mv.g0 b → G0 b
  pin : ∀ j t m v, f.pars[j]? = some (t, m) → m.pinned = true → vs[j]? = some v → Mv.pin (4 * j) v (F j)
  only : ∀ k v F', Mv.pin k v F' → ∃ i t m, f.pars[i]? = some (t, m) ∧ m.pinned = true ∧ k = 4 * i
  len : vs.length = f.pars.length
variable {g : Nat} {f : FnT} {G0 G : BS} {F : Nat → BS} {vs : List Value}

theorem ret_fin (hT : TabOk P T) (hW : Way P T g f w0 G0 G F vs Mv) (h : Inv w0.heap.size w0 Mv G Gs hd fp s a w) (hd0 : a.defers = []) {r : T.R g} (hr : ret T g f s = some r) {cs : List Frame} {todo : List Item} :
    Fin P g cs (Post w0 G0 G F f vs (spread (T.outTys g) r)) (lone { (bfr g).at a todo with mode := .returning } cs w) := by
  obtain ⟨fn, hf, hb, hn, hres, _⟩ := hW.ok.fn
  obtain ⟨v, h1, h2⟩ := ret_ok hT h hW.fn hres hW.mv hW.g0 hW.pin hW.len hr
  exact ⟨.returned v, w, _, h2, Steps.refl _ _, rfl, rfl, hd0, rfl, fn, hf, h1⟩
theorem exec_succ {call : (g : Nat) → List PV → Option (T.R g)} {again : Nat → List Item → St → Option (T.R g)} {n : Nat} {todo : List Item} {s : St} : exec T call g f again (n + 1) todo s = match todo with
    | [] => ret T g f s
    | .inBlock _ :: k => exec T call g f again n k s
    | .inLoop b :: k => again (firstId b) (.code b :: .inLoop b :: k) s
    | .code c :: k => match c with
      | .skip => exec T call g f again n k s
      | .region id ops draw => if isJoin f n id then again (id + 1000000) (.code (.region id ops draw) :: k) s else execRegion T call f.own ops draw s fun s' => exec T call g f again n k s'
      | .seq a b => exec T call g f again n (.code a :: .code b :: k) s
      | .cond c x y => match rd s none c with
        | .lit true => exec T call g f again n (.code x :: k) s
        | .lit false => exec T call g f again n (.code y :: k) s
        | .val _ .bool b => if b = true then exec T call g f again n (.code x :: k) s else exec T call g f again n (.code y :: k) s
        | _ => none
      | .block id b => exec T call g f again n (.code b :: .inBlock id :: k) s
      | .loop b => again (firstId b) (.code b :: .inLoop b :: k) s
      | .exit id => match exitTo id k with
        | some k' => exec T call g f again n k' s
        | none => none
      | .ret => ret T g f s
      | _ => none
    | _ => none := by
  rfl
theorem exec_ok (hm : P.follows .mixedOrders = true) (hT : TabOk P T) {call : (g : Nat) → List PV → Option (T.R g)} (hS : ∀ g, Sound P T g (call g)) (hFn : ∀ g f, T.fn g = some f → FnOk P g f) (hW : Way P T g f w0 G0 G F vs Mv) {cs : List Frame}
    {again : Nat → List Item → St → Option (T.R g)} (hA : ∀ id t s r, again id t s = some r → ∀ Gs hd fp a w, Inv w0.heap.size w0 Mv G Gs hd fp s a w → a.defers = [] →
      Fin P g cs (Post w0 G0 G F f vs (spread (T.outTys g) r)) (lone ((bfr g).at a t) cs w)) :
    ∀ (n : Nat) (todo : List Item) (s : St) (r : T.R g) (Gs : BS) (hd : Nat → Value) (fp : Nat → BS) (a : Act) (w : World), exec T call g f again n todo s = some r → Inv w0.heap.size w0 Mv G Gs hd fp s a w → a.defers = [] →
      Fin P g cs (Post w0 G0 G F f vs (spread (T.outTys g) r)) (lone ((bfr g).at a todo) cs w)
  | 0, todo, s, r, Gs, hd, fp, a, w, h, _, _ => by cases h
  | n + 1, todo, s, r, Gs, hd, fp, a, w, h, hI, hd0 => by
    have ih := exec_ok hm hT hS hFn hW hA n
    rw [exec_succ] at h
    split at h
    · exact (ret_fin hT hW hI hd0 h).of_steps (.one step_end)
    · exact (ih _ _ _ _ _ _ _ _ h hI hd0).of_steps (.one step_inBlock)
    · exact (hA _ _ _ _ h _ _ _ _ _ hI hd0).of_steps (.one step_inLoop)
    · rename_i c k
      split at h
      · exact (ih _ _ _ _ _ _ _ _ h hI hd0).of_steps (.one step_skip)
      · rename_i id ops draw
        split at h
        · exact hA _ _ _ _ h _ _ _ _ _ hI hd0
        · obtain ⟨s', h1, h2⟩ := region_ok hm hT hS hFn hI (id := id) h
          obtain ⟨e, a', w', hq, harr⟩ := h2 (fun e a' w' => e = .normal ∧ ∃ Gs' hd' fp', Inv w0.heap.size w0 Mv G Gs' hd' fp' s' a' w' ∧ a'.defers = a.defers) (fun a' w' Gs' hd' fp' hi hdf => ⟨rfl, Gs', hd', fp', hi, hdf⟩) (bfr g) k cs
          obtain ⟨rfl, Gs', hd', fp', hi, hdf⟩ := hq
          exact (ih _ _ _ _ _ _ _ _ h1 hi (hdf.trans hd0)).of_steps harr
      · exact (ih _ _ _ _ _ _ _ _ h hI hd0).of_steps (.one step_seq)
      · rename_i c x y
        have hz := rd_ok hI none c
        split at h
        · rename_i hc
          rw [hc] at hz
          simp only [SlotR] at hz
          exact (ih _ _ _ _ _ _ _ _ h hI hd0).of_steps (.one (step_cond hz))
        · rename_i hc
          rw [hc] at hz
          simp only [SlotR] at hz
          exact (ih _ _ _ _ _ _ _ _ h hI hd0).of_steps (.one (step_cond hz))
        · rename_i tn b hc
          rw [hc] at hz
          simp only [SlotR] at hz
          obtain ⟨cs', hz1, hz2⟩ := hz
          rw [hz1.of_bool] at hz2
          have hz3 : a.eval c = .bool b := by simpa [isAggT] using hz2
          have hst := step_cond (P := P) (b := bfr g) (x := x) (y := y) (k := k) (cs := cs) (w := w) hz3
          split at h
          · rename_i hb
            subst hb
            exact (ih _ _ _ _ _ _ _ _ h hI hd0).of_steps (.one hst)
          · rename_i hb
            obtain rfl : b = false := by simpa using hb
            exact (ih _ _ _ _ _ _ _ _ h hI hd0).of_steps (.one hst)
        · cases h
      · exact (ih _ _ _ _ _ _ _ _ h hI hd0).of_steps (.one step_block)
      · exact (hA _ _ _ _ h _ _ _ _ _ hI hd0).of_steps (.one step_loop)
      · split at h
        · rename_i k' hk
          exact (ih _ _ _ _ _ _ _ _ h hI hd0).of_steps (.one (step_exit hk))
        · cases h
      · exact (ret_fin hT hW hI hd0 h).of_steps (.one step_ret)
      · cases h
    · cases h

/-! ### Going in -/
structure Init (f : FnT) (vs : List Value) (G0 G : BS) (F : Nat → BS) (a : Act) (w : World) (i : Nat) (Mv : Mvp) (s : St) (hd : Nat → Value) (fp : Nat → BS) : Prop where
  inv : Inv w.heap.size w (noPin Mv) G G0 hd fp s a w
  from' : ∀ k b, fp k b → ∃ j, j < i ∧ F j b
  box : ∀ j t m v, j < i → f.pars[j]? = some (t, m) → m.pinned = true → vs[j]? = some v → obBox (s.ob.getD (4 * j) .none) = true ∧ hd (4 * j) = v ∧ ∀ b, fp (4 * j) b ↔ F j b
  fresh : ∀ j, i ≤ j → j < f.pars.length → s.ob.getD (4 * j) .gone = .none
theorem drop_cons {α : Type} {l : List α} {i : Nat} {x : α} {r : List α} (h : l.drop i = x :: r) : l[i]? = some x ∧ l.drop (i + 1) = r ∧ i < l.length := by
  have hi : i < l.length := by
    rcases Nat.lt_or_ge i l.length with h' | h'
    · exact h'
    · rw [List.drop_eq_nil_of_le h'] at h; cases h
  refine ⟨?_, ?_, hi⟩
  · have : (l.drop i)[0]? = some x := by rw [h]; rfl
    simpa using this
  · rw [← List.drop_drop, h]; rfl
theorem init_go {ps0 : List PV} (hG : GoodArgs w G0 G F f ps0 vs) (htm : ∀ j v, vs[j]? = some v → a.tmps.getD j undef = v) (hmv : ∀ b, Mv.bs b ↔ ∃ i, F i b) :
    ∀ (prs : List (Ty × PM)) (i : Nat) (ps : List PV) (us : List Value) {s : St} {hd : Nat → Value} {fp : Nat → BS}, f.pars.drop i = prs → vs.drop i = us → ArgsR w G0 G F i prs ps us → Init f vs G0 G F a w i Mv s hd fp →
      ∃ hd' fp', Init f vs G0 G F a w (i + prs.length) Mv (initGo i prs ps s) hd' fp'
  | [], i, ps, us, s, hd, fp, _, _, _, h => ⟨hd, fp, by simpa [initGo] using h⟩
  | (t, m) :: prs, i, [], us, s, hd, fp, _, _, ha, h => by cases us <;> simp [ArgsR] at ha
  | (t, m) :: prs, i, p :: ps, [], s, hd, fp, _, _, ha, h => by simp [ArgsR] at ha
  | (t, m) :: prs, i, p :: ps, v :: us, s, hd, fp, hp, hv, ha, h => by
    obtain ⟨hp1, hp2, hp3⟩ := drop_cons hp
    obtain ⟨hv1, hv2, hv3⟩ := drop_cons hv
    simp only [ArgsR] at ha
    obtain ⟨ha1, ha2, ha3⟩ := ha
    have htv := htm i v hv1
    have hfresh := h.fresh i (Nat.le_refl _) hp3
    have hlt := gone_none hfresh
    have hfree : ∀ b, F i b → Free w.heap.size (noPin Mv) G G0 fp w b := fun b hb =>
      ⟨(hG.own i b hb).1, .inr ((hmv b).2 ⟨i, hb⟩), fun h => (hG.own i b hb).2 (hG.g0 b h), (hG.own i b hb).2, fun k hk => by
        obtain ⟨j, hj, hjb⟩ := h.from' k b hk
        have := hG.disj i j b hb hjb
        omega⟩
    have go : ∀ {s1 : St} {hd1 : Nat → Value} {fp1 : Nat → BS}, Init f vs G0 G F a w (i + 1) Mv s1 hd1 fp1 → ∃ hd' fp', Init f vs G0 G F a w (i + (prs.length + 1)) Mv (initGo (i + 1) prs ps s1) hd' fp' := fun h1 => by
      have := init_go hG htm hmv prs (i + 1) ps us hp2 hv2 ha3 h1
      rwa [show i + 1 + prs.length = i + (prs.length + 1) by omega] at this
    have put : ∀ {ob : Ob} {z : Slot}, isNone ob = false → ObR w G0 G hd s.ob v (F i) ob → (obBox ob = true ∨ m.pinned = false) →
        (∀ hd', hd' (4 * i) = v → SlotR w G0 G hd' (s.ob.set (4 * i) ob) z v) → ∃ hd1 fp1, Init f vs G0 G F a w (i + 1) Mv ⟨s.sl.set i z, s.ob.set (4 * i) ob⟩ hd1 fp1 := by
      intro ob z h1 h2 h3 h4
      have hnew := h.inv.newKey hfresh (v := v) (F := F i) hfree (ob := ob) h1 h2
      have hnew2 := hnew.setSlot i (z := z) (by rw [htv]; exact h4 _ (upd_same _ _ _))
      refine ⟨_, _, hnew2, fun k b hb => ?_, fun j t' m' v' hj hpj hm' hvj => ?_, fun j hj hjl => ?_⟩
      · by_cases hk : k = 4 * i
        · subst hk; rw [upd_same] at hb; exact ⟨i, by omega, hb⟩
        · rw [upd_ne _ _ hk] at hb; obtain ⟨j, hj, hjb⟩ := h.from' k b hb; exact ⟨j, by omega, hjb⟩
      · by_cases hji : j = i
        · subst hji
          rw [hp1] at hpj
          rw [hv1] at hvj
          simp only [Option.some.injEq, Prod.mk.injEq] at hpj hvj
          subst hvj
          refine ⟨?_, upd_same _ _ _, fun b => by rw [upd_same]⟩
          simp only [getD_set_self, if_pos hlt]
          exact h3.resolve_right (fun hn => by rw [hpj.2, hm'] at hn; cases hn)
        · have hne : 4 * j ≠ 4 * i := by omega
          simp only
          rw [getD_set_ne' _ _ _ hne, upd_ne _ _ hne, upd_ne _ _ hne]
          exact h.box j t' m' v' (by omega) hpj hm' hvj
      · have hne : 4 * j ≠ 4 * i := by omega
        simp only
        rw [getD_set_ne' _ _ _ hne]
        exact h.fresh j (by omega) hjl
    have hGof : ∀ b, G b → Gof G0 G true b := fun b hb => .inr ⟨rfl, hb⟩
    simp only [List.length_cons]
    cases m with
    | ln =>
      have hz : SlotR w G0 G hd s.ob (mkVal true p.t p.x) v := mkVal_flag (VRep.move ha2 hGof (fun _ _ => rfl)) (fun _ => rfl)
      have h1 : Init f vs G0 G F a w (i + 1) Mv ⟨s.sl.set i (mkVal true p.t p.x), s.ob⟩ hd fp :=
        ⟨h.inv.setSlot i (by rw [htv]; exact hz), fun k b hb => by obtain ⟨j, hj, hjb⟩ := h.from' k b hb; exact ⟨j, by omega, hjb⟩, fun j t' m' v' hj hpj hm' hvj => by
          by_cases hji : j = i
          · subst hji; rw [hp1] at hpj; cases hpj; cases hm'
          · exact h.box j t' m' v' (by omega) hpj hm' hvj, fun j hj hjl => h.fresh j (by omega) hjl⟩
      simp only [initGo]
      exact go h1
    | ptr =>
      obtain ⟨b, o, cs, e1, e2, e3, e4, e5⟩ := ha2
      obtain ⟨hd1, fp1, h1⟩ := put (ob := .box false p.t p.x) (z := .ptr (4 * i) []) rfl
        ⟨b, o, cs, e1, e2, e3.move (fun b hb => .inl hb) (fun _ _ => rfl), e4, e5⟩ (.inl rfl) (fun hd' hh => by
          simp only [SlotR]
          rw [getD_set_self, if_pos hlt]
          refine ⟨rfl, fun t' ht' => ?_⟩
          exact ⟨b, o, by rw [hh]; exact e1, by simp only [pathOff, Nat.add_zero]; exact e1⟩)
      simp only [initGo]
      exact go h1
    | mv =>
      obtain ⟨e, x, rfl, h2⟩ := ha2
      obtain ⟨hd1, fp1, h1⟩ := put (ob := .sl (!flat e) false e x) (z := .ref (4 * i)) rfl
        ⟨OwnRow.flag (tn := true) (h2.move hGof (fun _ _ => rfl) (fun _ h => h)) (fun _ => by cases flat e <;> simp), by simp⟩ (.inr rfl) (fun hd' hh => by
          simp only [SlotR]
          rw [getD_set_self, if_pos hlt]
          exact ⟨rfl, hh.symm⟩)
      simp only [initGo]
      exact go h1
    | io =>
      obtain ⟨e, x, rfl, h2⟩ := ha2
      obtain ⟨hd1, fp1, h1⟩ := put (ob := .io (!flat e) e x) (z := .ref (4 * i)) rfl
        (OwnRow.flag (tn := true) (h2.move hGof (fun _ _ => rfl) (fun _ h => h)) (fun _ => by cases flat e <;> simp)) (.inl rfl) (fun hd' hh => by
          simp only [SlotR]
          rw [getD_set_self, if_pos hlt]
          exact ⟨rfl, hh.symm⟩)
      simp only [initGo]
      exact go h1
theorem args_len {w : World} {G : BS} {F : Nat → BS} : ∀ {prs : List (Ty × PM)} {i : Nat} {ps : List PV} {vs : List Value}, ArgsR w G0 G F i prs ps vs → vs.length = prs.length
  | [], i, [], [], _ => rfl
  | [], i, [], _ :: _, h => by simp [ArgsR] at h
  | [], i, _ :: _, _, h => by simp [ArgsR] at h
  | _ :: _, i, [], _, h => by simp [ArgsR] at h
  | (t, m) :: prs, i, p :: ps, [], h => by simp [ArgsR] at h
  | (t, m) :: prs, i, p :: ps, v :: vs, h => by
    simp only [ArgsR] at h
    simp [args_len h.2.2]
def startMv (f : FnT) (G0 : BS) (F : Nat → BS) (vs : List Value) : Mvp :=
  ⟨fun b => ∃ i, F i b, fun k v F' => ∃ j t m, f.pars[j]? = some (t, m) ∧ m.pinned = true ∧ vs[j]? = some v ∧ k = 4 * j ∧ F' = F j, G0⟩
def startAct (f : FnT) (vs : List Value) : Act := { tmps := vs.toArray ++ Array.replicate (f.ntmps - vs.toArray.size) undef, defers := [] }
theorem init_ok {ps : List PV} (hG : GoodArgs w G0 G F f ps vs) (hle : f.pars.length ≤ f.ntmps) : ∃ hd fp, Inv w.heap.size w (startMv f G0 F vs) G G0 hd fp (initSt f ps) (startAct f vs) w := by
  have hl := args_len hG.args
  have base : Init f vs G0 G F (startAct f vs) w 0 (startMv f G0 F vs) ⟨List.replicate f.ntmps .dead, List.replicate (4 * f.ntmps) .none⟩ (fun _ => undef) (fun _ _ => False) := by
    refine ⟨⟨⟨rfl, rfl, rfl, Nat.le_refl _, fun _ _ _ => rfl⟩, Nat.le_refl _, by simp [startAct]; omega, fun i => ?_, fun k => ?_, fun k b hb => hb.elim, fun k j b hb => hb.elim, fun b hb => ⟨hG.lt b (hG.g0 b hb), .inr (.inr hb)⟩, fun b hb => ⟨hG.lt b hb, fun ⟨i, hi⟩ => (hG.own i b hi).2 hb⟩, fun k v F hF => hF.elim⟩,
      fun k b hb => hb.elim, fun j t m v hj => by omega, fun j _ hj => ?_⟩
    · simp only [getD_replicate', SlotR]
    · simp only [getD_replicate', ObR]
    · rw [List.getD_eq_getElem?_getD, List.getElem?_replicate, if_pos (by omega)]; rfl
  obtain ⟨hd, fp, h⟩ := init_go hG (a := startAct f vs) (fun j v hv => by
    have hj := (List.getElem?_eq_some_iff.1 hv).1
    simp only [startAct, Array.getD_eq_getD_getElem?]
    rw [Array.getElem?_append_left (by simpa using hj)]
    simp [hv]) (Mv := startMv f G0 F vs) (fun b => Iff.rfl) f.pars 0 ps vs rfl rfl hG.args base
  refine ⟨hd, fp, h.inv.ev, h.inv.le, h.inv.len, h.inv.slots, h.inv.obs, h.inv.own, h.inv.disj, h.inv.gs, h.inv.gb, ?_⟩
  rintro k v F' ⟨j, t, m, h1, hm, h2, rfl, rfl⟩
  exact h.box j t m v (by have := (List.getElem?_eq_some_iff.1 h1).1; omega) h1 hm h2
theorem call_fn (hT : TabOk P T) {k : Nat} {X : Ext T} (hX : ∀ g x, X g = some x → Sound P T g x) (hFn : ∀ g f, T.fn g = some f → FnOk P g f)
    (hL : ∀ (g : Nat) (f : FnT) (w0 : World) (G0 G : BS) (F : Nat → BS) (vs : List Value) (Mv : Mvp), Way P T g f w0 G0 G F vs Mv → ∀ todo s r, runL T X k g todo s = some r → ∀ Gs hd fp a w, Inv w0.heap.size w0 Mv G Gs hd fp s a w → a.defers = [] → ∀ cs,
      Fin P g cs (Post w0 G0 G F f vs (spread (T.outTys g) r)) (lone ((bfr g).at a todo) cs w)) (h : Nat) : Sound P T h (runF T X k h) := by
  intro f ps r hf hr w G0 G F vs hG
  unfold runF at hr
  split at hr
  · rename_i x hx
    exact hX h x hx f ps r hf hr w G0 G F vs hG
  · split at hr
    · cases hr
    · rename_i fh hfh
      rw [hf] at hfh
      cases hfh
      split at hr
      · have hok := hFn h f hf
        obtain ⟨fn, e1, e2, e3, e4, e5⟩ := hok.fn
        obtain ⟨hd, fp, hI⟩ := init_ok hG hok.pars
        intro cs
        have hfin := hL h f w G0 G F vs (startMv f G0 F vs) ⟨hf, hok, fun b hb => hb, fun b hb => hb, fun j t m v h1 hm h2 => ⟨j, t, m, h1, hm, h2, rfl, rfl⟩, fun k v F' ⟨j, t, m, h1, hm, _, h2, _⟩ => ⟨j, t, m, h1, hm, h2⟩, args_len hG.args⟩ _ _ _ hr _ _ _ _ _ hI rfl cs
        have henter : Frame.enter P h vs.toArray .normal = (bfr h).at (startAct f vs) [.code f.code] := by
          simp [Frame.enter, Frame.at, e1, e2, bfr, startAct, e3]
        rw [henter]
        exact hfin
      · cases hr
theorem sound (hm : P.follows .mixedOrders = true) (hT : TabOk P T) (hFn : ∀ g f, T.fn g = some f → FnOk P g f) {X : Ext T} (hX : ∀ g x, X g = some x → Sound P T g x) :
    ∀ (k : Nat) (g : Nat) (f : FnT) (w0 : World) (G0 G : BS) (F : Nat → BS) (vs : List Value) (Mv : Mvp), Way P T g f w0 G0 G F vs Mv → ∀ todo s r, runL T X k g todo s = some r → ∀ Gs hd fp a w, Inv w0.heap.size w0 Mv G Gs hd fp s a w → a.defers = [] → ∀ cs,
      Fin P g cs (Post w0 G0 G F f vs (spread (T.outTys g) r)) (lone ((bfr g).at a todo) cs w)
  | 0, g, f, w0, G0, G, F, vs, Mv, hW, todo, s, r, hr, _, _, _, _, _, _, _, _ => by cases hr
  | k + 1, g, f, w0, G0, G, F, vs, Mv, hW, todo, s, r, hr, Gs, hd, fp, a, w, hI, hd0, cs => by
    have hS := call_fn hT hX hFn (sound hm hT hFn hX k)
    unfold runL at hr
    rw [hW.fn] at hr
    simp only at hr
    refine exec_ok hm hT (call := fun h ps => runF T X k h ps) (fun g => hS g) hFn hW ?_ 4000 todo s r Gs hd fp a w hr hI hd0
    intro b t s1 r1 h1 Gs1 hd1 fp1 a1 w1 hI1 hd1'
    split at h1
    · rename_i s2 hc
      obtain ⟨Gs2, hd2, fp2, hI2⟩ := canon_ok hI1 hW.only hc
      exact sound hm hT hFn hX k g f w0 G0 G F vs Mv hW _ _ _ h1 _ _ _ _ _ hI2 hd1' cs
    · cases h1
/-- What the interpreter says of a call is so. -/
theorem run_sound (hm : P.follows .mixedOrders = true) (hT : TabOk P T) (hFn : ∀ g f, T.fn g = some f → FnOk P g f) {X : Ext T} (hX : ∀ g x, X g = some x → Sound P T g x) (k h : Nat) : Sound P T h (runF T X k h) :=
  call_fn hT hX hFn (sound hm hT hFn hX k) h
#print axioms run_sound
end Go.Proofs.Ytigeaijocajnhaa.Eng
