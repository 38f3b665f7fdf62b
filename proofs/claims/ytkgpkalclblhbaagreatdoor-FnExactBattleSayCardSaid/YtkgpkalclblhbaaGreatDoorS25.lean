/-
  Control, calls: what the interpreter says of a function is so.
-/
import Derived.Test.YtkgpkalclblhbaaGreatDoorS24
namespace Go.Proofs.YtkgpkalclblhbaaGreatDoor.Eng
open Go Go.RowKit
set_option linter.unusedVariables false
set_option linter.unusedSimpArgs false

variable {P : Program} {T : Tab} {N : Nat} {w0 : World} {Mv : Mvp} {Gb Gs : BS} {hd : Nat → Value} {fp : Nat → BS} {s : St} {a : Act} {w w' : World}

def Fin (P : Program) (g : Nat) (cs : List Frame) (R : Ending → World → Prop) (m : Machine) : Prop :=
  ∃ e w' fr, R e w' ∧ Comes P m (lone fr cs w') e ∧ fr.fn = g ∧ fr.leaving P w' e
theorem Fin.of_steps {g : Nat} {cs : List Frame} {R : Ending → World → Prop} {m m' : Machine} (h : Steps P m m') (h' : Fin P g cs R m') : Fin P g cs R m := by
  obtain ⟨e, w', fr, h1, h2, h3⟩ := h'
  exact ⟨e, w', fr, h1, h2.of_steps h, h3⟩
def bfr (g : Nat) : Frame := { (default : Frame) with fn := g, kind := .normal }

/-- What is known of a run that is under way: what came in, and what will be said at its end. -/
structure Way (P : Program) (T : Tab) (g : Nat) (f : FnT) (w0 : World) (G0 G : BS) (F : Nat → BS) (vs : List Value) (Mv : Mvp) : Prop where
  fn : T.fn g = some f
  ok : FnOk P g f
  mv : ∀ b, Mv.bs b → ∃ i, F i b
  g0 : ∀ b, Mv.g0 b → G0 b
  pin : ∀ j t m v, f.pars[j]? = some (t, m) → m.boxed = true → vs[j]? = some v → Mv.pin (f.kb + j) v (F j)
  only : ∀ k v F', Mv.pin k v F' → ∃ i t m, f.pars[i]? = some (t, m) ∧ m.boxed = true ∧ k = f.kb + i
  len : vs.length = f.pars.length
  q : ∀ w, Mv.q w → T.q w
variable {g : Nat} {f : FnT} {G0 G : BS} {F : Nat → BS} {vs : List Value}

theorem ret_fin (hT : TabOk P T) (hW : Way P T g f w0 G0 G F vs Mv) (h : Inv w0.heap.size w0 Mv G Gs hd fp s a w) (hd0 : a.defers = []) {r : T.R g} (hr : ret T g f s = some r) {cs : List Frame} {todo : List Item} :
    Fin P g cs (Post w0 G0 G F f vs (spread (T.outTys g) r)) (lone { (bfr g).at a todo with mode := .returning } cs w) := by
  obtain ⟨fn, hf, hb, hn, hres, _⟩ := hW.ok.fn
  obtain ⟨v, h1, h2⟩ := ret_ok hT h hW.fn hres hW.mv hW.g0 hW.pin hW.only hW.len hr
  exact ⟨.returned v, w, _, h2, Steps.refl _ _, rfl, rfl, hd0, rfl, fn, hf, h1⟩
theorem exec_succ {call : (g : Nat) → List PV → Option (T.R g)} {again : Nat → List Item → St → Option (T.R g)} {n : Nat} {todo : List Item} {s : St} : exec T call g f again (n + 1) todo s = match todo with
    | [] => ret T g f s
    | .inBlock _ :: k => exec T call g f again n k s
    | .inLoop b :: k => again (firstId b) (.code b :: .inLoop b :: k) s
    | .code c :: k => match c with
      | .skip => exec T call g f again n k s
      | .region id ops draw => if isJoin f n id then again (id + 1000000) (.code (.region id ops draw) :: k) s else execRegion T call f.own ops draw s fun s' => exec T call g f again n k s'
      | .seq a b => exec T call g f again n (.code a :: .code b :: k) s
      | .cond c x y => match rd s none c with
        | .lit true => exec T call g f again n (.code x :: k) s
        | .lit false => exec T call g f again n (.code y :: k) s
        | .val _ .bool b => if b = true then exec T call g f again n (.code x :: k) s else exec T call g f again n (.code y :: k) s
        | _ => none
      | .block id b => exec T call g f again n (.code b :: .inBlock id :: k) s
      | .loop b => again (firstId b) (.code b :: .inLoop b :: k) s
      | .exit id => match exitTo id k with
        | some k' => exec T call g f again n k' s
        | none => none
      | .ret => ret T g f s
      | _ => none
    | _ => none := by
  rfl
theorem exec_ok (hm : P.follows .mixedOrders = true) (hT : TabOk P T) {call : (g : Nat) → List PV → Option (T.R g)} (hS : ∀ g, Sound P T g (call g)) (hFn : ∀ g f, T.fn g = some f → FnOk P g f) (hW : Way P T g f w0 G0 G F vs Mv) {cs : List Frame}
    {again : Nat → List Item → St → Option (T.R g)} (hA : ∀ id t s r, again id t s = some r → ∀ Gs hd fp a w, Inv w0.heap.size w0 Mv G Gs hd fp s a w → a.defers = [] →
      Fin P g cs (Post w0 G0 G F f vs (spread (T.outTys g) r)) (lone ((bfr g).at a t) cs w)) :
    ∀ (n : Nat) (todo : List Item) (s : St) (r : T.R g) (Gs : BS) (hd : Nat → Value) (fp : Nat → BS) (a : Act) (w : World), exec T call g f again n todo s = some r → Inv w0.heap.size w0 Mv G Gs hd fp s a w → a.defers = [] →
      Fin P g cs (Post w0 G0 G F f vs (spread (T.outTys g) r)) (lone ((bfr g).at a todo) cs w)
  | 0, todo, s, r, Gs, hd, fp, a, w, h, _, _ => by cases h
  | n + 1, todo, s, r, Gs, hd, fp, a, w, h, hI, hd0 => by
    have ih := exec_ok hm hT hS hFn hW hA n
    rw [exec_succ] at h
    split at h
    · exact (ret_fin hT hW hI hd0 h).of_steps (.one step_end)
    · exact (ih _ _ _ _ _ _ _ _ h hI hd0).of_steps (.one step_inBlock)
    · exact (hA _ _ _ _ h _ _ _ _ _ hI hd0).of_steps (.one step_inLoop)
    · rename_i c k
      split at h
      · exact (ih _ _ _ _ _ _ _ _ h hI hd0).of_steps (.one step_skip)
      · rename_i id ops draw
        split at h
        · exact hA _ _ _ _ h _ _ _ _ _ hI hd0
        · obtain ⟨s', h1, h2⟩ := region_ok hm hT ⟨hS, hW.q⟩ hFn hI (id := id) h
          obtain ⟨e, a', w', hq, harr⟩ := h2 (fun e a' w' => e = .normal ∧ ∃ Gs' hd' fp', Inv w0.heap.size w0 Mv G Gs' hd' fp' s' a' w' ∧ a'.defers = a.defers) (fun a' w' Gs' hd' fp' hi hdf => ⟨rfl, Gs', hd', fp', hi, hdf⟩) (bfr g) k cs
          obtain ⟨rfl, Gs', hd', fp', hi, hdf⟩ := hq
          exact (ih _ _ _ _ _ _ _ _ h1 hi (hdf.trans hd0)).of_steps harr
      · exact (ih _ _ _ _ _ _ _ _ h hI hd0).of_steps (.one step_seq)
      · rename_i c x y
        have hz := rd_ok hI none c
        split at h
        · rename_i hc
          rw [hc] at hz
          simp only [SlotR] at hz
          exact (ih _ _ _ _ _ _ _ _ h hI hd0).of_steps (.one (step_cond hz))
        · rename_i hc
          rw [hc] at hz
          simp only [SlotR] at hz
          exact (ih _ _ _ _ _ _ _ _ h hI hd0).of_steps (.one (step_cond hz))
        · rename_i tn b hc
          rw [hc] at hz
          simp only [SlotR] at hz
          obtain ⟨cs', hz1, hz2⟩ := hz
          rw [hz1.of_bool] at hz2
          have hz3 : a.eval c = .bool b := by simpa [isAggT] using hz2
          have hst := step_cond (P := P) (b := bfr g) (x := x) (y := y) (k := k) (cs := cs) (w := w) hz3
          split at h
          · rename_i hb
            subst hb
            exact (ih _ _ _ _ _ _ _ _ h hI hd0).of_steps (.one hst)
          · rename_i hb
            obtain rfl : b = false := by simpa using hb
            exact (ih _ _ _ _ _ _ _ _ h hI hd0).of_steps (.one hst)
        · cases h
      · exact (ih _ _ _ _ _ _ _ _ h hI hd0).of_steps (.one step_block)
      · exact (hA _ _ _ _ h _ _ _ _ _ hI hd0).of_steps (.one step_loop)
      · split at h
        · rename_i k' hk
          exact (ih _ _ _ _ _ _ _ _ h hI hd0).of_steps (.one (step_exit hk))
        · cases h
      · exact (ret_fin hT hW hI hd0 h).of_steps (.one step_ret)
      · cases h
    · cases h

/-! ### Going in -/
structure Init (f : FnT) (vs : List Value) (G0 G : BS) (F : Nat → BS) (a : Act) (w : World) (i : Nat) (n : Nat) (ob : List Ob) (hd : Nat → Value) (fp : Nat → BS) (Mv : Mvp) : Prop where
  inv : Inv w.heap.size w (noPin Mv) G G0 hd fp ⟨List.replicate n .dead, ob⟩ a w
  from' : ∀ k b, fp k b → ∃ j, j < i ∧ F j b
  box : ∀ j t m v, j < i → f.pars[j]? = some (t, m) → m.boxed = true → vs[j]? = some v → obBox (ob.getD (f.kb + j) .none) = true ∧ hd (f.kb + j) = v ∧ ∀ b, fp (f.kb + j) b ↔ F j b
  fresh : ∀ j, i ≤ j → j < f.pars.length → ob.getD (f.kb + j) .gone = .none
  norg : ∀ v, ¬ Rg hd v
theorem drop_cons {α : Type} {l : List α} {i : Nat} {x : α} {r : List α} (h : l.drop i = x :: r) : l[i]? = some x ∧ l.drop (i + 1) = r ∧ i < l.length := by
  have hi : i < l.length := by
    rcases Nat.lt_or_ge i l.length with h' | h'
    · exact h'
    · rw [List.drop_eq_nil_of_le h'] at h; cases h
  refine ⟨?_, ?_, hi⟩
  · have : (l.drop i)[0]? = some x := by rw [h]; rfl
    simpa using this
  · rw [← List.drop_drop, h]; rfl
/-- Keys keep their heads and kinds. -/
def Kept (hd hd' : Nat → Value) (ob ob' : List Ob) : Prop := ∀ k, isNone (ob.getD k .none) = false → isNone (ob'.getD k .none) = false ∧ hd' k = hd k ∧ (∀ r, obShape (ob'.getD k .none) = some r → obShape (ob.getD k .none) = some r)
theorem init_go {n : Nat} {Mv : Mvp} {ps0 : List PV} (hG : GoodArgs w G0 G F f ps0 vs) (hmv : ∀ b, Mv.bs b ↔ ∃ i, F i b) :
    ∀ (prs : List (Ty × PM)) (i : Nat) (ps : List PV) (us : List Value) {ob : List Ob} {hd : Nat → Value} {fp : Nat → BS}, f.pars.drop i = prs → vs.drop i = us → ArgsR w G0 G F i prs ps us → Init f vs G0 G F a w i n ob hd fp Mv →
      ∃ hd' fp', Init f vs G0 G F a w (i + prs.length) n (initOb (f.kb + i) prs ps ob) hd' fp' Mv ∧ SlotsR w G0 G hd' (initOb (f.kb + i) prs ps ob) (initZ (f.kb + i) prs ps) us ∧ Kept hd hd' ob (initOb (f.kb + i) prs ps ob)
  | [], i, ps, us, ob, hd, fp, hp, hv, ha, h => by
    match ps, us, ha with
    | [], [], _ => exact ⟨hd, fp, by simpa [initOb] using h, by simp [initZ, SlotsR], fun k hk => by simp only [initOb]; exact ⟨hk, trivial, fun _ x => x⟩⟩
    | [], _ :: _, ha => simp [ArgsR] at ha
    | _ :: _, us, ha => cases us <;> simp [ArgsR] at ha
  | (t, m) :: prs, i, [], us, ob, hd, fp, _, _, ha, h => by cases us <;> simp [ArgsR] at ha
  | (t, m) :: prs, i, p :: ps, [], ob, hd, fp, _, _, ha, h => by simp [ArgsR] at ha
  | (t, m) :: prs, i, p :: ps, v :: us, ob, hd, fp, hp, hv, ha, h => by
    obtain ⟨hp1, hp2, hp3⟩ := drop_cons hp
    obtain ⟨hv1, hv2, hv3⟩ := drop_cons hv
    simp only [ArgsR] at ha
    obtain ⟨ha1, ha2, ha3⟩ := ha
    have hfresh := h.fresh i (Nat.le_refl _) hp3
    have hlt := gone_none hfresh
    have hfree : ∀ b, F i b → Free w.heap.size (noPin Mv) G G0 fp w b := fun b hb =>
      ⟨(hG.own i b hb).1, .inr ((hmv b).2 ⟨i, hb⟩), fun h => (hG.own i b hb).2 (hG.g0 b h), (hG.own i b hb).2, fun k hk => by
        obtain ⟨j, hj, hjb⟩ := h.from' k b hk
        have := hG.disj i j b hb hjb
        omega⟩
    have go : ∀ {ob1 : List Ob} {hd1 : Nat → Value} {fp1 : Nat → BS} {z : Slot}, Init f vs G0 G F a w (i + 1) n ob1 hd1 fp1 Mv → Kept hd hd1 ob ob1 → SlotR w G0 G hd1 ob1 z v →
        ∃ hd' fp', Init f vs G0 G F a w (i + (prs.length + 1)) n (initOb (f.kb + i + 1) prs ps ob1) hd' fp' Mv ∧ SlotsR w G0 G hd' (initOb (f.kb + i + 1) prs ps ob1) (z :: initZ (f.kb + i + 1) prs ps) (v :: us) ∧ Kept hd hd' ob (initOb (f.kb + i + 1) prs ps ob1) := fun h1 hk hz => by
      obtain ⟨hd', fp', q1, q2, q3⟩ := init_go hG hmv prs (i + 1) ps us hp2 hv2 ha3 h1
      rw [show f.kb + (i + 1) = f.kb + i + 1 by omega] at q1 q2 q3
      refine ⟨hd', fp', by rwa [show i + 1 + prs.length = i + (prs.length + 1) by omega] at q1, ?_, fun k hkk => ?_⟩
      · simp only [SlotsR]
        exact ⟨v, us, rfl, slot_move (fun _ x => x) (fun _ _ => rfl) q3 (fun v hv => (h1.norg v hv).elim) _ _ hz, q2⟩
      · obtain ⟨a1, a2, a3⟩ := hk k hkk
        obtain ⟨b1, b2, b3⟩ := q3 k a1
        exact ⟨b1, b2.trans a2, fun r hr => a3 r (b3 r hr)⟩
    have put : ∀ {ob0 : Ob}, isNone ob0 = false → ObR w G0 G hd ob v (F i) ob0 → (obBox ob0 = true ∨ m.boxed = false) →
        ∃ fp1, Init f vs G0 G F a w (i + 1) n (ob.set (f.kb + i) ob0) (upd hd (f.kb + i) v) fp1 Mv ∧ Kept hd (upd hd (f.kb + i) v) ob (ob.set (f.kb + i) ob0) := by
      intro ob0 h1 h2 h3
      have hnew := h.inv.newKey hfresh (v := v) (F := F i) hfree (ob := ob0) h1 h2
      have hne0 : ∀ k, isNone (ob.getD k .none) = false → k ≠ f.kb + i := fun k hk e => by
        subst e
        rw [List.getD_eq_getElem?_getD, List.getElem?_eq_getElem hlt] at hfresh hk
        simp only [Option.getD_some] at hfresh hk
        rw [hfresh] at hk; cases hk
      refine ⟨_, ⟨hnew, fun k b hb => ?_, fun j t' m' v' hj hpj hm' hvj => ?_, fun j hj hjl => ?_, fun v hv => h.norg v ((rg_upd (Nat.lt_of_lt_of_le hlt h.inv.small)).1 hv)⟩, fun k hk => by
        rw [getD_set_ne' _ _ _ (hne0 k hk), upd_ne _ _ (hne0 k hk)]; exact ⟨hk, rfl, fun _ x => x⟩⟩
      · by_cases hk : k = f.kb + i
        · subst hk; rw [upd_same] at hb; exact ⟨i, by omega, hb⟩
        · rw [upd_ne _ _ hk] at hb; obtain ⟨j, hj, hjb⟩ := h.from' k b hb; exact ⟨j, by omega, hjb⟩
      · by_cases hji : j = i
        · subst hji
          rw [hp1] at hpj
          rw [hv1] at hvj
          simp only [Option.some.injEq, Prod.mk.injEq] at hpj hvj
          subst hvj
          refine ⟨?_, upd_same _ _ _, fun b => by rw [upd_same]⟩
          simp only [getD_set_self, if_pos hlt]
          exact h3.resolve_right (fun hn => by rw [hpj.2, hm'] at hn; cases hn)
        · have hne : f.kb + j ≠ f.kb + i := by omega
          rw [getD_set_ne' _ _ _ hne, upd_ne _ _ hne, upd_ne _ _ hne]
          exact h.box j t' m' v' (by omega) hpj hm' hvj
      · have hne : f.kb + j ≠ f.kb + i := by omega
        rw [getD_set_ne' _ _ _ hne]
        exact h.fresh j (by omega) hjl
    have hGof : ∀ b, G b → Gof G0 G true b := fun b hb => .inr ⟨rfl, hb⟩
    simp only [List.length_cons]
    cases m with
    | ln =>
      have hz : SlotR w G0 G hd ob (mkVal true p.t p.x) v := mkVal_flag (VRep.move ha2 hGof (fun _ _ => rfl)) (fun _ => rfl)
      have h1 : Init f vs G0 G F a w (i + 1) n ob hd fp Mv :=
        ⟨h.inv, fun k b hb => by obtain ⟨j, hj, hjb⟩ := h.from' k b hb; exact ⟨j, by omega, hjb⟩, fun j t' m' v' hj hpj hm' hvj => by
          by_cases hji : j = i
          · subst hji; rw [hp1] at hpj; cases hpj; cases hm'
          · exact h.box j t' m' v' (by omega) hpj hm' hvj, fun j hj hjl => h.fresh j (by omega) hjl, h.norg⟩
      simp only [initOb, initZ]
      exact go h1 (fun k hk => ⟨hk, rfl, fun _ x => x⟩) hz
    | dio =>
      have h1 : Init f vs G0 G F a w (i + 1) n ob hd fp Mv :=
        ⟨h.inv, fun k b hb => by obtain ⟨j, hj, hjb⟩ := h.from' k b hb; exact ⟨j, by omega, hjb⟩, fun j t' m' v' hj hpj hm' hvj => by
          by_cases hji : j = i
          · subst hji; rw [hp1] at hpj; cases hpj; cases hm'
          · exact h.box j t' m' v' (by omega) hpj hm' hvj, fun j hj hjl => h.fresh j (by omega) hjl, h.norg⟩
      obtain ⟨e, x, rfl, h2⟩ := ha2
      simp only [initOb, initZ]
      exact go h1 (fun k hk => ⟨hk, rfl, fun _ x => x⟩) (by simp only [SlotR])
    | ptr =>
      obtain ⟨b, o, cs, e1, e2, e3, e4, e5⟩ := ha2
      obtain ⟨fp1, h1, hk1⟩ := put (ob0 := .box false p.t p.x) rfl
        ⟨b, o, cs, e1, e2, e3.move (fun b hb => .inl hb) (fun _ _ => rfl), e4, e5⟩ (.inl rfl)
      simp only [initOb, initZ]
      refine go h1 hk1 ?_
      simp only [SlotR]
      rw [getD_set_self, if_pos hlt]
      exact ⟨rfl, fun t' ht' => ⟨b, o, by rw [upd_same]; exact e1, by simp only [pathOff, Nat.add_zero]; exact e1⟩⟩
    | mv =>
      obtain ⟨e, x, rfl, h2⟩ := ha2
      obtain ⟨fp1, h1, hk1⟩ := put (ob0 := .sl (!flat e) false e x) rfl
        ⟨OwnRow.flag (tn := true) (h2.move hGof (fun _ _ => rfl) (fun _ h => h)) (fun _ => by cases flat e <;> simp), by simp⟩ (.inr rfl)
      simp only [initOb, initZ]
      refine go h1 hk1 ?_
      simp only [SlotR]
      rw [getD_set_self, if_pos hlt]
      exact ⟨rfl, (upd_same _ _ _).symm⟩
    | io =>
      obtain ⟨e, x, rfl, h2⟩ := ha2
      obtain ⟨fp1, h1, hk1⟩ := put (ob0 := .io (!flat e) e x) rfl
        (OwnRow.flag (tn := true) (h2.move hGof (fun _ _ => rfl) (fun _ h => h)) (fun _ => by cases flat e <;> simp)) (.inl rfl)
      simp only [initOb, initZ]
      refine go h1 hk1 ?_
      simp only [SlotR]
      rw [getD_set_self, if_pos hlt]
      exact ⟨rfl, (upd_same _ _ _).symm⟩
/-- Records are put together as they came. -/
theorem grp_in {ob : List Ob} : ∀ (g : List (Option Ty)) {zs : List Slot} {us : List Value}, oneG g us → SlotsR w Gs Gb hd ob zs us → SlotsR w Gs Gb hd ob (grpS g zs) (grpV g us)
  | [], zs, us, _, hz => by simpa only [grpS, grpV] using hz
  | none :: g, zs, us, ho, hz => by
    cases zs with
    | nil => simp only [SlotsR] at hz; subst hz; simp [grpS, grpV, SlotsR]
    | cons z zs =>
      simp only [SlotsR] at hz
      obtain ⟨v, r, rfl, h1, h2⟩ := hz
      simp only [grpS, grpV, SlotsR]
      exact ⟨v, _, rfl, h1, grp_in g (by simpa only [oneG] using ho) h2⟩
  | some t :: g, zs, us, ho, hz => by
    have hzl := slotsR_len hz
    cases zs with
    | nil => simp only [SlotsR] at hz; subst hz; simp [grpS, grpV, SlotsR]
    | cons z zs => cases us with
      | nil => simp at hzl
      | cons u us =>
        simp only [oneG] at ho
        obtain ⟨g1, g2⟩ := slotsR_take (sz t) hz
        simp only [grpS, grpV]
        have hrec := grp_in g ho.2.2.2 g2
        simp only [SlotsR]
        exact ⟨_, _, rfl, by simp only [SlotR]; exact ⟨_, rfl, ho.2.2.1, g1⟩, hrec⟩
theorem grpV_len : ∀ (g : List (Option Ty)) (us : List Value), oneG g us → (grpV g us).length ≤ us.length
  | [], us, _ => by simp [grpV]
  | none :: g, [], _ => by simp [grpV]
  | some t :: g, [], _ => by simp [grpV]
  | none :: g, u :: us, h => by simp only [grpV, List.length_cons]; have := grpV_len g us (by simpa only [oneG] using h); omega
  | some t :: g, u :: us, h => by
    simp only [oneG] at h
    simp only [grpV, List.length_cons]
    have := grpV_len g ((u :: us).drop (sz t)) h.2.2.2
    rw [List.length_drop, List.length_cons] at this
    omega
theorem slots_getD {ob : List Ob} : ∀ {l : List Slot} {vs : List Value}, SlotsR w Gs Gb hd ob l vs → ∀ i, SlotR w Gs Gb hd ob (l.getD i .dead) (vs.getD i undef)
  | [], vs, h, i => by simp only [List.getD_nil, SlotR]
  | z :: l, vs, h, 0 => by
    simp only [SlotsR] at h
    obtain ⟨v, r, rfl, h1, h2⟩ := h
    exact h1
  | z :: l, vs, h, i + 1 => by
    simp only [SlotsR] at h
    obtain ⟨v, r, rfl, h1, h2⟩ := h
    simpa using slots_getD h2 i
theorem args_len {w : World} {G : BS} {F : Nat → BS} : ∀ {prs : List (Ty × PM)} {i : Nat} {ps : List PV} {vs : List Value}, ArgsR w G0 G F i prs ps vs → vs.length = prs.length
  | [], i, [], [], _ => rfl
  | [], i, [], _ :: _, h => by simp [ArgsR] at h
  | [], i, _ :: _, _, h => by simp [ArgsR] at h
  | _ :: _, i, [], _, h => by simp [ArgsR] at h
  | (t, m) :: prs, i, p :: ps, [], h => by simp [ArgsR] at h
  | (t, m) :: prs, i, p :: ps, v :: vs, h => by
    simp only [ArgsR] at h
    simp [args_len h.2.2]
def startMv (f : FnT) (G0 : BS) (F : Nat → BS) (vs : List Value) (q : World → Prop) : Mvp :=
  ⟨fun b => ∃ i, F i b, fun k v F' => ∃ j t m, f.pars[j]? = some (t, m) ∧ m.boxed = true ∧ vs[j]? = some v ∧ k = f.kb + j ∧ F' = F j, G0, q⟩
def startAct (f : FnT) (vs : List Value) : Act := { tmps := vs.toArray ++ Array.replicate (f.ntmps - vs.toArray.size) undef, defers := [] }
theorem init_ok {ps : List PV} (hG : GoodArgs w G0 G F f ps vs) {q : World → Prop} (hK : Keeps w F q) (hle : f.pars.length ≤ f.ntmps) (hnk : f.nk ≤ regM) : ∃ hd fp, Inv w.heap.size w (startMv f G0 F vs q) G G0 hd fp (initSt f ps) (startAct f (grpV f.pg vs)) w := by
  have hl := args_len hG.args
  have hgl := grpV_len f.pg vs hG.one
  have base : Init f vs G0 G F (startAct f (grpV f.pg vs)) w 0 f.ntmps (List.replicate f.nk .none) (fun _ => undef) (fun _ _ => False) (startMv f G0 F vs q) := by
    refine ⟨⟨⟨rfl, rfl, rfl, Nat.le_refl _, fun _ _ _ => rfl⟩, Nat.le_refl _, by simp [startAct]; omega, fun i => ?_, fun k => ?_, fun k b hb => hb.elim, fun k j b hb => hb.elim, fun b hb => ⟨hG.lt b (hG.g0 b hb), .inr (.inr hb)⟩, fun b hb => ⟨hG.lt b hb, fun ⟨i, hi⟩ => (hG.own i b hi).2 hb⟩, fun k v F hF => hF.elim, fun w' hw => hK w' (fun b hb hF => hw b hb (fun ⟨i, hi⟩ => hF i hi)), by simpa using hnk, fun v hv => (by obtain ⟨b, o, n, c, e1, e⟩ := hv; subst e1; simp only at e; cases e)⟩,
      fun k b hb => hb.elim, fun j t m v hj => by omega, fun j _ hj => ?_, fun v hv => (by obtain ⟨b, o, n, c, e1, e⟩ := hv; subst e1; simp only at e; cases e)⟩
    · simp only [getD_replicate', SlotR]
    · simp only [getD_replicate', ObR]
    · rw [List.getD_eq_getElem?_getD, List.getElem?_replicate, if_pos (by unfold FnT.nk FnT.kb; omega)]; rfl
  obtain ⟨hd, fp, h, hs, _⟩ := init_go hG (Mv := startMv f G0 F vs q) (fun b => Iff.rfl) f.pars 0 ps vs rfl rfl hG.args base
  simp only [Nat.add_zero] at h hs
  have hg := grp_in f.pg hG.one hs
  have hgs := slotsR_len hg
  refine ⟨hd, fp, h.inv.ev, h.inv.le, by simp [initSt, startAct]; omega, fun i => ?_, h.inv.obs, h.inv.own, h.inv.disj, h.inv.gs, h.inv.gb, ?_, h.inv.fix, h.inv.small, h.inv.reg⟩
  · have hsi := slots_getD hg i
    show SlotR w G0 G hd (initOb f.kb f.pars ps (List.replicate f.nk .none)) ((initSt f ps).sl.getD i .dead) _
    by_cases hi : i < (grpV f.pg vs).length
    · have e1 : (initSt f ps).sl.getD i .dead = (grpS f.pg (initZ f.kb f.pars ps)).getD i .dead := by
        simp only [initSt, List.getD_eq_getElem?_getD]
        rw [List.getElem?_append_left (by omega)]
      have e2 : (startAct f (grpV f.pg vs)).tmps.getD i undef = (grpV f.pg vs).getD i undef := by
        simp only [startAct, Array.getD_eq_getD_getElem?, List.getD_eq_getElem?_getD]
        rw [Array.getElem?_append_left (by simpa using hi)]
        simp
      rw [e1, e2]
      exact hsi
    · have e1 : (initSt f ps).sl.getD i .dead = .dead := by
        simp only [initSt, List.getD_eq_getElem?_getD]
        rw [List.getElem?_append_right (by omega), List.getElem?_replicate]
        split <;> rfl
      rw [e1]
      simp only [SlotR]
  · rintro k v F' ⟨j, t, m, h1, hm, h2, rfl, rfl⟩
    exact h.box j t m v (by have := (List.getElem?_eq_some_iff.1 h1).1; omega) h1 hm h2
theorem call_fn (hT : TabOk P T) {k : Nat} {X : Ext T} (hX : ∀ g x, X g = some x → Sound P T g x) (hFn : ∀ g f, T.fn g = some f → FnOk P g f)
    (hL : ∀ (g : Nat) (f : FnT) (w0 : World) (G0 G : BS) (F : Nat → BS) (vs : List Value) (Mv : Mvp), Way P T g f w0 G0 G F vs Mv → ∀ todo s r, runL T X k g todo s = some r → ∀ Gs hd fp a w, Inv w0.heap.size w0 Mv G Gs hd fp s a w → a.defers = [] → ∀ cs,
      Fin P g cs (Post w0 G0 G F f vs (spread (T.outTys g) r)) (lone ((bfr g).at a todo) cs w)) (h : Nat) : Sound P T h (runF T X k h) := by
  intro f ps r hf hr w G0 G F vs hG hK
  unfold runF at hr
  split at hr
  · rename_i x hx
    exact hX h x hx f ps r hf hr w G0 G F vs hG hK
  · split at hr
    · cases hr
    · rename_i fh hfh
      rw [hf] at hfh
      cases hfh
      split at hr
      · have hok := hFn h f hf
        obtain ⟨fn, e1, e2, e3, e4, e5⟩ := hok.fn
        obtain ⟨hd, fp, hI⟩ := init_ok hG hK hok.pars hok.small
        intro cs
        have hfin := hL h f w G0 G F vs (startMv f G0 F vs T.q) ⟨hf, hok, fun b hb => hb, fun b hb => hb, fun j t m v h1 hm h2 => ⟨j, t, m, h1, hm, h2, rfl, rfl⟩, fun k v F' ⟨j, t, m, h1, hm, _, h2, _⟩ => ⟨j, t, m, h1, hm, h2⟩, args_len hG.args, fun _ h => h⟩ _ _ _ hr _ _ _ _ _ hI rfl cs
        have henter : Frame.enter P h (grpV f.pg vs).toArray .normal = (bfr h).at (startAct f (grpV f.pg vs)) [.code f.code] := by
          simp [Frame.enter, Frame.at, e1, e2, bfr, startAct, e3]
        rw [henter]
        exact hfin
      · cases hr
theorem sound (hm : P.follows .mixedOrders = true) (hT : TabOk P T) (hFn : ∀ g f, T.fn g = some f → FnOk P g f) {X : Ext T} (hX : ∀ g x, X g = some x → Sound P T g x) :
    ∀ (k : Nat) (g : Nat) (f : FnT) (w0 : World) (G0 G : BS) (F : Nat → BS) (vs : List Value) (Mv : Mvp), Way P T g f w0 G0 G F vs Mv → ∀ todo s r, runL T X k g todo s = some r → ∀ Gs hd fp a w, Inv w0.heap.size w0 Mv G Gs hd fp s a w → a.defers = [] → ∀ cs,
      Fin P g cs (Post w0 G0 G F f vs (spread (T.outTys g) r)) (lone ((bfr g).at a todo) cs w)
  | 0, g, f, w0, G0, G, F, vs, Mv, hW, todo, s, r, hr, _, _, _, _, _, _, _, _ => by cases hr
  | k + 1, g, f, w0, G0, G, F, vs, Mv, hW, todo, s, r, hr, Gs, hd, fp, a, w, hI, hd0, cs => by
    have hS := call_fn hT hX hFn (sound hm hT hFn hX k)
    unfold runL at hr
    rw [hW.fn] at hr
    simp only at hr
    refine exec_ok hm hT (call := fun h ps => runF T X k h ps) (fun g => hS g) hFn hW ?_ 4000 todo s r Gs hd fp a w hr hI hd0
    intro b t s1 r1 h1 Gs1 hd1 fp1 a1 w1 hI1 hd1'
    split at h1
    · rename_i s2 hc
      obtain ⟨Gs2, hd2, fp2, hI2⟩ := canon_ok hI1 hW.ok.small hW.only hc
      exact sound hm hT hFn hX k g f w0 G0 G F vs Mv hW _ _ _ h1 _ _ _ _ _ hI2 hd1' cs
    · cases h1
/-- What the interpreter says of a call is so. -/
theorem run_sound (hm : P.follows .mixedOrders = true) (hT : TabOk P T) (hFn : ∀ g f, T.fn g = some f → FnOk P g f) {X : Ext T} (hX : ∀ g x, X g = some x → Sound P T g x) (k h : Nat) : Sound P T h (runF T X k h) :=
  call_fn hT hX hFn (sound hm hT hFn hX k) h
#print axioms run_sound
end Go.Proofs.YtkgpkalclblhbaaGreatDoor.Eng
