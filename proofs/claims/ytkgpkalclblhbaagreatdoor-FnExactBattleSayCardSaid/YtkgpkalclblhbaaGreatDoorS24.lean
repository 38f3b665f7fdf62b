/-
  Coming back: the results, and what is said of them.
-/
import Derived.Test.YtkgpkalclblhbaaGreatDoorS23
namespace Go.Proofs.YtkgpkalclblhbaaGreatDoor.Eng
open Go Go.RowKit
set_option linter.unusedVariables false
set_option linter.unusedSimpArgs false

variable {P : Program} {T : Tab} {N : Nat} {w0 : World} {Mv : Mvp} {Gb Gs : BS} {hd : Nat → Value} {fp : Nat → BS} {s : St} {a : Act} {w w' : World}

def rv (tmps : Array Value) : ResultVar → Sem Value
  | .tmp t => pure (tmps.getD t undef)
  | .cell a t => do loadVar t (← asAddr (tmps.getD a undef))
inductive All2 {α β : Type} (R : α → β → Prop) : List α → List β → Prop
  | nil : All2 R [] []
  | cons {a : α} {b : β} {l : List α} {m : List β} (h : R a b) (r : All2 R l m) : All2 R (a :: l) (b :: m)
theorem mapM_run {α : Type} {f : α → Sem Value} : ∀ {ds : List α} {us : List Value}, All2 (fun d u => (f d).run P w = .ok u w) ds us → (ds.mapM f).run P w = .ok us w
  | _, _, .nil => by simp
  | _, _, .cons h r => by
    simp only [List.mapM_cons, Sem.run_bind, h, Result.andThen_ok, mapM_run r, Sem.run_pure]
theorem results_run {fn : Func} {ds : List ResultVar} (h : fn.results.toList = ds) {tmps : Array Value} {us : List Value} (hr : All2 (fun d u => (rv tmps d).run P w = .ok u w) ds us) : (results fn tmps).run P w = .ok (tupOf us) w := by
  have h1 : fn.results.mapM (rv tmps) = List.toArray <$> ds.mapM (rv tmps) := by rw [Array.mapM_eq_mapM_toList, h]
  have h2 : (fn.results.mapM (rv tmps)).run P w = .ok us.toArray w := by
    rw [h1, map_eq_pure_bind, Sem.run_bind, mapM_run hr, Result.andThen_ok, Sem.run_pure]
  have h3 : results fn tmps = (do
      let vs ← fn.results.mapM (rv tmps)
      pure (if h : vs.size = 1 then vs[0] else .tuple vs)) := by
    unfold results
    congr 1
  rw [h3]
  simp only [Sem.run_bind, h2, Result.andThen_ok, Sem.run_pure]
  congr 1
  match us with
  | [] => rfl
  | [u] => rfl
  | u :: v :: r => simp [tupOf]

def keyAt (m : RM) : RS → Option Nat
  | .z z => if m.bx || m.own then keyOf z else none
  | .cell _ _ => none
def ownAt : List (Ty × RM) → List RS → Nat → Option Nat
  | (_, m) :: _, d :: _, 0 => keyAt m d
  | _ :: ms, _ :: ds, j + 1 => ownAt ms ds j
  | _, _, _ => none
/-- The values of the results that slots hold. -/
def PreR (w : World) (Gs Gb : BS) (hd : Nat → Value) (ob : List Ob) : RS → Option Value → Prop
  | .z z, some u => SlotR w Gs Gb hd ob z u
  | .cell _ _, none => True
  | _, _ => False
def PostR (P : Program) (a : Act) (w : World) : RS × Option Value → Value → Prop
  | (.z _, some v), u => u = v
  | (.cell e t, none), u => (rv a.tmps (.cell e t)).run P w = .ok u w
  | _, _ => False
theorem All2.app {α β : Type} {R : α → β → Prop} {l l' : List α} {m m' : List β} (h : All2 R l m) (h' : All2 R l' m') : All2 R (l ++ l') (m ++ m') := by
  induction h with
  | nil => exact h'
  | cons h _ ih => exact .cons h ih
theorem All2.unapp {α β : Type} {R : α → β → Prop} : ∀ {l l' : List α} {m : List β}, All2 R (l ++ l') m → ∃ m1 m2, m = m1 ++ m2 ∧ All2 R l m1 ∧ All2 R l' m2
  | [], l', m, h => ⟨[], m, rfl, .nil, h⟩
  | x :: l, l', m, h => by
    cases h with
    | cons h r =>
      obtain ⟨m1, m2, rfl, h1, h2⟩ := All2.unapp r
      exact ⟨_ :: m1, m2, rfl, .cons h h1, h2⟩
theorem all2_len {α β : Type} {R : α → β → Prop} {l : List α} {m : List β} (h : All2 R l m) : m.length = l.length := by
  induction h with
  | nil => rfl
  | cons _ _ ih => simp [ih]
theorem slots_pre {ob : List Ob} : ∀ {l : List Slot} {vs : List Value}, SlotsR w Gs Gb hd ob l vs → All2 (PreR w Gs Gb hd ob) (l.map .z) (vs.map some)
  | [], vs, h => by simp only [SlotsR] at h; subst h; exact .nil
  | z :: l, vs, h => by
    simp only [SlotsR] at h
    obtain ⟨v, r, rfl, h1, h2⟩ := h
    exact .cons h1 (slots_pre h2)
theorem post_slots {a : Act} : ∀ {l : List Slot} {vs us : List Value}, vs.length = l.length → All2 (PostR P a w) ((l.map RS.z).zip (vs.map some)) us → us = vs
  | [], [], us, _, h => by cases h; rfl
  | [], _ :: _, _, hl, _ => by simp at hl
  | _ :: _, [], _, hl, _ => by simp at hl
  | z :: l, v :: vs, us, hl, h => by
    simp only [List.map_cons, List.zip_cons_cons] at h
    cases h with
    | cons h r =>
      have h' : _ = v := h
      rw [h', post_slots (by simpa using hl) r]
theorem rsAll_ok (hT : TabOk P T) {sp : St} (h : Inv N w0 Mv Gb Gs hd fp sp a w) (hsl : sp.sl = s.sl) (hsb : ∀ k t l, s.ob.getD k .none = .bx t l → sp.ob.getD k .none = .bx t l) : ∀ (g : List (Option Ty)) (ds : List ResultVar) {rs : List RS}, rsAll T s g ds = some rs → (∀ t, some t ∈ g → 0 < sz t) →
    ∃ pre, All2 (PreR w Gs Gb hd sp.ob) rs pre ∧ ∀ us, All2 (PostR P a w) (rs.zip pre) us → All2 (fun d u => (rv a.tmps d).run P w = .ok u w) ds (grpV g us)
  | [], [], rs, hr, _ => by
    simp only [rsAll, List.map_nil, Option.some.injEq] at hr
    subst hr
    exact ⟨[], .nil, fun us hu => by cases hu; exact .nil⟩
  | [], d :: ds, rs, hr, hp => by
    simp only [rsAll, List.map_cons, Option.some.injEq] at hr
    subst hr
    obtain ⟨pre, h1, h2⟩ := rsAll_ok hT h hsl hsb [] ds (rs := ds.map (rsOf s)) rfl hp
    cases d with
    | tmp e =>
      refine ⟨some (a.tmps.getD e undef) :: pre, .cons (by have := h.slots e; rwa [hsl] at this) h1, fun us hu => ?_⟩
      simp only [rsOf, List.zip_cons_cons] at hu
      cases hu with
      | cons hu r =>
        have hu' : _ = a.tmps.getD e undef := hu
        have := h2 _ r
        simp only [grpV] at this ⊢
        exact .cons (by rw [hu']; simp only [rv, Sem.run_pure]) this
    | cell e t =>
      refine ⟨none :: pre, .cons trivial h1, fun us hu => ?_⟩
      simp only [rsOf, List.zip_cons_cons] at hu
      cases hu with
      | cons hu r =>
        have := h2 _ r
        simp only [grpV] at this ⊢
        exact .cons hu this
  | none :: g, [], rs, hr, _ => by simp [rsAll] at hr
  | some t :: g, [], rs, hr, _ => by simp [rsAll] at hr
  | none :: g, d :: ds, rs, hr, hp => by
    simp only [rsAll, Option.map_eq_some_iff] at hr
    obtain ⟨rs', hr', rfl⟩ := hr
    obtain ⟨pre, h1, h2⟩ := rsAll_ok hT h hsl hsb g ds hr' (fun t ht => hp t (by simp [ht]))
    cases d with
    | tmp e =>
      refine ⟨some (a.tmps.getD e undef) :: pre, .cons (by have := h.slots e; rwa [hsl] at this) h1, fun us hu => ?_⟩
      simp only [rsOf, List.zip_cons_cons] at hu
      cases hu with
      | cons hu r =>
        have hu' : _ = a.tmps.getD e undef := hu
        simp only [grpV]
        exact .cons (by rw [hu']; simp only [rv, Sem.run_pure]) (h2 _ r)
    | cell e t =>
      refine ⟨none :: pre, .cons trivial h1, fun us hu => ?_⟩
      simp only [rsOf, List.zip_cons_cons] at hu
      cases hu with
      | cons hu r =>
        simp only [grpV]
        exact .cons hu (h2 _ r)
  | some t :: g, .cell e u :: ds, rs, hr, hp => by
    simp only [rsAll] at hr
    split at hr
    · rename_i k t' l r hz ho hrec
      split at hr
      · rename_i hc
        obtain ⟨rfl, hty, hag, hrc⟩ := hc
        cases hr
        obtain ⟨pre, h1, h2⟩ := rsAll_ok hT h hsl hsb g ds hrec (fun t ht => hp t (by simp [ht]))
        have hslot := h.slots e
        rw [hsl, hz] at hslot
        rw [hz] at ho
        simp only [obOf, keyOf] at ho
        have hk := hsb k _ _ ho
        have h0 := h.obs k
        rw [hk] at h0
        simp only [SlotR] at hslot
        obtain ⟨b1, o1, e1, e2⟩ := hslot.2 t' (by rw [hk]; rfl)
        obtain ⟨b2, o2, vs, g1, g2, g3, g4, g5, g6, g7⟩ := h0
        rw [e1] at g1
        cases g1
        simp only [pathOff, Nat.add_zero] at e2
        obtain ⟨fs, k1, k2, k3⟩ := rec_facts hT hty hrc
        obtain ⟨i, hi, hs, _⟩ := (hT.1 _ _ hty).info
        have q1 := run_loadAt_mid (P := P) w b1 o1 u vs _ g5 k1 rfl (by rw [hi]; simp [hs, g6])
        have hvl := slotsR_len g4
        refine ⟨vs.map some ++ pre, (slots_pre g4).app h1, fun us hu => ?_⟩
        rw [List.zip_append (by simp [hvl])] at hu
        obtain ⟨u1, u2, rfl, m1, m2⟩ := hu.unapp
        obtain rfl := post_slots hvl m1
        have hpos := hp t' (by simp)
        cases u1 with
        | nil => simp at g6; omega
        | cons y u1 =>
          simp only [List.cons_append, grpV]
          rw [← List.cons_append, ← g6, List.take_left, List.drop_left]
          refine .cons ?_ (h2 _ m2)
          simp only [rv, e2, asAddr, Sem.run_bind, Sem.run_pure, Result.andThen_ok]
          simpa only [Instr.loadAt, Instr.sureAddr, Sem.run_bind, Sem.run_pure, Result.andThen_ok] using q1
      · cases hr
    · cases hr
  | some t :: g, .tmp e :: ds, rs, hr, hp => by
    simp only [rsAll] at hr
    split at hr
    · rename_i t' l r hag hrec
      split at hr
      · rename_i hc
        cases hr
        obtain ⟨pre, h1, h2⟩ := rsAll_ok hT h hsl hsb g ds hrec (fun t ht => hp t (by simp [ht]))
        have hslot := h.slots e
        rw [hsl] at hslot
        obtain ⟨vs, e1, _, q1⟩ := toAgg_ok hslot hag
        have hvl := slotsR_len q1
        refine ⟨vs.map some ++ pre, (slots_pre q1).app h1, fun us hu => ?_⟩
        rw [List.zip_append (by simp [hvl])] at hu
        obtain ⟨u1, u2, rfl, k1, k2⟩ := hu.unapp
        obtain rfl := post_slots hvl k1
        have hpos := hp t (by simp)
        have hl1 : u1.length = sz t := by rw [hvl, hc.2]
        cases u1 with
        | nil => simp at hl1; omega
        | cons y u1 =>
          simp only [List.cons_append, grpV]
          rw [← List.cons_append, ← hl1, List.take_left, List.drop_left]
          exact .cons (by simp only [rv, Sem.run_pure, e1]) (h2 _ k2)
      · cases hr
    · cases hr
theorem grpOk_pos : ∀ {g : List (Option Ty)} {ms : List (Ty × RM)}, grpOk g ms = true → ∀ t, some t ∈ g → 0 < sz t
  | [], _, _, t, ht => by simp at ht
  | none :: g, [], h, t, ht => by simp [grpOk] at h
  | none :: g, _ :: ms, h, t, ht => grpOk_pos (g := g) (ms := ms) (by simpa only [grpOk] using h) t (by simpa using ht)
  | some u :: g, ms, h, t, ht => by
    simp only [grpOk, Bool.and_eq_true, decide_eq_true_eq] at h
    obtain ⟨_, h0, _, h3⟩ := h
    rcases List.mem_cons.1 ht with ht | ht
    · cases ht; exact h0
    · exact grpOk_pos h3 t ht
theorem BoxR.mono' {w : World} {G : BS} {t : Ty} {x : Den t} {v : Value} {fp fp' : BS} (h : BoxR w G t x v fp) (hf : ∀ b, fp b → fp' b) : BoxR w G t x v fp' := h.move (fun _ x => x) (fun _ _ => rfl) hf
theorem OwnRow.mono' {w : World} {G : BS} {e : Ty} {x : List (Den e)} {v : Value} {fp fp' : BS} (h : OwnRow w G e x v fp) (hf : ∀ b, fp b → fp' b) : OwnRow w G e x v fp' := h.move (fun _ x => x) (fun _ _ => rfl) hf
/-- One result. -/
theorem resOne_z {sp : St} (h : Inv N w0 Mv Gb Gs hd fp sp a w) {np : Nat} {t : Ty} {m : RM} {z : Slot} {u : Value} (hslot : SlotR w Gs Gb hd sp.ob z u) {c : Bool} {p : PV} (h1 : resOne T np s t m (.z z) = some (c, p))
    (hv : m.bx = false → m.own = false → ∀ tn q, dataV (viewZ s z) = some (tn, q) → VRep w (Gof Gs Gb tn) q.t q.x u)
    (hob : ∀ k, keyAt m (.z z) = some k → sp.ob.getD k .none = s.ob.getD k .none) :
    p.t = t ∧ (c = true → OutR w Gs Gb (fun b => ∃ k, keyAt m (.z z) = some k ∧ fp k b) m p u) := by
  simp only [resOne] at h1
  by_cases hb : m.bx = true
  · simp only [hb, if_true] at h1
    split at h1
    · rename_i tn q hq
      split at h1
      · rename_i hc
        cases h1
        refine ⟨hc.2, fun _ => ?_⟩
        unfold resBox at hq
        split at hq
        · rename_i k tn' t' x hz ho
          split at hq
          · cases hq
          · cases hq
            simp only [viewZ] at hz ho
            have hkey : keyAt m (.z z) = some k := by simp only [keyAt, hb, Bool.true_or, if_true, hz, keyOf]
            subst hz
            simp only [obOf, keyOf] at ho
            have h0 := h.obs k
            rw [hob k hkey, ho] at h0
            simp only [SlotR] at hslot
            obtain ⟨b1, o1, e1, e2⟩ := hslot.2 t' (by rw [hob k hkey, ho]; rfl)
            unfold OutR
            rw [if_pos hb]
            rw [e2]
            simp only [pathOff, Nat.add_zero]
            rw [← e1]
            exact (BoxR.flag h0 (fun ht => .inl (hc.1.resolve_left (by simp [ht])))).mono' (fun b hb' => ⟨k, hkey, hb'⟩)
        · cases hq
      · cases h1
    · cases h1
  · simp only [hb, if_false, Bool.false_eq_true] at h1
    by_cases hw : m.own = true
    · simp only [hw, if_true] at h1
      split at h1
      · rename_i tn nx q hq
        split at h1
        · rename_i hc
          simp only [Option.some.injEq, Prod.mk.injEq] at h1
          obtain ⟨h1, rfl⟩ := h1
          refine ⟨hc.2, fun hct => ?_⟩
          rw [hct] at h1
          unfold OutR
          rw [if_neg hb, if_pos hw]
          split at hq
          · rename_i hdp
            rw [if_pos hdp]
            unfold resDp at hq
            split at hq
            · rename_i e' hz
              cases hq
              simp only [viewZ] at hz
              subst hz
              simp only [SlotR] at hslot
              rw [hslot]
              exact ⟨e', [], rfl, .inl ⟨rfl, rfl⟩⟩
            · rename_i k e' x hz ho
              cases hq
              simp only [viewZ] at hz ho
              have hkey : keyAt m (.z z) = some k := by simp only [keyAt, hw, Bool.or_true, if_true, hz, keyOf]
              subst hz
              simp only [obOf, keyOf] at ho
              have h0 := h.obs k
              rw [hob k hkey, ho] at h0
              simp only [SlotR] at hslot
              rw [hslot.2]
              exact ⟨e', x, rfl, DpR.move h0 (fun _ _ => rfl) (fun b hb' => ⟨k, hkey, hb'⟩)⟩
            · cases hq
          rename_i hdp
          rw [if_neg hdp]
          unfold resOwn at hq
          split at hq
          · rename_i e' hz
            cases hq
            simp only [viewZ] at hz
            subst hz
            simp only [SlotR] at hslot
            rw [hslot]
            exact ⟨e', [], rfl, .inl ⟨rfl, rfl⟩, fun _ _ => rfl⟩
          · rename_i k tn' nx' e' x hz ho
            cases hq
            simp only [viewZ] at hz ho
            have hkey : keyAt m (.z z) = some k := by simp only [keyAt, hw, Bool.or_true, if_true, hz, keyOf]
            subst hz
            simp only [obOf, keyOf] at ho
            have h0 := h.obs k
            rw [hob k hkey, ho] at h0
            simp only [SlotR] at hslot
            rw [hslot.2]
            refine ⟨e', x, rfl, (h0.1.flag (fun ht => .inl (hc.1.resolve_left (by simp [ht])))).mono' (fun b hb' => ⟨k, hkey, hb'⟩), fun hm hx => h0.2 ?_ hx⟩
            rw [hm, hx] at h1
            cases hnx : nx with
            | true => rfl
            | false => rw [hnx] at h1; simp [isNilOk] at h1
          · rename_i k hi tn' nx' e' x hz ho
            cases hq
            simp only [viewZ] at hz ho
            have hkey : keyAt m (.z z) = some k := by simp only [keyAt, hw, Bool.or_true, if_true, hz, keyOf]
            subst hz
            simp only [obOf, keyOf] at ho
            have h0 := h.obs k
            rw [hob k hkey, ho] at h0
            simp only [SlotR] at hslot
            obtain ⟨a1, n1, c1, e1, e2, e3, e4⟩ := hslot.2 e' (by rw [hob k hkey, ho]; rfl)
            rw [e4]
            refine ⟨e', x.take hi, rfl, ((h0.1.flag (fun ht => .inl (hc.1.resolve_left (by simp [ht])))).mono' (fun b hb' => ⟨k, hkey, hb'⟩)).take e1 e3, fun hm hx => ?_⟩
            rw [hm, hx] at h1
            simp [isNilOk] at h1
          · cases hq
        · cases h1
      · cases h1
    · simp only [hw, if_false, Bool.false_eq_true] at h1
      split at h1
      · rename_i tn q hq
        split at h1
        · rename_i y hy
          split at h1
          · rename_i hc
            cases h1
            refine ⟨rfl, fun _ => ?_⟩
            unfold OutR
            rw [if_neg hb, if_neg hw]
            exact (VRep.to' (hv (by simpa using hb) (by simpa using hw) tn q hq) hy).flag (fun ht => .inl (hc.resolve_left (by simp [ht])))
          · cases h1
        · cases h1
      · cases h1
theorem resOne_cell (hT : TabOk P T) {sp : St} (h : Inv N w0 Mv Gb Gs hd fp sp a w) (hsl : sp.sl = s.sl) {np : Nat} {t : Ty} {m : RM} {e : Nat} {tid : TypeId} {c : Bool} {p : PV} (h1 : resOne T np s t m (.cell e tid) = some (c, p))
    (hbx : ∀ k, obBox (s.ob.getD k .none) = true → sp.ob.getD k .none = s.ob.getD k .none) :
    ∃ u, (rv a.tmps (.cell e tid)).run P w = .ok u w ∧ p.t = t ∧ (c = true → OutR w Gs Gb (fun b => ∃ k, keyAt m (.cell e tid) = some k ∧ fp k b) m p u) := by
  simp only [resOne] at h1
  split at h1
  · cases h1
  · rename_i hbw
    split at h1
    · rename_i k tn t' x hz ho
      split at h1
      · rename_i u' hu
        split at h1
        · rename_i y hy
          split at h1
          · rename_i hc
            cases h1
            have hslot := h.slots e
            rw [hsl, hz] at hslot
            rw [hz] at ho
            simp only [obOf, keyOf] at ho
            have hk := hbx k (by rw [ho]; rfl)
            have h0 := h.obs k
            rw [hk, ho] at h0
            simp only [SlotR] at hslot
            obtain ⟨b1, o1, e1, e2⟩ := hslot.2 t' (by rw [hk, ho]; rfl)
            obtain ⟨b2, o2, cs, g1, g2, g3, g4, g5⟩ := h0
            rw [e1] at g1
            cases g1
            simp only [pathOff, Nat.add_zero] at e2
            obtain ⟨v, q1, q2⟩ := run_load hT hu (P := P) (RepC.to (p := ⟨t', x⟩) g3 hy) g4
            refine ⟨v, ?_, hc.1, fun _ => ?_⟩
            · simp only [rv, e2, asAddr, Sem.run_bind, Sem.run_pure, Result.andThen_ok]
              simpa only [Instr.loadAt, Instr.sureAddr, Sem.run_bind, Sem.run_pure, Result.andThen_ok] using q1
            · unfold OutR
              simp only [Bool.or_eq_true, not_or] at hbw
              rw [if_neg hbw.1, if_neg hbw.2]
              exact q2.flag (fun ht => .inl (hc.2.resolve_left (by simp [ht])))
          · cases h1
        · cases h1
      · cases h1
    · cases h1

theorem OutR.congr {w : World} {Gs Gb F F' : BS} {m : RM} {p : PV} {v : Value} (h : OutR w Gs Gb F m p v) (hf : ∀ b, F b → F' b) : OutR w Gs Gb F' m p v := by
  unfold OutR at h ⊢
  by_cases hb : m.bx = true
  · rw [if_pos hb] at h ⊢
    exact h.mono' hf
  · rw [if_neg hb] at h ⊢
    by_cases ho : m.own = true
    · rw [if_pos ho] at h ⊢
      by_cases hd : m.dp = true
      · rw [if_pos hd] at h ⊢
        obtain ⟨e, x, h1, h2⟩ := h
        exact ⟨e, x, h1, h2.move (fun _ _ => rfl) hf⟩
      · rw [if_neg hd] at h ⊢
        obtain ⟨e, x, h1, h2, h3⟩ := h
        exact ⟨e, x, h1, h2.mono' hf, h3⟩
    · rw [if_neg ho] at h ⊢
      exact h
theorem retRes_ok (hT : TabOk P T) {sp : St} (h : Inv N w0 Mv Gb Gs hd fp sp a w) (hsl : sp.sl = s.sl) {np : Nat} {Fr : Nat → BS} (hbx : ∀ k, obBox (s.ob.getD k .none) = true → sp.ob.getD k .none = s.ob.getD k .none) :
    ∀ (ms : List (Ty × RM)) (ds : List RS) (pre : List (Option Value)) (i : Nat) {c : Bool} {ps : List PV}, retRes T np s ms ds = some (c, ps) → c = true → All2 (PreR w Gs Gb hd sp.ob) ds pre →
    (∀ z ∈ retSlots ms ds, ∀ v, SlotR w Gs Gb hd sp.ob z v → ∀ tn q, dataV (viewZ s z) = some (tn, q) → VRep w (Gof Gs Gb tn) q.t q.x v) →
    (∀ j k, ownAt ms ds j = some k → sp.ob.getD k .none = s.ob.getD k .none) → (∀ j b, (∃ k, ownAt ms ds j = some k ∧ fp k b) → Fr (i + j) b) →
    ∃ us, All2 (PostR P a w) (ds.zip pre) us ∧ ps.map (·.t) = ms.map (·.1) ∧ ∀ qs, OutsR w Gs Gb Fr i ms (ps ++ qs) us
  | [], [], pre, i, c, ps, h1, _, hpre, _, _, _ => by
    simp only [retRes, Option.some.injEq, Prod.mk.injEq] at h1
    obtain ⟨_, rfl⟩ := h1
    cases hpre
    exact ⟨[], .nil, rfl, fun _ => by simp [OutsR]⟩
  | [], _ :: _, _, i, c, ps, h1, _, _, _, _, _ => by simp [retRes] at h1
  | _ :: _, [], _, i, c, ps, h1, _, _, _, _, _ => by simp [retRes] at h1
  | (t, m) :: ms, d :: ds, pre, i, c, ps, h1, hc, hpre, hv, hob, hF => by
    simp only [retRes] at h1
    split at h1
    · rename_i c1 p c2 ps2 e1 e2
      simp only [Option.some.injEq, Prod.mk.injEq] at h1
      obtain ⟨h1, rfl⟩ := h1
      rw [hc, Bool.and_eq_true] at h1
      cases hpre with
      | cons hp0 hpr =>
        rename_i o pre
        obtain ⟨u, q1, q2, q3⟩ : ∃ u, PostR P a w (d, o) u ∧ p.t = t ∧ (c1 = true → OutR w Gs Gb (fun b => ∃ k, keyAt m d = some k ∧ fp k b) m p u) := by
          cases d with
          | z z => cases o with
            | none => exact hp0.elim
            | some u =>
              obtain ⟨r1, r2⟩ := resOne_z h (u := u) hp0 e1 (fun hb hw tn q hq => hv z (by simp [retSlots, hb, hw]) u hp0 tn q hq) (fun k hk => hob 0 k (by simpa only [ownAt] using hk))
              exact ⟨u, rfl, r1, r2⟩
          | cell e tid => cases o with
            | none => exact resOne_cell hT h hsl e1 hbx
            | some _ => exact hp0.elim
        obtain ⟨us, r1, r2, r3⟩ := retRes_ok hT h hsl (Fr := Fr) hbx ms ds pre (i + 1) e2 h1.2 hpr (fun y hy => hv y (by
          cases d with
          | z z => simp only [retSlots]; split <;> simp [hy]
          | cell _ _ => simpa only [retSlots] using hy)) (fun j k hk => hob (j + 1) k (by simpa only [ownAt] using hk)) (fun j b hb => by
          have := hF (j + 1) b (by simpa only [ownAt] using hb)
          rwa [show i + (j + 1) = i + 1 + j by omega] at this)
        refine ⟨u :: us, .cons q1 r1, by simp [q2, r2], fun qs => ?_⟩
        simp only [List.cons_append, OutsR]
        refine ⟨q2, (q3 h1.1).congr (fun b hb => ?_), r3 qs⟩
        exact hF 0 b (by simpa only [ownAt] using hb)
    · cases h1
theorem retPtrs_ok (kb : Nat) (h : Inv N w0 Mv Gb Gs hd fp s a w) {Gs' : BS} (hg : ∀ b, Gs b → Gs' b) {F : Nat → BS} : ∀ (prs : List (Ty × PM)) (i : Nat) (vs : List Value) {qs : List PV},
    (∀ j t m v, prs[j]? = some (t, m) → m.boxed = true → vs[j]? = some v → Mv.pin (kb + (i + j)) v (F (i + j))) → vs.length = prs.length → retPtrs s (kb + i) prs = some qs →
    PtrsR w Gs' (Gof Gs' Gb true) F i prs vs qs ∧ qs.map (·.t) = (prs.filter (·.2.pinned)).map (·.1)
  | [], i, vs, qs, _, hl, h1 => by
    simp only [retPtrs, Option.some.injEq] at h1
    subst h1
    obtain rfl := List.eq_nil_of_length_eq_zero hl
    exact ⟨trivial, rfl⟩
  | (t, m) :: prs, i, [], qs, _, hl, h1 => by simp at hl
  | (t, m) :: prs, i, v :: vs, qs, hp, hl, h1 => by
    have hp' : ∀ j t m v, prs[j]? = some (t, m) → m.boxed = true → vs[j]? = some v → Mv.pin (kb + (i + 1 + j)) v (F (i + 1 + j)) := fun j t' m' v' h1 hm' h2 => by
      have := hp (j + 1) t' m' v' (by simpa using h1) hm' (by simpa using h2)
      rwa [show i + (j + 1) = i + 1 + j by omega] at this
    have hl' : vs.length = prs.length := by simpa using hl
    cases m with
    | ptr =>
      simp only [retPtrs] at h1
      split at h1
      · rename_i tn t' y ps ho hr
        split at h1
        · rename_i ht
          cases h1
          obtain ⟨g1, g2⟩ := retPtrs_ok kb h hg prs (i + 1) vs hp' hl' hr
          have hpin := hp 0 t .ptr v (by simp) rfl (by simp)
          simp only [Nat.add_zero] at hpin
          obtain ⟨q1, q2, q3⟩ := h.pin _ _ _ hpin
          have h0 := h.obs (kb + i)
          rw [ho, q2] at h0
          simp only [PtrsR]
          refine ⟨⟨ht.1, ?_, g1⟩, by simp [g2, ht.1, PM.pinned]⟩
          obtain ⟨b, o, cs, e1, e2, e3, e4, e5⟩ := h0
          refine ⟨b, o, cs, e1, (q3 b).1 e2, ?_, e4, e5⟩
          rcases ht.2 with ht2 | ht2
          · subst ht2
            exact e3.move (fun c hc => hc.elim (hg c) (fun q => by cases q.1)) (fun _ _ => rfl)
          · exact e3.anyw (by rw [ht.1]; exact ht2) _ _
        · cases h1
      · cases h1
    | io =>
      simp only [retPtrs] at h1
      split at h1
      · rename_i tn e y ps ho hr
        split at h1
        · rename_i ht
          cases h1
          obtain ⟨g1, g2⟩ := retPtrs_ok kb h hg prs (i + 1) vs hp' hl' hr
          have hpin := hp 0 t .io v (by simp) rfl (by simp)
          simp only [Nat.add_zero] at hpin
          obtain ⟨q1, q2, q3⟩ := h.pin _ _ _ hpin
          have h0 := h.obs (kb + i)
          rw [ho, q2] at h0
          simp only [PtrsR]
          refine ⟨⟨ht.symm, ⟨e, y, rfl, ?_⟩, g1⟩, by simp [g2, ht, PM.pinned]⟩
          exact OwnRow.move h0 (Gof_mono hg (fun _ => rfl)) (fun _ _ => rfl) (fun b hb => (q3 b).1 hb)
        · cases h1
      · cases h1
    | ln =>
      simp only [retPtrs] at h1
      obtain ⟨g1, g2⟩ := retPtrs_ok kb h hg prs (i + 1) vs hp' hl' h1
      exact ⟨by simpa only [PtrsR] using g1, by simp [g2, PM.pinned]⟩
    | mv =>
      simp only [retPtrs] at h1
      obtain ⟨g1, g2⟩ := retPtrs_ok kb h hg prs (i + 1) vs hp' hl' h1
      exact ⟨by simpa only [PtrsR] using g1, by simp [g2, PM.pinned]⟩
    | dio => simp [retPtrs] at h1
theorem ret_boxed : ∀ (prs : List (Ty × PM)) (i : Nat) {qs : List PV}, retPtrs s i prs = some qs → ∀ (j : Nat) (t : Ty) (m : PM), prs[j]? = some (t, m) → m.pinned = true → m.boxed = true
  | [], i, qs, _, j, t, m, h, _ => by simp at h
  | (t0, m0) :: prs, i, qs, h1, j, t, m, h, hm => by
    have rest : ∀ {k : Nat} {qs' : List PV}, retPtrs s k prs = some qs' → ∀ j, prs[j]? = some (t, m) → m.boxed = true := fun h2 j hj => ret_boxed prs _ h2 j t m hj hm
    cases j with
    | zero =>
      simp at h
      obtain ⟨rfl, rfl⟩ := h
      cases m0 <;> first | rfl | cases hm | skip
      simp [retPtrs] at h1
    | succ j =>
      simp only [List.getElem?_cons_succ] at h
      cases m0 with
      | ptr =>
        simp only [retPtrs] at h1
        split at h1
        · rename_i _ _ _ _ _ hr; exact rest hr j h
        · cases h1
      | io =>
        simp only [retPtrs] at h1
        split at h1
        · rename_i _ _ _ _ _ hr; exact rest hr j h
        · cases h1
      | ln => simp only [retPtrs] at h1; exact rest h1 j h
      | mv => simp only [retPtrs] at h1; exact rest h1 j h
      | dio => simp [retPtrs] at h1
theorem PV.to_self (p : PV) : p.to p.t = some p.x := by simp [PV.to]
theorem gather_one (t : Ty) (p : PV) : gather [t] [p] = p.to t := rfl
theorem gather_cons (t u : Ty) (ts : List Ty) (p : PV) (ps : List PV) : gather (t :: u :: ts) (p :: ps) = (p.to t).bind fun y => (gather (u :: ts) ps).bind fun ys => some ((y, ys) : Den t × DenR (u :: ts)) := by
  show (match p.to t, gather (u :: ts) ps with
    | some y, some ys => some ((y, ys) : Den t × DenR (u :: ts))
    | _, _ => none) = _
  cases p.to t <;> cases gather (u :: ts) ps <;> rfl
theorem gather_spread : ∀ (ts : List Ty) (ps : List PV) {r : DenR ts}, ps.map (·.t) = ts → gather ts ps = some r → spread ts r = ps
  | [], ps, r, h, _ => by
    obtain rfl : ps = [] := by simpa using h
    rfl
  | [t], ps, r, h, hg => by
    match ps, h with
    | [p], h =>
      simp only [List.map_cons, List.map_nil, List.cons.injEq, and_true] at h
      subst h
      rw [gather_one, PV.to_self] at hg
      cases hg
      rfl
  | t :: u :: ts, ps, r, h, hg => by
    match ps, h with
    | p :: ps, h =>
      simp only [List.map_cons, List.cons.injEq] at h
      obtain ⟨h1, h2⟩ := h
      subst h1
      rw [gather_cons, PV.to_self, Option.bind_some] at hg
      obtain ⟨ys, e1, e2⟩ := Option.bind_eq_some_iff.1 hg
      cases e2
      have := gather_spread (u :: ts) ps h2 e1
      show (⟨p.t, p.x⟩ : PV) :: spread (u :: ts) ys = p :: ps
      rw [this]

theorem keyAt_mem {m : RM} {d : RS} {k : Nat} (h : keyAt m d = some k) : k ∈ resKey m d := by
  cases d with
  | z z =>
    simp only [keyAt] at h
    split at h
    · rename_i hb
      simp only [resKey, hb, if_true, h]
      simp
    · cases h
  | cell _ _ => cases h
theorem ownAt_mem : ∀ {ms : List (Ty × RM)} {ds : List RS} {j k : Nat}, ownAt ms ds j = some k → k ∈ retKeys ms ds
  | (_, m) :: ms, d :: ds, 0, k, h => by
    simp only [ownAt] at h
    simp only [retKeys]
    exact List.mem_append_left _ (keyAt_mem h)
  | (_, m) :: ms, d :: ds, j + 1, k, h => by
    simp only [ownAt] at h
    simp only [retKeys]
    exact List.mem_append_right _ (ownAt_mem h)
  | [], ds, j, k, h => by cases ds <;> simp [ownAt] at h
  | _ :: _, [], j, k, h => by simp [ownAt] at h
theorem own_inj : ∀ {ms : List (Ty × RM)} {ds : List RS} {j j' k : Nat}, ownAt ms ds j = some k → ownAt ms ds j' = some k → (retKeys ms ds).Nodup → j = j'
  | (_, m) :: ms, d :: ds, 0, 0, k, _, _, _ => rfl
  | (_, m) :: ms, d :: ds, 0, j + 1, k, h, h', hN => by
    simp only [retKeys] at hN
    simp only [ownAt] at h h'
    exact ((List.nodup_append.1 hN).2.2 k (keyAt_mem h) k (ownAt_mem h') rfl).elim
  | (_, m) :: ms, d :: ds, j + 1, 0, k, h, h', hN => by
    simp only [retKeys] at hN
    simp only [ownAt] at h h'
    exact ((List.nodup_append.1 hN).2.2 k (keyAt_mem h') k (ownAt_mem h) rfl).elim
  | (_, m) :: ms, d :: ds, j + 1, j' + 1, k, h, h', hN => by
    simp only [retKeys] at hN
    simp only [ownAt] at h h'
    rw [own_inj h h' (List.nodup_append.1 hN).2.1]
  | [], ds, j, _, k, h, _, _ => by cases ds <;> simp [ownAt] at h
  | _ :: _, [], j, _, k, h, _, _ => by simp [ownAt] at h
theorem key_nobox {np : Nat} {t : Ty} {m : RM} {d : RS} {c : Bool} {p : PV} (h1 : resOne T np s t m d = some (c, p)) {k : Nat} (hk : keyAt m d = some k) : obBox (s.ob.getD k .none) = false ∨ k < np := by
  cases d with
  | cell _ _ => cases hk
  | z z =>
    simp only [resOne] at h1
    by_cases hb : m.bx = true
    · simp only [hb, if_true] at h1
      split at h1
      · rename_i tn q hq
        unfold resBox at hq
        split at hq
        · rename_i k' tn' t' x hz ho
          simp only [viewZ] at hz
          subst hz
          simp only [keyAt, hb, Bool.true_or, if_true, keyOf, Option.some.injEq] at hk
          subst hk
          split at hq
          · cases hq
          · right; omega
        · cases hq
      · cases h1
    · simp only [hb, if_false, Bool.false_eq_true] at h1
      by_cases hw : m.own = true
      · simp only [hw, if_true] at h1
        split at h1
        · rename_i tn nx q hq
          split at hq
          · unfold resDp at hq
            split at hq
            · rename_i e' hz
              simp only [viewZ] at hz
              subst hz
              simp only [keyAt, hw, Bool.or_true, if_true, keyOf] at hk
              cases hk
            · rename_i k' e' x hz ho
              simp only [viewZ] at hz ho
              subst hz
              simp only [keyAt, hw, Bool.or_true, if_true, keyOf, Option.some.injEq] at hk
              subst hk
              simp only [obOf, keyOf] at ho
              left; rw [ho]; rfl
            · cases hq
          unfold resOwn at hq
          split at hq
          · rename_i e' hz
            simp only [viewZ] at hz
            subst hz
            simp only [keyAt, hw, Bool.or_true, if_true, keyOf] at hk
            cases hk
          · rename_i k' tn' nx' e' x hz ho
            simp only [viewZ] at hz ho
            subst hz
            simp only [keyAt, hw, Bool.or_true, if_true, keyOf, Option.some.injEq] at hk
            subst hk
            simp only [obOf, keyOf] at ho
            left; rw [ho]; rfl
          · rename_i k' hi tn' nx' e' x hz ho
            simp only [viewZ] at hz ho
            subst hz
            simp only [keyAt, hw, Bool.or_true, if_true, keyOf, Option.some.injEq] at hk
            subst hk
            simp only [obOf, keyOf] at ho
            left; rw [ho]; rfl
          · cases hq
        · cases h1
      · simp only [keyAt, hb, hw, Bool.or_self, Bool.false_eq_true, if_false] at hk
        cases hk
theorem own_nobox {np : Nat} : ∀ {ms : List (Ty × RM)} {ds : List RS} {r : Bool × List PV}, retRes T np s ms ds = some r → ∀ {j k : Nat}, ownAt ms ds j = some k → obBox (s.ob.getD k .none) = false ∨ k < np
  | (t, m) :: ms, d :: ds, r, h, j, k, hj => by
    simp only [retRes] at h
    split at h
    · rename_i c1 p c2 ps2 e1 e2
      cases j with
      | zero => simp only [ownAt] at hj; exact key_nobox e1 hj
      | succ j => simp only [ownAt] at hj; exact own_nobox e2 hj
    · cases h
  | [], ds, r, h, j, k, hj => by cases ds <;> simp [ownAt] at hj
  | _ :: _, [], r, h, j, k, hj => by simp [ownAt] at hj

/-- Coming back. -/
theorem ret1_ok (hT : TabOk P T) {G0 G : BS} (h : Inv w0.heap.size w0 Mv G Gs hd fp s a w) {g : Nat} {f : FnT} (hfn : T.fn g = some f) {fn : Func} (hres : fn.results.toList = f.res) {F : Nat → BS} {vs : List Value} (hMv : ∀ b, Mv.bs b → ∃ i, F i b) (hg0 : ∀ b, Mv.g0 b → G0 b)
    (hpin : ∀ j t m v, f.pars[j]? = some (t, m) → m.boxed = true → vs[j]? = some v → Mv.pin (f.kb + j) v (F j)) (hlen : vs.length = f.pars.length) {r : T.R g} (hr : ret1 T g f s = some r) :
    ∃ v, (results fn a.tmps).run P w = .ok v w ∧ Post w0 G0 G F f vs (spread (T.outTys g) r) (.returned v) w := by
  unfold ret1 at hr
  split at hr
  · cases hr
  rename_i rs hrs
  split at hr
  · rename_i c ps qs e1 e2
    split at hr
    · rename_i hn
      simp only [Bool.and_eq_true] at hn
      obtain ⟨hn, hdj, hgrp⟩ := hn
      have hND := noDup_spec hn
      split at hr
      · rename_i hc
        obtain ⟨Gs1, fp1, h1, hg, hv, _, hkk⟩ := pub_dataZ h (retSlots f.outs rs)
        have hbx : ∀ k, obBox (s.ob.getD k .none) = true → (pubZ s (retSlots f.outs rs)).ob.getD k .none = s.ob.getD k .none := fun k hk => by
          rcases hkk k with ⟨q, _⟩ | ⟨tn, nx, e, x, q, _⟩
          · exact q
          · rw [q] at hk; cases hk
        have hob : ∀ j k, ownAt f.outs rs j = some k → (pubZ s (retSlots f.outs rs)).ob.getD k .none = s.ob.getD k .none := fun j k hj => by
          have hnk : k ∉ (((retSlots f.outs rs).map (viewZ s)).flatMap pubM).map (·.1) := fun hm => by
            unfold disj at hdj
            rw [List.all_eq_true] at hdj
            have := hdj k hm
            simp at this
            exact this (ownAt_mem hj)
          exact modOb_not' _ hnk
        have hsb : ∀ k t l, s.ob.getD k .none = .bx t l → (pubZ s (retSlots f.outs rs)).ob.getD k .none = .bx t l := fun k t l hk => by
          rcases hkk k with ⟨q, _⟩ | ⟨tn, nx, e, x, q, _⟩
          · exact q.trans hk
          · rw [q] at hk; cases hk
        obtain ⟨pre, hpre, hpost⟩ := rsAll_ok (P := P) hT h1 (s := s) rfl hsb f.rg f.res hrs (grpOk_pos hgrp)
        obtain ⟨us, q1, q2, q3⟩ := retRes_ok hT h1 (s := s) rfl (Fr := fun j b => ∃ k, ownAt f.outs rs j = some k ∧ fp1 k b) hbx f.outs rs pre 0 e1 hc hpre hv hob (fun j b hb => by simpa using hb)
        obtain ⟨g1, g2⟩ := retPtrs_ok f.kb h hg (F := F) f.pars 0 vs (fun j t m v h1 hm h2 => by simpa using hpin j t m v h1 hm h2) hlen e2
        have hout : T.outTys g = f.outTys := by unfold Tab.outTys; rw [hfn]
        have hsp : spread (T.outTys g) r = ps ++ qs := gather_spread _ _ (by rw [hout, List.map_append, q2, g2]; rfl) hr
        have hpl : ps.length = f.outs.length := by have := congrArg List.length q2; simpa using this
        refine ⟨tupOf (grpV f.rg us), results_run hres (hpost us q1), us, Gs1, _, rfl, ⟨h1.ev.os, h1.ev.tape, h1.ev.output, h1.ev.size, fun b hb hnb => h1.ev.block b hb (fun hm => hnb (hMv b hm))⟩, fun b hb => ?_, by rw [hsp]; exact q3 qs, ?_, ?_, ?_⟩
        · refine ⟨(h1.gs b hb).1, (h1.gs b hb).2.imp id (Or.imp (hMv b) (hg0 b)), ?_⟩
          rintro i ⟨t, m, hi, hm⟩ hF
          have hil : i < vs.length := by rw [hlen]; exact (List.getElem?_eq_some_iff.1 hi).1
          have hp := hpin i t m vs[i] hi (ret_boxed _ _ e2 i t m hi hm) (List.getElem?_eq_getElem hil)
          obtain ⟨_, _, p3⟩ := h1.pin _ _ _ hp
          exact (h1.own _ b ((p3 b).2 hF)).2.2.1 hb
        · rw [hsp, ← hpl, List.drop_left]
          exact g1
        · rintro j b ⟨k, hk, hb⟩
          have ho := h1.own k b hb
          refine ⟨ho.1, ho.2.1.imp id (hMv b), ho.2.2.1, ?_⟩
          rintro i ⟨t, m, hi, hm⟩ hF
          have hil : i < vs.length := by rw [hlen]; exact (List.getElem?_eq_some_iff.1 hi).1
          have hp := hpin i t m vs[i] hi (ret_boxed _ _ e2 i t m hi hm) (List.getElem?_eq_getElem hil)
          obtain ⟨p1, _, p3⟩ := h1.pin _ _ _ hp
          have hkk' := h1.disj k (f.kb + i) b hb ((p3 b).2 hF)
          rcases own_nobox e1 hk with hq | hq
          · rw [← hob j k hk, hkk', p1] at hq
            cases hq
          · omega
        · rintro j j' b ⟨k, hk, hb⟩ ⟨k', hk', hb'⟩
          have := h1.disj k k' b hb hb'
          subst this
          exact own_inj hk hk' hND
      · cases hr
    · cases hr
  · cases hr
theorem unSd_ok (h : Inv N w0 Mv Gb Gs hd fp s a w) {f : FnT} (honly : ∀ k v F', Mv.pin k v F' → ∃ i t m, f.pars[i]? = some (t, m) ∧ m.boxed = true ∧ k = f.kb + i) : ∃ Gs' hd' fp', Inv N w0 Mv Gb Gs' hd' fp' (unSd f s) a w := by
  unfold unSd
  split
  · rename_i d t m _ _
    split
    · rename_i k hz
      split
      · rename_i x hk
        split
        · rename_i hc
          rw [Bool.and_eq_true, List.all_eq_true] at hc
          refine h.unSd (fun k v F hp => ?_) hz hk
          obtain ⟨i, t, m, h1, h2, _⟩ := honly k v F hp
          have := hc.2 _ (List.mem_of_getElem? h1)
          cases m <;> simp_all [PM.boxed, PM.pinned]
        · exact ⟨_, _, _, h⟩
      · exact ⟨_, _, _, h⟩
    · exact ⟨_, _, _, h⟩
  · exact ⟨_, _, _, h⟩
theorem ret_ok (hT : TabOk P T) {G0 G : BS} (h : Inv w0.heap.size w0 Mv G Gs hd fp s a w) {g : Nat} {f : FnT} (hfn : T.fn g = some f) {fn : Func} (hres : fn.results.toList = f.res) {F : Nat → BS} {vs : List Value} (hMv : ∀ b, Mv.bs b → ∃ i, F i b) (hg0 : ∀ b, Mv.g0 b → G0 b)
    (hpin : ∀ j t m v, f.pars[j]? = some (t, m) → m.boxed = true → vs[j]? = some v → Mv.pin (f.kb + j) v (F j)) (honly : ∀ k v F', Mv.pin k v F' → ∃ i t m, f.pars[i]? = some (t, m) ∧ m.boxed = true ∧ k = f.kb + i) (hlen : vs.length = f.pars.length) {r : T.R g} (hr : ret T g f s = some r) :
    ∃ v, (results fn a.tmps).run P w = .ok v w ∧ Post w0 G0 G F f vs (spread (T.outTys g) r) (.returned v) w := by
  obtain ⟨Gs', hd', fp', h'⟩ := unSd_ok (f := f) h honly
  exact ret1_ok hT h' hfn hres hMv hg0 hpin hlen hr
end Go.Proofs.YtkgpkalclblhbaaGreatDoor.Eng
