/-
  Rows of rows of their own: made, fed and grown.
-/
import Derived.Test.YtkgpkalclblhbaaGreatDoorS9w
namespace Go.Proofs.YtkgpkalclblhbaaGreatDoor.Eng
open Go Go.RowKit
set_option linter.unusedVariables false
set_option linter.unusedSimpArgs false

variable {P : Program} {T : Tab} {N : Nat} {w0 : World} {Mv : Mvp} {Gb Gs : BS} {hd : Nat → Value} {fp : Nat → BS} {s : St} {a : Act} {w w' : World}

theorem modOb_ne : ∀ {m : List (Nat × Ob)} {l : List Ob} {k : Nat} (d : Ob), k ∉ m.map (·.1) → (modOb l m).getD k d = l.getD k d
  | [], _, _, _, _ => rfl
  | (j, b) :: m, l, k, d, h => by
    simp only [List.map_cons, List.mem_cons, not_or] at h
    rw [modOb, getD_set_ne' _ _ _ h.1, modOb_ne d h.2]
abbrev gones (ks : List Nat) : List (Nat × Ob) := ks.map fun k => (k, Ob.gone)
theorem gones_keys (ks : List Nat) : (gones ks).map (·.1) = ks := by
  induction ks with
  | nil => rfl
  | cons k r ih => simp only [gones, List.map_cons] at ih ⊢; rw [ih]
/-- What lies under some keys is let go. -/
theorem Inv.kills (h : Inv N w0 Mv Gb Gs hd fp s a w) : ∀ (ks : List Nat), (∀ k ∈ ks, isNone (s.ob.getD k .none) = false ∧ obBox (s.ob.getD k .none) = false) → ks.Nodup → Inv N w0 Mv Gb Gs hd (fun j b => j ∉ ks ∧ fp j b) ⟨s.sl, modOb s.ob (gones ks)⟩ a w
  | [], _, _ => by
    have : (fun j b => j ∉ ([] : List Nat) ∧ fp j b) = fp := by funext j b; simp
    rw [this]
    exact h
  | k :: ks, hk, hn => by
    have hn' := List.nodup_cons.1 hn
    have ih := Inv.kills h ks (fun j hj => hk j (List.mem_cons_of_mem _ hj)) hn'.2
    have e : (modOb s.ob (gones ks)).getD k .none = s.ob.getD k .none := modOb_ne _ (by rw [gones_keys]; exact hn'.1)
    have hkk := hk k (List.mem_cons_self ..)
    have := ih.kill (k := k) (by simp only [e]; exact hkk.1) (by simp only [e]; exact hkk.2)
    have ef : (upd (fun j b => j ∉ ks ∧ fp j b) k fun _ => False) = fun j b => j ∉ k :: ks ∧ fp j b := by
      funext j b
      by_cases hj : j = k
      · subst hj; simp
      · rw [upd_ne _ _ hj]; simp [hj]
    rw [ef] at this
    exact this
theorem kills_free (h : Inv N w0 Mv Gb Gs hd fp s a w) {ks : List Nat} {k b : Nat} (hk : k ∈ ks) (hb : fp k b) : Free N Mv Gb Gs (fun j b => j ∉ ks ∧ fp j b) w b :=
  ⟨(h.own k b hb).1, (h.own k b hb).2.1, (h.own k b hb).2.2.1, (h.own k b hb).2.2.2, fun j hj => hj.1 (by have := h.disj j k b hj.2 hb; subst this; exact hk)⟩
theorem kills_none {ks : List Nat} (hk : ∀ k ∈ ks, isNone (s.ob.getD k .none) = false) : ∀ j, s.ob.getD j .gone = .none → (modOb s.ob (gones ks)).getD j .gone = .none := fun j hj => by
  rw [modOb_ne]
  · exact hj
  · rw [gones_keys]
    intro hm
    have := hk j hm
    rcases Nat.lt_or_ge j s.ob.length with h | h
    · rw [List.getD_eq_getElem?_getD, List.getElem?_eq_getElem h] at hj this; simp at hj; rw [hj] at this; cases this
    · rw [List.getD_eq_getElem?_getD, List.getElem?_eq_none h] at hj; cases hj
/-- Blocks that nobody holds are added to what lies under a key. -/
theorem Inv.feed (h : Inv N w0 Mv Gb Gs hd fp s a w) {k : Nat} (hnb : obBox (s.ob.getD k .none) = false) {F : BS} (hF : ∀ b, F b → Free N Mv Gb Gs fp w b) : Inv N w0 Mv Gb Gs hd (upd fp k fun b => fp k b ∨ F b) s a w := by
  refine ⟨h.ev, h.le, h.len, h.slots, fun j => ?_, fun j b hb => ?_, fun i j b hi hj => ?_, h.gs, h.gb, fun j v F' hp => ?_, h.fix, h.small, h.reg⟩
  · by_cases hj : j = k
    · subst hj
      rw [upd_same]
      exact (h.obs j).move (fun _ h => h) (fun _ _ => rfl) (fun _ h => .inl h) (fun i hi => ⟨hi, rfl, fun _ h => h⟩) (fun _ h => h)
    · rw [upd_ne _ _ hj]; exact h.obs j
  · by_cases hj : j = k
    · subst hj
      rw [upd_same] at hb
      rcases hb with hb | hb
      · exact h.own j b hb
      · have := hF b hb; exact ⟨this.lt, this.mine, this.gs, this.gb⟩
    · rw [upd_ne _ _ hj] at hb; exact h.own j b hb
  · by_cases hik : i = k
    · by_cases hjk : j = k
      · rw [hik, hjk]
      · subst hik
        rw [upd_same] at hi
        rw [upd_ne _ _ hjk] at hj
        rcases hi with hi | hi
        · exact h.disj i j b hi hj
        · exact ((hF b hi).fp j hj).elim
    · by_cases hjk : j = k
      · subst hjk
        rw [upd_same] at hj
        rw [upd_ne _ _ hik] at hi
        rcases hj with hj | hj
        · exact h.disj i j b hi hj
        · exact ((hF b hj).fp i hi).elim
      · rw [upd_ne _ _ hik] at hi; rw [upd_ne _ _ hjk] at hj; exact h.disj i j b hi hj
  · obtain ⟨p1, p2, p3⟩ := h.pin j v F' hp
    have hjk : j ≠ k := fun e => by subst e; rw [hnb] at p1; cases p1
    rw [upd_ne _ _ hjk]; exact ⟨p1, p2, p3⟩

theorem OwnRow.sep {G fpk : BS} {e : Ty} {x : List (Den e)} {v : Value} (h : OwnRow w G e x v fpk) (hf : flat e = true) : SepC w fpk (.sl e) x [v] := by
  rcases h with ⟨rfl, rfl⟩ | ⟨b, o, cap, cs, rfl, h2, h3, h4, h5, h6⟩
  · exact .nil _ e
  · exact .sl fpk (fun _ => False) e x b o cap cs h2 h3 (fun _ h => h.elim) (SepL.flat hf h4) h5 h6
theorem OwnRow.one {G fpk : BS} {e : Ty} {x : List (Den e)} {v : Value} (h : OwnRow w G e x v fpk) : v.oneCell' = true := by
  rcases h with ⟨rfl, rfl⟩ | ⟨b, o, cap, cs, rfl, _⟩ <;> rfl
/-- What is to be a place of a row of rows of its own: its keys are let go. -/
theorem elemOwn_ok (h : Inv N w0 Mv Gb Gs hd fp s a w) {z : Slot} {v : Value} (hz : SlotR w Gs Gb hd s.ob z v) {p : PV} {ks : List Nat} (he : elemOwn (viewZ s z) = some (p, ks)) :
    (∀ k ∈ ks, isNone (s.ob.getD k .none) = false ∧ obBox (s.ob.getD k .none) = false) ∧ ks.Nodup ∧ SepC w (fun b => ∃ k ∈ ks, fp k b) p.t p.x v.cells.toList ∧ v.cells.size = sz p.t ∧ ∀ u ∈ v.cells.toList, u.oneCell' = true := by
  unfold elemOwn at he
  split at he
  · rename_i k tn nx e x hz1 hb1
    split at he
    · rename_i hf
      simp only [Option.some.injEq, Prod.mk.injEq] at he
      obtain ⟨rfl, rfl⟩ := he
      simp only [viewZ] at hz1 hb1
      subst hz1
      simp only [obOf, keyOf] at hb1
      simp only [SlotR] at hz
      obtain ⟨hn, rfl⟩ := hz
      have h0 := h.obs k
      rw [hb1] at h0
      have hone := h0.1.one
      have hc : (hd k).cells.toList = [hd k] := by revert hone; cases hd k <;> simp [Value.cells, Value.oneCell']
      refine ⟨fun j hj => ?_, by simp, ?_, ?_, ?_⟩
      · rw [List.mem_singleton] at hj
        subst hj
        rw [hb1]
        exact ⟨rfl, rfl⟩
      · rw [hc]
        exact (h0.1.sep hf).move (fun b hb => ⟨k, by simp, hb⟩) (fun _ _ => rfl)
      · have := congrArg List.length hc
        have h2 : (hd k).cells.size = 1 := by simpa using this
        exact h2
      · rw [hc]; simpa using hone
    · cases he
  · rename_i k0 k1 tn nx x0 tn1 nx1 x1 hz1 hb1
    split at he
    · cases he
    · rename_i hkk
      simp only [Option.some.injEq, Prod.mk.injEq] at he
      obtain ⟨rfl, rfl⟩ := he
      simp only [viewZ] at hz1 hb1
      subst hz1
      simp only [obsOf, List.map_cons, List.map_nil, List.cons.injEq, and_true, obOf, keyOf] at hb1
      obtain ⟨b0, b1⟩ := hb1
      simp only [SlotR, SlotsR] at hz
      obtain ⟨vs, rfl, hone, u0, r0, rfl, ⟨n0, rfl⟩, u1, r1, rfl, ⟨n1, rfl⟩, rfl⟩ := hz
      have h0 := h.obs k0
      rw [b0] at h0
      have h1 := h.obs k1
      rw [b1] at h1
      have hc : (Value.agg [hd k0, hd k1].toArray).cells.toList = [hd k0, hd k1] := by simp [Value.cells]
      refine ⟨?_, by simp [hkk], ?_, by simp [Value.cells, sz, szNT], by rw [hc]; exact hone⟩
      · intro k hk
        simp only [List.mem_cons, List.not_mem_nil, or_false] at hk
        rcases hk with rfl | rfl
        · rw [b0]; exact ⟨rfl, rfl⟩
        · rw [b1]; exact ⟨rfl, rfl⟩
      · rw [hc]
        refine .ap _ 2 _ _ (.pair _ (fp k0) (fp k1) (.sl (.int .i64)) (.pair (.sl (.int .i64)) .unit) x0 (x1, ()) [hd k0] [hd k1] (fun c hc => ⟨k0, by simp, hc⟩) (fun c hc => ⟨k1, by simp, hc⟩) (fun c h0 h1 => hkk (h.disj k0 k1 c h0 h1)) (h0.1.sep rfl) ?_)
        exact .pair _ (fp k1) (fun _ => False) (.sl (.int .i64)) .unit x1 () [hd k1] [] (fun _ h => h) (fun _ h => h.elim) (fun _ _ h => h) (h1.1.sep rfl) (.flat _ .unit () [] rfl .unit)
  · cases he
theorem PV.is_eq {p : PV} {t : Ty} {y : Den t} (h : p.is t = some y) : p = ⟨t, y⟩ := by
  obtain ⟨u, x⟩ := p
  unfold PV.is at h
  split at h
  · rename_i e
    simp only at e
    subst e
    simp at h
    rw [h]
  · cases h
/-- What a new row of rows of its own becomes. -/
theorem newDeep_ok {d : Option Nat} {fr : Ob} {c : Bool} {e : Ty} {x : List (Den e)} {m m' : List (Nat × Ob)} {z : Slot} (hn : newDeep d fr c e x m = some (true, z, m'))
    (hfr : freshOb s d = fr) (h : Inv N w0 Mv Gb Gs hd fp ⟨s.sl, modOb s.ob m⟩ a w) (hm : ∀ k, s.ob.getD k .gone = .none → (modOb s.ob m).getD k .gone = .none)
    {v : Value} {F : BS} (hF : ∀ b, F b → Free N Mv Gb Gs fp w b) (hr : DpR w e x v F) :
    c = true ∧ ∃ Gs' hd' fp', Inv N w0 Mv Gb Gs' hd' fp' (s.out d z m') (a.put d v) w := by
  unfold newDeep at hn
  split at hn
  · rename_i d
    simp only [Option.some.injEq, Prod.mk.injEq] at hn
    obtain ⟨rfl, rfl, rfl⟩ := hn
    have hk : (modOb s.ob m).getD (4 * d) .gone = .none := hm _ (by simpa [freshOb] using hfr)
    have h1 := h.newKey (k := 4 * d) (v := v) (F := F) hk hF (ob := .dp e x) rfl hr
    have h2 := h1.put (some d) (z := .ref (4 * d)) (v := v) (by
      simp only [SlotR]
      have hlt : 4 * d < (modOb s.ob m).length := by
        rcases Nat.lt_or_ge (4 * d) (modOb s.ob m).length with h | h
        · exact h
        · rw [List.getD_eq_getElem?_getD, List.getElem?_eq_none h] at hk; cases hk
      refine ⟨by rw [getD_set_self, if_pos hlt]; rfl, by simp⟩)
    exact ⟨rfl, _, _, _, h2⟩
  · cases hn
theorem newDeep_true {d : Option Nat} {fr : Ob} {c : Bool} {e : Ty} {x : List (Den e)} {m m' : List (Nat × Ob)} {z : Slot} (hn : newDeep d fr c e x m = some (true, z, m')) : c = true := by
  unfold newDeep at hn
  split at hn
  · simp at hn; exact hn.1
  · cases hn
theorem zeroSep (w : World) (F : BS) : ∀ t, SepC w F t (zeroD t) (zeroC t)
  | .int k => .flat F _ _ _ rfl (.int k 0)
  | .bool => .flat F _ _ _ rfl (.bool false)
  | .str => .flat F _ _ _ rfl (.str ByteArray.empty)
  | .unit => .flat F _ _ _ rfl .unit
  | .sl e => .nil F e
  | .pair a b => .pair F (fun _ => False) (fun _ => False) a b _ _ _ _ (fun _ h => h.elim) (fun _ h => h.elim) (fun _ h => h.elim) (zeroSep w _ a) (zeroSep w _ b)
  | .ap 0 => .ap F 0 _ _ (.pair F (fun _ => False) (fun _ => False) _ _ _ _ [_] [_] (fun _ h => h.elim) (fun _ h => h.elim) (fun _ h => h.elim) (.flat _ _ _ _ rfl (.int _ _)) (.pair _ (fun _ => False) (fun _ => False) _ _ _ _ [_] [] (fun _ h => h) (fun _ h => h) (fun _ h => h.elim) (.nil _ _) (.flat _ _ _ _ rfl .unit)))
  | .ap 1 => .ap F 1 _ _ (.nil _ _)
  | .ap 2 => .ap F 2 _ _ (.pair F (fun _ => False) (fun _ => False) _ _ _ _ [_] [_] (fun _ h => h.elim) (fun _ h => h.elim) (fun _ h => h.elim) (.nil _ _) (.pair _ (fun _ => False) (fun _ => False) _ _ _ _ [_] [] (fun _ h => h) (fun _ h => h) (fun _ h => h.elim) (.nil _ _) (.flat _ _ _ _ rfl .unit)))
  | .ap 3 => .flat F _ _ _ rfl (zeroRep w _ (.ap 3))
  | .ap 4 => .ap F 4 _ _ (.pair F (fun _ => False) (fun _ => False) _ _ _ _ [_] [_, _, _] (fun _ h => h.elim) (fun _ h => h.elim) (fun _ h => h.elim) (.nil _ _) (.pair _ (fun _ => False) (fun _ => False) _ _ _ _ [_] [_, _] (fun _ h => h) (fun _ h => h) (fun _ h => h.elim) (.flat _ _ _ _ rfl (.int _ _))
      (.pair _ (fun _ => False) (fun _ => False) _ _ _ _ [_] [_] (fun _ h => h) (fun _ h => h) (fun _ h => h.elim) (.nil _ _) (.pair _ (fun _ => False) (fun _ => False) _ _ _ _ [_] [] (fun _ h => h) (fun _ h => h) (fun _ h => h.elim) (.nil _ _) (.flat _ _ _ _ rfl .unit)))))
  | .ap 5 => .flat F _ _ _ rfl (zeroRep w _ (.ap 5))
  | .ap (n + 6) => .ap F (n + 6) _ _ (.flat _ _ _ _ rfl .unit)
  | .err => .flat F _ _ _ rfl .errNil
theorem zeros_sep (w : World) (e : Ty) : ∀ n, SepL w (fun _ => False) e (List.replicate n (zeroD e)) (List.replicate n (zeroC e)).flatten
  | 0 => .nil _ e
  | n + 1 => by simp only [List.replicate_succ, List.flatten_cons]; exact .cons _ (fun _ => False) (fun _ => False) e _ _ _ _ (fun _ h => h) (fun _ h => h) (fun _ h => h.elim) (zeroSep w _ e) (zeros_sep w e n)
theorem Free.alloc {b : Nat} (h : Free N Mv Gb Gs fp w b) (o : Obj) : Free N Mv Gb Gs fp (w.alloc o) b := ⟨by have := h.lt; simp; omega, h.mine, h.gs, h.gb, h.fp⟩
/-- Rows of rows of their own, one behind the other. -/
theorem append_deep (hT : TabOk P T) {t : TypeId} {e : Ty} (ht : rowT T t = some e) {x y : List (Den e)} {vx vy : Value} (ty : TypeId) {Bx By : BS} (hx : DpR w e x vx Bx) (hy : DpR w e y vy By)
    (hB : ∀ b, Bx b → Free N Mv Gb Gs fp w b) (hB' : ∀ b, By b → Free N Mv Gb Gs fp w b) (hdj : ∀ b, Bx b → ¬ By b) (hlim : x.length + y.length < lim) (hI : Inv N w0 Mv Gb Gs hd fp s a w) :
    ∃ v w1 F, (Builtin.append_ #[t, t] ty #[vx, vy]).run P w = .ok v w1 ∧ Inv N w0 Mv Gb Gs hd fp s a w1 ∧ (∀ b, F b → Free N Mv Gb Gs fp w1 b) ∧ DpR w1 e (x ++ y) v F := by
  obtain ⟨eid, i, hu, hi, hs, hby, zz, hz, hzc⟩ := elem_facts hT ht
  have hlim' : x.length + y.length < 1099511627776 := hlim
  have hzs : zz.cells.size = sz e := by
    have := congrArg List.length hzc
    have hzl := (zeroRep w Gs e).len
    simp only [Array.length_toList] at this
    omega
  rcases hy with ⟨rfl, rfl⟩ | ⟨G', b', o', cap', ds, rfl, k2, k3, k4, k5, k6, k7⟩
  · -- nothing is appended
    have hfirst := run_firstCells_none (P := P) w i.size 0 0 0
    rcases hx with ⟨rfl, rfl⟩ | ⟨G, b, o, cap, cs, rfl, h2, h3, h4, h5, h6, h7⟩
    · exact ⟨_, w, fun _ => False, run_append_nilnil w t ty eid i hu hi _ rfl hfirst, hI, fun _ h => h.elim, .inl ⟨rfl, rfl⟩⟩
    · have hr := run_append_fit (P := P) w t ty eid i hu hi b o x.length cap 0 (.slice none 0 0) rfl [] (by simpa using hfirst) (by simp) (by omega) (fun j hj => by omega) (fun v hv => by simp at hv)
      rw [show w.setCells b (o + x.length * i.size) [] = w from rfl] at hr
      refine ⟨_, _, Bx, hr, hI, hB, .inr ⟨G, b, o, cap, cs, by simp, by simpa using h2, h3, h4, by simpa using h5, h6, h7⟩⟩
  · have hdl := k5.rep.len
    have hone := k5.rep.one
    have hfirst := run_firstCells_some (P := P) w i.size y.length ⟨b', o', none⟩ y.length cap' ds (by rw [hs]; exact hdl) (fun j v hv => by rw [Addr.add_mid]; exact k6 j v hv)
    rcases hx with ⟨rfl, rfl⟩ | ⟨G, b, o, cap, cs, rfl, h2, h3, h4, h5, h6, h7⟩
    · by_cases hy0 : y = []
      · subst hy0
        have hds : ds = [] := List.eq_nil_of_length_eq_zero (by simpa using hdl)
        subst hds
        exact ⟨_, w, fun _ => False, run_append_nilnil w t ty eid i hu hi _ rfl hfirst, hI, fun _ h => h.elim, .inl ⟨rfl, rfl⟩⟩
      · have hpos : 0 < y.length := by cases y with | nil => exact absurd rfl hy0 | cons _ _ => simp
        have hb48 : y.length * i.bytes ≤ 281474976710656 := by
          have : y.length * i.bytes ≤ 1099511627776 * 128 := Nat.mul_le_mul (by omega) hby
          omega
        have hr := run_append_nil (P := P) w t ty eid i zz hu hi hz ⟨b', o', none⟩ y.length cap' ds (by rw [hs]; exact hdl) (fun j v hv => by rw [Addr.add_mid]; exact k6 j v hv) hpos (by omega) hb48
        have hcap := le_grownCap w y.length 0 eid
        refine ⟨_, _, fun c => c = w.heap.size ∨ G' c, hr, (hI.drew.alloc _).1, ?_, .inr ⟨G', w.heap.size, 0, grownCap w y.length 0 eid, ds, by simp, by simpa using hcap, .inl rfl, fun c hc => ⟨.inr hc, ?_⟩, ?_, rangeAt_new w.drew _ _ ds ⟨_, by simp; rfl⟩, there_new w.drew _ _ _ ?_⟩⟩
        · rintro c (rfl | hc)
          · exact (hI.drew.alloc _).2
          · have := hB' c (k4 c hc).1
            exact Free.alloc (w := w.drew) ⟨this.lt, this.mine, this.gs, this.gb, this.fp⟩ _
        · have := (hB' c (k4 c hc).1).lt; omega
        · exact k5.move (fun _ h => h) (fun c hc => Below.heap_alloc w.drew _ _ (hB' c (k4 c hc).1).lt)
        · simp only [Array.size_append, zeroCells_size, List.size_toArray, hdl, hzs]
          rw [← Nat.add_mul]
          exact Nat.mul_le_mul_right _ (by omega)
    · have hb := hB b h3
      by_cases hfit : x.length + y.length ≤ cap
      · have hth : w.there b (o + x.length * i.size) (y.length * i.size) := by
          rw [hs]
          intro j hj
          have := h7 (x.length * sz e + j) (by
            have : (x.length + y.length) * sz e ≤ cap * sz e := Nat.mul_le_mul_right _ hfit
            rw [Nat.add_mul] at this
            omega)
          rwa [show o + x.length * sz e + j = o + (x.length * sz e + j) by omega]
        have hr := run_append_fit (P := P) w t ty eid i hu hi b o x.length cap y.length _ rfl ds hfirst (by rw [hs]; exact hdl) hfit hth hone
        have hw := hI.write hb (o + x.length * i.size) ds
        have hmv : ∀ c, c ≠ b → (w.setCells b (o + x.length * i.size) ds).heap[c]? = w.heap[c]? := fun c hc => setCells_block b ds _ w c hc
        have g'b : ∀ c, G' c → c ≠ b := fun c hc e => by subst e; exact hdj c h3 (k4 c hc).1
        refine ⟨_, _, fun c => c = b ∨ G c ∨ G' c, hr, hw, ?_, .inr ⟨fun c => G c ∨ G' c, b, o, cap, cs ++ ds, by simp, by simpa using hfit, .inl rfl, fun c hc => ⟨.inr hc, hc.elim (fun q => (h4 c q).2) (g'b c)⟩, ?_, ?_, ?_⟩⟩
        · have fr : ∀ c, Free N Mv Gb Gs fp w c → Free N Mv Gb Gs fp (w.setCells b (o + x.length * i.size) ds) c := fun c hc => ⟨by rw [setCells_size]; exact hc.lt, hc.mine, hc.gs, hc.gb, hc.fp⟩
          rintro c (rfl | hc | hc)
          · exact fr _ hb
          · exact fr c (hB c (h4 c hc).1)
          · exact fr c (hB' c (k4 c hc).1)
        · exact SepL.append (h5.move (fun _ h => h) (fun c hc => hmv c (h4 c hc).2)) (k5.move (fun _ h => h) (fun c hc => hmv c (g'b c hc))) (fun _ h => .inl h) (fun _ h => .inr h) (fun c hc hc' => hdj c (h4 c hc).1 (k4 c hc').1)
        · intro j v hv
          have hcl := h5.rep.len
          by_cases hj : j < cs.length
          · rw [List.getElem?_append_left hj] at hv
            rw [World.cell?_setCells_out b ds (o + x.length * i.size) w _ (fun _ _ => Or.inl (by simp only []; rw [hs]; omega))]
            exact h6 j v hv
          · rw [List.getElem?_append_right (by omega)] at hv
            obtain ⟨hj2, hv2⟩ := List.getElem?_eq_some_iff.1 hv
            have := World.cell?_setCells_in b ds (o + x.length * i.size) w (fun q hq => (hth q (by rw [hs]; omega)).1) (j - cs.length) hj2
            rw [show o + x.length * i.size + (j - cs.length) = o + j by rw [hs]; omega] at this
            rw [this, hv2]
        · exact there_set h7 (by rw [hdl, ← hs]; exact hth)
      · have hy0 : y ≠ [] := by rintro rfl; simp at hfit; omega
        have hfits := Go.growslice_fits (need := x.length + y.length) (old := cap) (bytes := i.bytes) (by omega) (by
          have : (x.length + y.length) * i.bytes ≤ 1099511627776 * 128 := Nat.mul_le_mul (by omega) hby
          omega)
        have hr := run_append_grow (P := P) w t ty eid i zz hu hi hz ⟨b, o, none⟩ x.length cap cs (by rw [hs]; exact h5.rep.len) (fun j v hv => by rw [Addr.add_mid]; exact h6 j v hv)
          ⟨b', o', none⟩ y.length cap' ds (by rw [hs]; exact hdl) (fun j v hv => by rw [Addr.add_mid]; exact k6 j v hv) (by omega) (by omega) hfits
        have hcap := le_grownCap w (x.length + y.length) cap eid
        refine ⟨_, _, fun c => c = w.heap.size ∨ G c ∨ G' c, hr, (hI.drew.alloc _).1, ?_, .inr ⟨fun c => G c ∨ G' c, w.heap.size, 0, grownCap w (x.length + y.length) cap eid, cs ++ ds, by simp, by simpa using hcap, .inl rfl, fun c hc => ⟨.inr hc, ?_⟩, ?_, rangeAt_new w.drew _ _ _ ⟨_, by simp; rfl⟩, there_new w.drew _ _ _ ?_⟩⟩
        · have fr : ∀ c, Free N Mv Gb Gs fp w c → Free N Mv Gb Gs fp (w.drew.alloc (.cells (cs.toArray ++ ds.toArray ++ Builtin.zeroCells zz.cells (grownCap w (x.length + y.length) cap eid - (x.length + y.length))) eid)) c :=
            fun c hc => Free.alloc (w := w.drew) ⟨hc.lt, hc.mine, hc.gs, hc.gb, hc.fp⟩ _
          rintro c (rfl | hc | hc)
          · exact (hI.drew.alloc _).2
          · exact fr c (hB c (h4 c hc).1)
          · exact fr c (hB' c (k4 c hc).1)
        · rcases hc with hc | hc
          · have := (hB c (h4 c hc).1).lt; omega
          · have := (hB' c (k4 c hc).1).lt; omega
        · exact SepL.append (h5.move (fun _ h => h) (fun c hc => Below.heap_alloc w.drew _ _ (hB c (h4 c hc).1).lt)) (k5.move (fun _ h => h) (fun c hc => Below.heap_alloc w.drew _ _ (hB' c (k4 c hc).1).lt)) (fun _ h => .inl h) (fun _ h => .inr h) (fun c hc hc' => hdj c (h4 c hc).1 (k4 c hc').1)
        · have h1 := h5.rep.len
          simp only [Array.size_append, zeroCells_size, List.size_toArray, h1, hdl, hzs]
          rw [← Nat.add_mul, ← Nat.add_mul]
          exact Nat.mul_le_mul_right _ (by omega)
end Go.Proofs.YtkgpkalclblhbaaGreatDoor.Eng
