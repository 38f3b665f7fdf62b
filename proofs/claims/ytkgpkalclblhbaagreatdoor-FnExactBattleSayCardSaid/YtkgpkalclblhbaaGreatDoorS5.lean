/-
  One operation: comparisons, conversions, lengths, addresses and reads.
-/
import Derived.Test.YtkgpkalclblhbaaGreatDoorS4
namespace Go.Proofs.YtkgpkalclblhbaaGreatDoor.Eng
open Go Go.RowKit
set_option linter.unusedVariables false
set_option linter.unusedSimpArgs false

variable {P : Program} {T : Tab} {N : Nat} {w0 : World} {Mv : Mvp} {Gb Gs : BS} {hd : Nat → Value} {fp : Nat → BS} {s : St} {a : Act} {w w' : World}

theorem RowR.some_of {w : World} {G B : BS} {e : Ty} {x : List (Den e)} {v : Value} (h : RowR w G B e x v) (hx : x ≠ []) : ∃ va n cap, v = .slice (some va) n cap := by
  rcases h with ⟨_, h⟩ | ⟨b, o, cap, cs, h1, h2, h3, h4, rfl⟩
  · exact absurd h hx
  · exact ⟨_, _, _, rfl⟩
theorem nilCmp_ok (h : Inv N w0 Mv Gb Gs hd fp s a w) (o : Option Ty × Operand) {c r : Bool} (hn : nilCmp (view s o) = some (c, r)) (hc : c = true) : ∃ va n cap, a.eval o.2 = .slice va n cap ∧ r = va.isNone := by
  subst hc
  have hz := rd_ok h o.1 o.2
  unfold nilCmp at hn
  split at hn
  · rename_i e hq; simp only [view, viewZ] at hq; rw [hq] at hz; simp only [SlotR] at hz; cases hn; exact ⟨none, 0, 0, hz, rfl⟩
  · rename_i tn e x hq; simp only [view, viewZ] at hq; rw [hq] at hz; simp only [SlotR] at hz; cases hn; obtain ⟨_, va, n, cap, h1⟩ := hz; exact ⟨some va, n, cap, h1, rfl⟩
  · rename_i k hq
    simp only [view, viewZ] at hq hn
    rw [hq] at hz hn
    simp only [SlotR] at hz
    have h0 := h.obs k
    simp only [obOf, keyOf] at hn
    have key : ∀ (nx : Bool) (e : Ty) (x : List (Den e)) (B : BS) (tn : Bool), RowR w (Gof Gs Gb tn) B e x (hd k) → (nx = true → x = [] → hd k = .slice none 0 0) →
        (if nx = true then some (true, x.isEmpty) else some (!x.isEmpty, false)) = some (true, r) → ∃ va n cap, a.eval o.2 = .slice va n cap ∧ r = va.isNone := by
      intro nx e x B tn h1 h2 h3
      rw [hz.2]
      split at h3
      · rename_i hnx
        cases h3
        by_cases hx : x = []
        · subst hx; exact ⟨none, 0, 0, h2 hnx rfl, rfl⟩
        · obtain ⟨va, n, cap, h4⟩ := h1.some_of hx
          exact ⟨some va, n, cap, h4, by cases x <;> simp_all⟩
      · simp only [Option.some.injEq, Prod.mk.injEq] at h3
        obtain ⟨h3, rfl⟩ := h3
        obtain ⟨va, n, cap, h4⟩ := h1.some_of (x := x) (by rintro rfl; simp at h3)
        exact ⟨some va, n, cap, h4, rfl⟩
    split at hn
    · rename_i tn nx e x hob
      unfold obRow at hob
      split at hob
      · rename_i tn' nx' e' x' hk; cases hob; rw [hk] at h0; exact key _ _ _ _ _ h0.1.row h0.2 hn
      · rename_i tn' nx' e' x' hk; cases hob; rw [hk] at h0; exact key _ _ _ _ _ h0.1.row h0.2 hn
      · cases hob
    · cases hn
  · rename_i tn e x hq
    simp only [view, viewZ] at hq
    rw [hq] at hz
    simp only [SlotR] at hz
    simp only [Option.some.injEq, Prod.mk.injEq] at hn
    obtain ⟨h3, rfl⟩ := hn
    obtain ⟨va, n, cap, h4⟩ := hz.row.some_of (x := x) (by rintro rfl; simp at h3)
    exact ⟨some va, n, cap, h4, rfl⟩
  · cases hn
theorem eqGuard_slice (op : BinOp) (t : TypeId) (x y : Operand) (a b : Option Addr) (n m i j : Nat) : (eqGuard op t x y (.slice a n m) (.slice b i j)).run P w = .ok () w := by
  unfold eqGuard
  cases op <;> simp <;> rfl
theorem eqGuard_bool (op : BinOp) (t : TypeId) (x y : Operand) (a b : Bool) : (eqGuard op t x y (.bool a) (.bool b)).run P w = .ok () w := by
  unfold eqGuard
  cases op <;> simp <;> rfl
theorem eqGuard_str (op : BinOp) (t : TypeId) (x y : Operand) (a b : ByteArray) : (eqGuard op t x y (.string a) (.string b)).run P w = .ok () w := by
  unfold eqGuard
  cases op <;> simp <;> rfl
theorem equal_step (t : TypeId) (x y : Value) : Op.equal t x y = Op.equalIn (9999 + 1) t x y := rfl
theorem equal_nil {t e : TypeId} (hu : P.underlying t = some (.slice e)) (va vb : Option Addr) (n m i j : Nat) (hv : va = none ∨ vb = none) :
    (Op.equal t (.slice va n m) (.slice vb i j)).run P w = .ok (va.isNone && vb.isNone) w := by
  rw [equal_step, Op.equalIn.eq_def]
  simp only [Sem.run_bind, run_underlying hu, Result.andThen_ok]
  cases va <;> cases vb <;> simp_all
theorem equal_bool {t : TypeId} (hu : P.underlying t = some .bool) (x y : Bool) : (Op.equal t (.bool x) (.bool y)).run P w = .ok (x == y) w := by
  rw [equal_step, Op.equalIn.eq_def]
  simp only [Sem.run_bind, run_underlying hu, Result.andThen_ok, Sem.run_pure]
theorem VRep.of_err {G : BS} {b : Bool} {v : Value} (h : VRep w G .err b v) : (b = true ∧ v = .nilIface) ∨ (b = false ∧ ∃ t u, v = .iface t u) := by
  obtain ⟨cs, h1, h2⟩ := h
  rcases h1.of_err with ⟨h3, h4⟩ | ⟨h3, t, u, h4⟩
  · rw [h4] at h2; exact .inl ⟨h3, by simpa [isAggT] using h2⟩
  · rw [h4] at h2; exact .inr ⟨h3, t, u, by simpa [isAggT] using h2⟩
theorem VRep.of_two {G : BS} {p : TwoInts} {v : Value} (h : VRep w G (.ap 3) p v) : v = .agg #[.int .i64 p.f0, .int .i64 p.f1] := by
  obtain ⟨cs, h1, h2⟩ := h
  obtain ⟨c, d, rfl, h3, h4⟩ := RepC.of_pair h1.of_ap
  obtain ⟨c', d', rfl, h5, h6⟩ := RepC.of_pair h4
  cases h6
  rw [h3.of_int, h5.of_int] at h2
  simpa [isAggT] using h2
theorem eqGuard_err (op : BinOp) (t : TypeId) (x : Operand) {y : Operand} (hy : isK y = true) (p : Bool) {v : Value} (hv : (p = true ∧ v = .nilIface) ∨ (p = false ∧ ∃ t u, v = .iface t u)) : (eqGuard op t x y v .nilIface).run P w = .ok () w := by
  cases y <;> simp [isK] at hy
  unfold eqGuard
  rcases hv with ⟨_, rfl⟩ | ⟨_, t', u, rfl⟩
  · cases op <;> simp <;> rfl
  · cases op <;> simp <;> rfl
theorem equal_err {t : TypeId} {ms : Array (String × TypeId)} (hu : P.underlying t = some (.interface ms)) (p : Bool) {v : Value} (hv : (p = true ∧ v = .nilIface) ∨ (p = false ∧ ∃ t u, v = .iface t u)) : (Op.equal t v .nilIface).run P w = .ok p w := by
  rw [equal_step, Op.equalIn.eq_def]
  rcases hv with ⟨rfl, rfl⟩ | ⟨rfl, t', u, rfl⟩ <;> simp only [Sem.run_bind, run_underlying hu, Result.andThen_ok, Sem.run_pure]
theorem binOp_err {t : TypeId} {ms : Array (String × TypeId)} (hu : P.underlying t = some (.interface ms)) (p : Bool) {v : Value} (hv : (p = true ∧ v = .nilIface) ∨ (p = false ∧ ∃ t u, v = .iface t u)) :
    (binOp .eql t v .nilIface).run P w = .ok (.bool p) w ∧ (binOp .neq t v .nilIface).run P w = .ok (.bool !p) w := by
  have h := equal_err (w := w) hu p hv
  rcases hv with ⟨rfl, rfl⟩ | ⟨rfl, t', u, rfl⟩ <;> simp only [binOp, Sem.run_bind, h, Result.andThen_ok, Sem.run_pure, and_self]
theorem binOp_two {t : TypeId} (hE : EqFacts P t) (p r : TwoInts) :
    (binOp .eql t (.agg #[.int .i64 p.f0, .int .i64 p.f1]) (.agg #[.int .i64 r.f0, .int .i64 r.f1])).run P w = .ok (.bool (decide (p.f0 = r.f0) && decide (p.f1 = r.f1))) w ∧ (binOp .neq t (.agg #[.int .i64 p.f0, .int .i64 p.f1]) (.agg #[.int .i64 r.f0, .int .i64 r.f1])).run P w = .ok (.bool !(decide (p.f0 = r.f0) && decide (p.f1 = r.f1))) w := by
  simp only [binOp, Sem.run_bind, hE.equal, Result.andThen_ok, Sem.run_pure, and_self]
theorem ok_errCmp (hT : TabOk P T) (h : Inv N w0 Mv Gb Gs hd fp s a w) {o : Oper} {op : BinOp} {xt yt : TypeId} {x y : Operand} {b1 b2 p : Bool} {z : Slot} {m : List (Nat × Ob)} (ho : o.op = .binOp op xt x y yt)
    (hp : dataV (view s (T.ty xt, x)) = some (b1, ⟨.err, p⟩)) (hr : dataV (view s (T.ty xt, y)) = some (b2, ⟨.err, true⟩)) (hty : T.ty xt = some .err ∧ isK y = true) (hop : errCmp op p = some (true, z, m)) : OpOk P N w0 Mv Gb s a w o z m := by
  have e1 := VRep.of_err (view_data h _ hp).1
  have e2 := VRep.of_err (view_data h _ hr).1
  simp only [Bool.true_eq_false, false_and, or_false, true_and] at e1 e2
  obtain ⟨d, hu, hdd⟩ := (hT.1 _ _ hty.1).desc
  have hu' : ∃ ms, P.underlying xt = some (.interface ms) := by
    cases d <;> simp_all [DescOk, isAggT]
  obtain ⟨ms, hu'⟩ := hu'
  have hb := binOp_err (w := w) hu' p e1
  have hg := fun op => eqGuard_err (P := P) (w := w) op xt x hty.2 p e1
  unfold errCmp at hop
  split at hop
  · refine ok_pure h hop (fun hc => ⟨?_, VRep.bool _⟩)
    simp only [execOp, ho, e2, Sem.run_bind, hg, Result.andThen_ok, hb.1, Sem.run_pure]
  · refine ok_pure h hop (fun hc => ⟨?_, VRep.bool _⟩)
    simp only [execOp, ho, e2, Sem.run_bind, hg, Result.andThen_ok, hb.2, Sem.run_pure]
  · cases hop
theorem ok_twoCmp (hT : TabOk P T) (h : Inv N w0 Mv Gb Gs hd fp s a w) {o : Oper} {op : BinOp} {xt yt : TypeId} {x y : Operand} {b1 b2 : Bool} {p r : TwoInts} {z : Slot} {m : List (Nat × Ob)} (ho : o.op = .binOp op xt x y yt)
    (hp : dataV (view s (T.ty xt, x)) = some (b1, ⟨.ap 3, p⟩)) (hr : dataV (view s (T.ty xt, y)) = some (b2, ⟨.ap 3, r⟩)) (hty : T.eq xt = true) (hop : twoCmp op p r = some (true, z, m)) : OpOk P N w0 Mv Gb s a w o z m := by
  have e1 := VRep.of_two (view_data h _ hp).1
  have e2 := VRep.of_two (view_data h _ hr).1
  simp only at e1 e2
  have hE := hT.2.2 _ hty
  have hb := binOp_two (w := w) hE p r
  unfold twoCmp at hop
  split at hop
  · refine ok_pure h hop (fun hc => ⟨?_, VRep.bool _⟩)
    simp only [execOp, ho, e1, e2, Sem.run_bind, hE.guard, Result.andThen_ok, hb.1, Sem.run_pure]
  · refine ok_pure h hop (fun hc => ⟨?_, VRep.bool _⟩)
    simp only [execOp, ho, e1, e2, Sem.run_bind, hE.guard, Result.andThen_ok, hb.2, Sem.run_pure]
  · cases hop
theorem ok_binOp (hT : TabOk P T) (h : Inv N w0 Mv Gb Gs hd fp s a w) {own : List Nat} {o : Oper} {op : BinOp} {xt yt : TypeId} {x y : Operand} {fr : Ob} {z : Slot} {m : List (Nat × Ob)} (ho : o.op = .binOp op xt x y yt)
    (hop : opC T own o (views T s o) fr = some (true, z, m)) : OpOk P N w0 Mv Gb s a w o z m := by
  simp only [opC, ho, views, opnds, List.map] at hop
  have hx := rd_ok h (T.ty xt) x
  have hy := rd_ok h (T.ty xt) y
  have nilcase : ∀ (r : Bool) (va vb : Option Addr) (n i j k : Nat), a.eval x = .slice va n i → a.eval y = .slice vb j k → (va = none ∨ vb = none) → r = (va.isNone && vb.isNone) → rowT T xt ≠ none →
      ∀ (p : Bool), (op = .eql → p = r) → (op = .neq → p = !r) → (op = .eql ∨ op = .neq) → ∀ tn, (execOp a.eval o).run P w = .ok (.value (.bool p)) w ∧ VRep w (Gof Gs Gb tn) .bool p (.bool p) := by
    intro r va vb n i j k e1 e2 e3 e4 e5 p h1 h2 h3 tn
    refine ⟨?_, VRep.bool p⟩
    obtain ⟨e, he⟩ := Option.ne_none_iff_exists'.1 e5
    obtain ⟨eid, u, hu, _⟩ := rowT_facts hT he
    have hq := equal_nil (w := w) hu va vb n i j k e3
    rcases h3 with rfl | rfl
    · simp only [execOp, ho, e1, e2, Sem.run_bind, eqGuard_slice, Result.andThen_ok, binOp, hq, Sem.run_pure, h1 rfl, e4]
    · simp only [execOp, ho, e1, e2, Sem.run_bind, eqGuard_slice, Result.andThen_ok, binOp, hq, Sem.run_pure, h2 rfl, e4]
  split at hop
  · rename_i e hz
    simp only [view, viewZ] at hz
    rw [hz] at hx
    simp only [SlotR] at hx
    split at hop
    · cases hop
    · rename_i hr
      split at hop <;> first | (cases hop; done) | skip
      · rename_i c r hn
        refine ok_pure (v := .bool r) h hop (fun hc => ?_)
        obtain ⟨va, n, cap, h1, h2⟩ := nilCmp_ok h (T.ty xt, y) hn hc
        exact nilcase r none va _ _ _ _ hx h1 (.inl rfl) (by simpa using h2) hr _ (by simp) (by simp) (by simp) _
      · rename_i c r hn
        refine ok_pure (v := .bool (!r)) h hop (fun hc => ?_)
        obtain ⟨va, n, cap, h1, h2⟩ := nilCmp_ok h (T.ty xt, y) hn hc
        exact nilcase r none va _ _ _ _ hx h1 (.inl rfl) (by simpa using h2) hr _ (by simp) (by simp) (by simp) _
  · rename_i e hz hz0
    simp only [view, viewZ] at hz
    rw [hz] at hy
    simp only [SlotR] at hy
    split at hop
    · cases hop
    · rename_i hr
      split at hop <;> first | (cases hop; done) | skip
      · rename_i c r hn
        refine ok_pure (v := .bool r) h hop (fun hc => ?_)
        obtain ⟨va, n, cap, h1, h2⟩ := nilCmp_ok h (T.ty xt, x) hn hc
        exact nilcase r va none _ _ _ _ h1 hy (.inr rfl) (by simpa using h2) hr _ (by simp) (by simp) (by simp) _
      · rename_i c r hn
        refine ok_pure (v := .bool (!r)) h hop (fun hc => ?_)
        obtain ⟨va, n, cap, h1, h2⟩ := nilCmp_ok h (T.ty xt, x) hn hc
        exact nilcase r va none _ _ _ _ h1 hy (.inr rfl) (by simpa using h2) hr _ (by simp) (by simp) (by simp) _
  · split at hop
    · rename_i b1 p b2 r hp hr
      have e1 := data_bool h _ hp
      have e2 := data_bool h _ hr
      split at hop
      · rename_i hty
        obtain ⟨d, hu, hdd⟩ := (hT.1 _ _ hty).desc
        have hu' : P.underlying xt = some .bool := by
          cases d <;> simp_all [DescOk, isAggT]
        split at hop <;> first | (cases hop; done) | skip
        all_goals
          refine ok_pure h hop (fun hc => ⟨?_, VRep.bool _⟩)
          simp only [execOp, ho, e1, e2, Sem.run_bind, eqGuard_bool, Result.andThen_ok, binOp, equal_bool hu', Sem.run_pure]
      · cases hop
    · rename_i b1 p b2 hp hr
      split at hop
      · rename_i hty; exact ok_errCmp hT h ho hp hr hty hop
      · cases hop
    · rename_i b1 p b2 r hp hr
      split at hop
      · rename_i hty; exact ok_twoCmp hT h ho hp hr hty hop
      · cases hop
    · rename_i b1 p b2 r hnb _ _ hp hr
      split at hop
      · rename_i c v hb
        refine ok_pureE h hop (fun hc => ?_)
        have fin : ∀ (va vb : Value), a.eval x = va → a.eval y = vb → (eqGuard op xt x y va vb).run P w = .ok () w → (∃ u, (binOp op xt va vb).run P w = .ok u w ∧ ∀ G, VRep w G v.t v.x u) → ∃ u, (execOp a.eval o).run P w = .ok (.value u) w ∧ VRep w (Gof Gs Gb false) v.t v.x u := by
          intro va vb e1 e2 hg ⟨u, hu1, hu2⟩
          refine ⟨u, ?_, hu2 _⟩
          simp only [execOp, ho, e1, e2, Sem.run_bind, hg, Result.andThen_ok, hu1, Sem.run_pure]
        · unfold binD at hb
          split at hb
          · rename_i k n j n'
            have e1 := data_int h _ hp
            have e2 := data_int h _ hr
            split at hb
            · exact fin _ _ e1 e2 (eqGuard_int _ _ _ _ _ _ _ _) (ok_shift hb hc xt)
            · rename_i hs
              split at hb
              · rename_i hk; subst hk
                exact fin _ _ e1 e2 (eqGuard_int _ _ _ _ _ _ _ _) (ok_arith hb (by simpa using hs) hc xt)
              · cases hb
          · rename_i l1 l2
            obtain ⟨s1, q1, e1⟩ := data_str h _ hp
            obtain ⟨s2, q2, e2⟩ := data_str h _ hr
            subst q1; subst q2
            exact fin _ _ e1 e2 (eqGuard_str _ _ _ _ _ _) (ok_str hb hc xt)
          · exact (hnb _ _ rfl rfl).elim
          · cases hb
      · cases hop
    · cases hop
end Go.Proofs.YtkgpkalclblhbaaGreatDoor.Eng
