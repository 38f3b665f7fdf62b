/-
  Rows inside rows of their own, written over with numbers that follow each other.
-/
import Derived.Test.YtogfnegopdejfaaS29
namespace Go.Proofs.Ytogfnegopdejfaa.Eng
open Go Go.RowKit
set_option linter.unusedVariables false
set_option linter.unusedSimpArgs false

/-- One place of a row of rows of its own, taken out and put back changed. -/
theorem SepL.at {w : World} {F : BS} {e : Ty} {xs : List (Den e)} {cs : List Value} (h : SepL w F e xs cs) (i : Nat) (hi : i < xs.length) :
    ∃ G H : BS, (∀ c, G c → F c) ∧ (∀ c, H c → F c) ∧ (∀ c, G c → ¬ H c) ∧ SepC w G e (xs[i]) ((cs.drop (i * sz e)).take (sz e)) ∧
      ∀ (w' : World) (y : Den e), (∀ c, H c → w'.heap[c]? = w.heap[c]?) → SepC w' G e y ((cs.drop (i * sz e)).take (sz e)) → SepL w' F e (xs.set i y) cs := by
  cases xs with
  | nil => simp at hi
  | cons x xs => cases h with
    | cons _ G1 G2 _ _ _ c d g1 g2 g3 h1 h2 =>
      have hl := h1.rep.len
      cases i with
      | zero =>
        refine ⟨G1, G2, g1, g2, g3, by simpa [← hl] using h1, fun w' y hw hy => ?_⟩
        simp only [List.set_cons_zero]
        exact .cons F G1 G2 e y xs c d g1 g2 g3 (by simpa [← hl] using hy) (h2.move (fun _ h => h) hw)
      | succ i =>
        obtain ⟨G, H, a1, a2, a3, a4, a5⟩ := SepL.at h2 i (by simpa using hi)
        have e1 : ((c ++ d).drop ((i + 1) * sz e)).take (sz e) = (d.drop (i * sz e)).take (sz e) := by
          rw [show (i + 1) * sz e = c.length + i * sz e by rw [hl, Nat.add_mul]; omega, drop_past]
        refine ⟨G, fun b => G1 b ∨ H b, fun b hb => g2 b (a1 b hb), fun b hb => hb.elim (g1 b) (fun q => g2 b (a2 b q)), fun b hb q => q.elim (fun q => g3 b q (a1 b hb)) (a3 b hb), by rw [e1]; simpa using a4, fun w' y hw hy => ?_⟩
        rw [e1] at hy
        simp only [List.set_cons_succ]
        exact .cons F G1 G2 e x _ c d g1 g2 g3 (h1.move (fun _ h => h) (fun b hb => hw b (.inl hb))) (a5 w' y (fun b hb => hw b (.inr hb)) hy)
termination_by xs.length

/-- A function that writes over one row. -/
def Mark1 (P : Program) (g : Nat) : Prop := ∀ (x : List Int) (k : Int) (v : Value) (F : BS) (w : World), x.length < lim → OwnRow w (fun _ => False) (.int .i64) x v F → (∀ b, F b → b < w.heap.size) →
  Calls P g #[v, .int .i64 k] w fun e w' => e = .returned (.int .i64 (mark1 x k).1) ∧ OwnRow w' (fun _ => False) (.int .i64) (mark1 x k).2 v F ∧ Ev w.heap.size F w w'
theorem Ev.trans {N : Nat} {F : BS} {w w1 w2 : World} (h : Ev N F w w1) (h' : Ev w1.heap.size F w1 w2) (hN : N ≤ w.heap.size) : Ev N F w w2 :=
  ⟨h'.os.trans h.os, h'.tape.trans h.tape, h'.output.trans h.output, Nat.le_trans h.size h'.size, fun b hb hM => (h'.block b (by have := h.size; omega) hM).trans (h.block b hb hM)⟩
theorem mark1_len : ∀ (x : List Int) (k : Int), (mark1 x k).2.length = x.length
  | [], _ => rfl
  | _ :: l, k => by simp [mark1, mark1_len l]
theorem SepC.own {w : World} {F : BS} {e : Ty} {x : List (Den e)} {cs : List Value} (h : SepC w F (.sl e) x cs) (hf : Eng.flat e = true) : ∃ v, cs = [v] ∧ OwnRow w (fun _ => False) e x v F := by
  obtain ⟨v, h1, h2⟩ := DpR.of_sep h
  refine ⟨v, h1, ?_⟩
  rcases h2 with h2 | ⟨G, b, o, cap, cs, g1, g2, g3, g4, g5, g6, g7⟩
  · exact .inl h2
  · exact .inr ⟨b, o, cap, cs, g1, g2, g3, g5.rep.anyw hf _ _, g6, g7⟩
/-- A record of two rows, taken apart. -/
theorem SepC.two {w : World} {F : BS} {x : Trade} {cs : List Value} (h : SepC w F (.ap 2) x cs) : ∃ (u0 u1 : Value) (G0 G1 : BS), cs = [u0, u1] ∧ OwnRow w (fun _ => False) (.int .i64) x.f0 u0 G0 ∧ OwnRow w (fun _ => False) (.int .i64) x.f1 u1 G1 ∧ (∀ c, G0 c → F c) ∧ (∀ c, G1 c → F c) ∧ (∀ c, G0 c → ¬ G1 c) ∧
    ∀ (w' : World) (z0 z1 : List Int), OwnRow w' (fun _ => False) (.int .i64) z0 u0 G0 → OwnRow w' (fun _ => False) (.int .i64) z1 u1 G1 → SepC w' F (.ap 2) ⟨z0, z1⟩ [u0, u1] := by
  cases h with
  | flat _ _ _ _ hf _ => simp [Eng.flat] at hf
  | ap _ _ _ _ h =>
    generalize hx : un 2 x = y at h
    obtain ⟨y0, y1, y2⟩ := (y : List Int × List Int × Unit)
    cases h with
    | flat _ _ _ _ hf _ => simp [unf, Eng.flat] at hf
    | pair _ G H _ _ _ _ c d g1 g2 g3 h1 h2 =>
      cases h2 with
      | flat _ _ _ _ hf _ => simp [Eng.flat] at hf
      | pair _ G' H' _ _ _ _ c' d' g1' g2' g3' h1' h2' =>
        obtain ⟨u0, rfl, o0⟩ := h1.own rfl
        obtain ⟨u1, rfl, o1⟩ := h1'.own rfl
        have hd : d' = [] := List.eq_nil_of_length_eq_zero h2'.rep.len
        subst hd
        have e0 : x.f0 = y0 := congrArg (fun z : List Int × List Int × Unit => z.1) hx
        have e1 : x.f1 = y1 := congrArg (fun z : List Int × List Int × Unit => z.2.1) hx
        refine ⟨u0, u1, G, G', rfl, by rw [e0]; exact o0, by rw [e1]; exact o1, g1, fun c hc => g2 c (g1' c hc), fun c hc hc' => g3 c hc (g1' c hc'), fun w' z0 z1 q0 q1 => ?_⟩
        exact .ap F 2 _ _ (.pair F G G' (.sl (.int .i64)) (.pair (.sl (.int .i64)) .unit) z0 (z1, ()) [u0] [u1] g1 (fun c hc => g2 c (g1' c hc)) (fun c hc hc' => g3 c hc (g1' c hc')) (q0.sep rfl)
          (.pair G' G' (fun _ => False) (.sl (.int .i64)) .unit z1 () [u1] [] (fun _ h => h) (fun _ h => h.elim) (fun _ _ h => h) (q1.sep rfl) (.flat _ .unit () [] rfl .unit)))
theorem markL_len : ∀ (x : List (List Int)) (k : Int), (markL x k).2.length = x.length
  | [], _ => rfl
  | _ :: l, k => by simp [markL, markL_len l]
theorem markT_len : ∀ (x : List Trade) (k : Int), (markT x k).2.length = x.length
  | [], _ => rfl
  | _ :: l, k => by simp [markT, markT_len l]
/-- What is said of a function that writes over the rows inside of a row. -/
def MarkD (P : Program) (g : Nat) (e : Ty) (mk : List (Den e) → Int → Int × List (Den e)) (ok : List (Den e) → Bool) : Prop := ∀ (x : List (Den e)) (k : Int) (b o cap : Nat) (cs : List Value) (G : BS) (w : World), ok x = true →
  SepL w G e x cs → w.rangeAt b o cs → ¬ G b → (∀ c, G c → c < w.heap.size) → b < w.heap.size →
  Calls P g #[.slice (some ⟨b, o, none⟩) x.length cap, .int .i64 k] w fun en w' => en = .returned (.int .i64 (mk x k).1) ∧ SepL w' G e (mk x k).2 cs ∧ w'.heap[b]? = w.heap[b]? ∧ Ev w.heap.size G w w'
def MarkN (P : Program) (g : Nat) : Prop := ∀ (k : Int) (w : World), Calls P g #[.slice none 0 0, .int .i64 k] w fun en w' => en = .returned (.int .i64 k) ∧ Ev w.heap.size (fun _ => False) w w'
theorem sound_mark {P : Program} {T : Tab} {g : Nat} {f : FnT} {e : Ty} (hf : T.fn g = some f) (hp : f.pars = [(.sl e, .dio), (.int .i64, .ln)]) (ho : f.outs = [(.int .i64, ⟨false, false, false, false, false⟩)]) (hrg : f.rg = []) (hpg : f.pg = [])
    {mk : List (Den e) → Int → Int × List (Den e)} {ok : List (Den e) → Bool} {out : Int → List (Den e) → T.R g} (hs : ∀ a b, spread (T.outTys g) (out a b) = [⟨.int .i64, a⟩, ⟨.sl e, b⟩]) (hl : ∀ x k, (mk x k).2.length = x.length) (hk0 : ∀ k, mk [] k = (k, []))
    (hc : MarkD P g e mk ok) (hn : MarkN P g) : Sound P T g (onMark T g e mk ok out) := by
  intro f' ps r hf' hr w G0 G F vs hG hK
  rw [hf] at hf'
  cases hf'
  have hargs := hG.args
  rw [hp] at hargs
  match ps, vs, hargs with
  | [p, q], [v, u], hargs =>
    simp only [ArgsR, and_true] at hargs
    obtain ⟨ht, ⟨e', x, rfl, hv⟩, hq, hu⟩ := hargs
    simp only at ht
    cases ht
    obtain ⟨t, k⟩ := q
    simp only at hq hu
    subst hq
    obtain rfl := VRep.of_int hu
    simp only [onMark, PV.to_self ⟨.sl e, x⟩, PV.to_self ⟨.int .i64, k⟩, Option.bind_some] at hr
    have hok : ok x = true := by
      unfold gate at hr
      cases h : ok x with
      | true => rfl
      | false => rw [h] at hr; cases hr
    rw [hok] at hr
    have hr' : r = out (mk x k).1 (mk x k).2 := by
      simp only [gate] at hr
      simpa using hr.symm
    subst hr'
    have hgv : grpV f.pg [v, .int .i64 k] = [v, .int .i64 k] := by rw [hpg]; rfl
    rw [hgv]
    have post : ∀ (w' : World), DpR w' e (mk x k).2 v (F 0) → Ev w.heap.size (F 0) w w' → Post w G0 G F f [v, .int .i64 k] (spread (T.outTys g) (out (mk x k).1 (mk x k).2)) (.returned (.int .i64 (mk x k).1)) w' := by
      intro w' h1 h2
      refine ⟨[.int .i64 (mk x k).1], fun _ => False, fun _ _ => False, by rw [hrg]; rfl, ⟨h2.os, h2.tape, h2.output, h2.size, fun b hb hn => h2.block b hb (fun q => hn ⟨0, q⟩)⟩, fun b h => h.elim, ?_, ?_, fun j b h => h.elim, fun j j' b h => h.elim⟩
      · rw [ho, hs]
        simp only [OutsR, OutR, Bool.false_eq_true, if_false, and_true, true_and]
        exact VRep.int _ _
      · rw [ho, hp, hs]
        simp only [List.length_cons, List.length_nil, Nat.zero_add, List.drop_succ_cons, List.drop_zero, PtrsR, and_true, true_and]
        exact ⟨e, (mk x k).2, rfl, h1⟩
    rcases hv with ⟨rfl, rfl⟩ | ⟨Gd, b, o, cap, cs, rfl, h2, h3, h4, h5, h6, h7⟩
    · refine (hn k w).mono ?_
      rintro en w' ⟨rfl, h8⟩
      have hk := hk0 k
      have := post w' (by rw [hk]; exact .inl ⟨rfl, rfl⟩) ⟨h8.os, h8.tape, h8.output, h8.size, fun b hb _ => h8.block b hb (fun q => q)⟩
      rw [hk] at this
      rw [hk]
      exact this
    · refine (hc x k b o cap cs Gd w hok h5 h6 (fun q => (h4 b q).2 rfl) (fun c hc => (hG.own 0 c (h4 c hc).1).1) (hG.own 0 b h3).1).mono ?_
      rintro en w' ⟨rfl, h8, h9, h10⟩
      refine post w' (.inr ⟨Gd, b, o, cap, cs, by rw [hl], by rw [hl]; exact h2, h3, h4, h8, fun j v hv => (World.cell?_of_block (a := ⟨b, o + j, none⟩) h9).trans (h6 j v hv), there_move h7 h9⟩) ⟨h10.os, h10.tape, h10.output, h10.size, fun c hc hn => h10.block c hc (fun q => hn (h4 c q).1)⟩
/-- The function that writes over one row, out of its run. -/
theorem mark1_of {P : Program} {T : Tab} {g : Nat} {f : FnT} (hf : T.fn g = some f) (hp : f.pars = [(.sl (.int .i64), .io), (.int .i64, .ln)]) (ho : f.outs = [(.int .i64, ⟨false, false, false, false, false⟩)]) (hrg : f.rg = []) (hpg : f.pg = [])
    {run : Nat → List PV → Option (T.R g)} (hq : ∀ w, T.q w) (hS : ∀ k, Sound P T g (run k)) {out : Int → List Int → T.R g} (hs : ∀ a b, spread (T.outTys g) (out a b) = [⟨.int .i64, a⟩, ⟨.sl (.int .i64), b⟩])
    (hr : ∀ x k, x.length < lim → ∃ n, run n [⟨.sl (.int .i64), x⟩, ⟨.int .i64, k⟩] = some (out (mark1 x k).1 (mark1 x k).2)) : Mark1 P g := by
  intro x k v F w hlim hv hF
  obtain ⟨n, hn⟩ := hr x k hlim
  have hgv : grpV f.pg [v, .int .i64 k] = [v, .int .i64 k] := by rw [hpg]; rfl
  have := hS n f _ _ hf hn w (fun _ => False) (fun _ => False) (fun i b => i = 0 ∧ F b) [v, .int .i64 k] ⟨by
      rw [hp]
      exact ⟨rfl, ⟨.int .i64, x, rfl, hv.mono' (fun b hb => ⟨rfl, hb⟩)⟩, rfl, VRep.int _ _, trivial⟩, fun b h => h, fun i b h => ⟨hF b h.2, fun q => q⟩, fun i j b h h' => h.1.trans h'.1.symm, fun b h => h.elim, fun i b h => by rw [hp, h.1]; decide, by rw [hpg]; simp [oneG]⟩ (fun w' _ => hq w')
  rw [hgv] at this
  refine this.mono ?_
  rintro en w' ⟨us, Gs, Fr, rfl, hev, _, h1, h2, _, _⟩
  rw [ho, hs] at h1
  rw [ho, hp, hs] at h2
  simp only [List.length_cons, List.length_nil, Nat.zero_add, List.drop_succ_cons, List.drop_zero, PtrsR, and_true, true_and] at h2
  match us, h1 with
  | [u], h1 =>
    simp only [OutsR, OutR, Bool.false_eq_true, if_false, and_true, true_and] at h1
    obtain rfl := VRep.of_int h1
    obtain ⟨e', x', hx, hrow⟩ := h2
    cases hx
    refine ⟨by rw [hrg]; rfl, ?_, ⟨hev.os, hev.tape, hev.output, hev.size, fun b hb hn => hev.block b hb (fun ⟨i, q⟩ => hn q.2)⟩⟩
    rcases hrow with h | ⟨b, o, cap, cs, g1, g2, g3, g4, g5, g6⟩
    · exact .inl h
    · exact .inr ⟨b, o, cap, cs, g1, g2, g3, g4.anyw rfl _ _, g5, g6⟩
  | [], h1 => simp [OutsR] at h1
  | _ :: _ :: _, h1 => simp [OutsR] at h1
/-- The loop that writes over one row. -/
theorem mark0_gen {l0 : Nat → List Int → Int → Int → Option (Int × List Int)} (h : ∀ k x0 x1 x5, l0 (k + 1) x0 x1 x5 = (br (decide (x5 < (x0.length : Int))) (gate (decide (0 ≤ x5 ∧ x5 < (x0.length : Int))) <| gate (decide (x5.toNat < x0.length)) <| l0 k (x0.set x5.toNat x1) (wr (x1 + 1)) (wr (x5 + 1))) (some (x1, x0)))) :
    ∀ (rest pre : List Int) (k : Int), (pre ++ rest).length < lim → ∃ n, l0 n (pre ++ rest) k (pre.length : Int) = some ((mark1 rest k).1, pre ++ (mark1 rest k).2)
  | [], pre, k, hl => ⟨1, by rw [h]; simp [br, mark1]⟩
  | r :: rest, pre, k, hl => by
    have hl' : (pre ++ [k] ++ rest).length < lim := by simp at hl ⊢; omega
    obtain ⟨n, hn⟩ := mark0_gen h rest (pre ++ [k]) (wr (k + 1)) hl'
    refine ⟨n + 1, ?_⟩
    have hlt : (pre.length : Int) < ((pre ++ r :: rest).length : Int) := by simp; omega
    have hb : (pre ++ r :: rest).length < 1099511627776 := hl
    have hw : wr ((pre.length : Int) + 1) = ((pre ++ [k]).length : Int) := by
      have : wr ((pre.length : Int) + 1) = (pre.length : Int) + 1 := by
        unfold wr
        rw [IntKind.wrap_i64]
        omega
      rw [this]; simp
    have hset : (pre ++ r :: rest).set (pre.length : Int).toNat k = pre ++ [k] ++ rest := by
      rw [Int.toNat_natCast, List.set_append_right _ _ (Nat.le_refl _)]; simp
    rw [h, decide_eq_true hlt, decide_eq_true (⟨Int.natCast_nonneg _, hlt⟩ : 0 ≤ (pre.length : Int) ∧ _), decide_eq_true (by rw [Int.toNat_natCast]; omega : (pre.length : Int).toNat < (pre ++ r :: rest).length), hw, hset]
    simp only [br, gate, if_true]
    rw [hn]
    simp [mark1]
end Go.Proofs.Ytogfnegopdejfaa.Eng
