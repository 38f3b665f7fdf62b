/-
  the pure statement of FnTradeDo
-/
import Derived.Test.YtajecpmdagbojaaPFnTradeDox6
namespace Go.Proofs.Ytajecpmdagbojaa.Pure
open Go.RowKit Go.Proofs.Ytajecpmdagbojaa.PFnTradeDo Go.Proofs.YtajecpmdagbojaaW.PrintWords Go.Proofs.YtajecpmdagbojaaW.PrintLast Go.Proofs.YtajecpmdagbojaaW.PrintMore
set_option linter.unusedVariables false
set_option linter.unusedSimpArgs false

/-! Rounds without counting them: what a printed function tells from some number of rounds on. -/
theorem ev_some {α : Type} {a r : α} : Ev (fun _ => some a) r ↔ a = r := by
  constructor
  · rintro ⟨K, h⟩
    exact Option.some.inj (h K (Nat.le_refl _))
  · rintro rfl
    exact ⟨0, fun _ _ => rfl⟩
theorem ev_pos {α : Type} {c : Prop} [Decidable c] {g h : Nat → Option α} {r : α} (hc : c) : Ev (fun k => if c then g k else h k) r ↔ Ev g r := by simp only [if_pos hc]
theorem ev_neg {α : Type} {c : Prop} [Decidable c] {g h : Nat → Option α} {r : α} (hc : ¬ c) : Ev (fun k => if c then g k else h k) r ↔ Ev h r := by simp only [if_neg hc]
theorem ev_bind {α β : Type} {g : Nat → Option α} {f : Nat → α → Option β} {a : α} (h : Ev g a) {r : β} : Ev (fun k => (g k).bind (f k)) r ↔ Ev (fun k => f k a) r := by
  constructor
  · rintro ⟨K, e⟩
    obtain ⟨L, h⟩ := h
    refine ⟨max K L, fun k hk => ?_⟩
    have h1 := e k (by omega)
    simp only [h k (by omega), Option.bind_some] at h1
    exact h1
  · exact fun e => Ev.bind h e
theorem ev_now {α β : Type} {f : Nat → α → Option β} {a : α} {r : β} : Ev (fun k => (some a).bind (f k)) r ↔ Ev (fun k => f k a) r := by simp only [Option.bind_some]
theorem ev_succ {α : Type} {g f : Nat → Option α} {r : α} (h : ∀ k, g (k + 1) = f k) : Ev g r ↔ Ev f r := by
  constructor
  · rintro ⟨K, e⟩
    exact ⟨K, fun k hk => by rw [← h]; exact e (k + 1) (by omega)⟩
  · exact fun e => Ev.step h e
theorem ev_of_eq {α : Type} {g f : Nat → Option α} {r : α} (h : ∀ k, g k = f k) : Ev g r ↔ Ev f r := by
  have : g = f := funext h
  rw [this]
theorem ev_true {g : Nat → Option Bool} (h : Ev g true) : ∃ k, g k = some true := Ev.rounds h
theorem w64 {x : Int} (h0 : -9223372036854775808 ≤ x) (h1 : x ≤ 9223372036854775807) : wrap64 x = x := by
  unfold wrap64
  omega
theorem w_succ {i : Nat} (h : i < 9223372036854775807) : wrap64 ((i : Int) + 1) = ((i + 1 : Nat) : Int) := by rw [w64] <;> omega
theorem rd_nat {l : List Int} {i : Nat} (h : i < l.length) : rd l (i : Int) = l[i] := by
  unfold rd
  rw [Int.toNat_natCast, List.getD_eq_getElem?_getD, List.getElem?_eq_getElem h]
  rfl
theorem drop_cons {α : Type} {l : List α} {i : Nat} (h : i < l.length) : l.drop i = l[i] :: l.drop (i + 1) := List.drop_eq_getElem_cons h
/-! What comes of some rounds, with a property. -/
def EvP {α : Type} (g : Nat → Option α) (Q : α → Prop) : Prop := ∃ r, Ev g r ∧ Q r
theorem evp_ev {α : Type} {g : Nat → Option α} {Q : α → Prop} {r : α} (h : Ev g r) (q : Q r) : EvP g Q := ⟨r, h, q⟩
theorem evp_some {α : Type} {Q : α → Prop} {r : α} (q : Q r) : EvP (fun _ => some r) Q := ⟨r, ev_some.2 rfl, q⟩
theorem evp_pos {α : Type} {Q : α → Prop} {c : Prop} [Decidable c] {g h : Nat → Option α} (hc : c) (e : EvP g Q) : EvP (fun k => if c then g k else h k) Q := by
  obtain ⟨r, e, q⟩ := e
  exact ⟨r, (ev_pos hc).2 e, q⟩
theorem evp_neg {α : Type} {Q : α → Prop} {c : Prop} [Decidable c] {g h : Nat → Option α} (hc : ¬ c) (e : EvP h Q) : EvP (fun k => if c then g k else h k) Q := by
  obtain ⟨r, e, q⟩ := e
  exact ⟨r, (ev_neg hc).2 e, q⟩
theorem evp_if {α : Type} {Q : α → Prop} {c : Prop} [Decidable c] {g h : Nat → Option α} (e1 : c → EvP g Q) (e2 : ¬ c → EvP h Q) : EvP (fun k => if c then g k else h k) Q := by
  by_cases hc : c
  · exact evp_pos hc (e1 hc)
  · exact evp_neg hc (e2 hc)
theorem evp_bind {α β : Type} {g : Nat → Option α} {f : Nat → α → Option β} {P : α → Prop} {Q : β → Prop} (h : EvP g P) (e : ∀ a, P a → EvP (fun k => f k a) Q) : EvP (fun k => (g k).bind (f k)) Q := by
  obtain ⟨a, h1, p⟩ := h
  obtain ⟨r, h2, q⟩ := e a p
  exact ⟨r, (ev_bind h1).2 h2, q⟩
theorem evp_bindv {α β : Type} {g : Nat → Option α} {f : Nat → α → Option β} {a : α} {Q : β → Prop} (h : Ev g a) (e : EvP (fun k => f k a) Q) : EvP (fun k => (g k).bind (f k)) Q := by
  obtain ⟨r, h2, q⟩ := e
  exact ⟨r, (ev_bind h).2 h2, q⟩
theorem evp_now {α β : Type} {f : Nat → α → Option β} {a : α} {Q : β → Prop} (e : EvP (fun k => f k a) Q) : EvP (fun k => (some a).bind (f k)) Q := by
  obtain ⟨r, h2, q⟩ := e
  exact ⟨r, ev_now.2 h2, q⟩
theorem evp_succ {α : Type} {g f : Nat → Option α} {Q : α → Prop} (h : ∀ k, g (k + 1) = f k) (e : EvP f Q) : EvP g Q := by
  obtain ⟨r, h2, q⟩ := e
  exact ⟨r, (ev_succ h).2 h2, q⟩
theorem evp_mono {α : Type} {g : Nat → Option α} {P Q : α → Prop} (h : EvP g P) (hq : ∀ a, P a → Q a) : EvP g Q := by
  obtain ⟨r, h2, p⟩ := h
  exact ⟨r, h2, hq r p⟩
theorem evp_true {g : Nat → Option Bool} (h : EvP g (fun b => b = true)) : ∃ k, g k = some true := by
  obtain ⟨r, h, rfl⟩ := h
  exact Ev.rounds h
/-! Draws. -/
def BOK (b : List Int) : Prop := b.length ≤ 2000 ∧ ∀ x ∈ b, 0 ≤ x ∧ x ≤ 255
theorem BOK.rd_ {b : List Int} (h : BOK b) (i : Int) : 0 ≤ rd b i ∧ rd b i ≤ 255 := by
  unfold rd
  rw [List.getD_eq_getElem?_getD]
  cases e : b[i.toNat]? with
  | none => simp
  | some x => exact h.2 x (List.mem_of_getElem? e)
theorem xor_pos {X Y : Int} (h0 : 0 ≤ X) (h1 : X < 9223372036854775808) (h2 : 0 ≤ Y) (h3 : Y < 9223372036854775808) : 0 ≤ Go.bits .xor .i64 X Y := by
  obtain ⟨a, rfl⟩ := Int.eq_ofNat_of_zero_le h0
  obtain ⟨b, rfl⟩ := Int.eq_ofNat_of_zero_le h2
  have hx : a ^^^ b < 2 ^ 63 := Nat.xor_lt_two_pow (by omega) (by omega)
  have h1 : a % 2 ^ IntKind.i64.bits = a := Nat.mod_eq_of_lt (by simp [IntKind.bits]; omega)
  have h2 : b % 2 ^ IntKind.i64.bits = b := Nat.mod_eq_of_lt (by simp [IntKind.bits]; omega)
  simp only [Go.bits, BitVec.ofInt_natCast, BitVec.toNat_xor, BitVec.toNat_ofNat, h1, h2, IntKind.wrap_i64]
  omega
def mixX (c1 c2 k q : Int) : Int := wrap64 (wrap64 (wrap64 (wrap64 (wrap64 c1 * 131) + wrap64 (wrap64 c2 * 1117)) + wrap64 (k * 29)) + wrap64 (wrap64 q * 53))
theorem mixX_pos {c1 c2 k q : Int} (h1 : 0 ≤ c1) (h2 : c1 ≤ 255) (h3 : 0 ≤ c2) (h4 : c2 ≤ 255) (h5 : 0 ≤ k) (h6 : k ≤ 1000000000000) (h7 : 0 ≤ q) (h8 : q ≤ 1000000000000) : 0 ≤ mixX c1 c2 k q ∧ mixX c1 c2 k q < 9223372036854775808 := by
  unfold mixX
  rw [w64 (x := c1) (by omega) (by omega), w64 (x := c2) (by omega) (by omega), w64 (x := q) (by omega) (by omega)]
  rw [w64 (x := c1 * 131) (by omega) (by omega), w64 (x := c2 * 1117) (by omega) (by omega), w64 (x := k * 29) (by omega) (by omega), w64 (x := q * 53) (by omega) (by omega)]
  rw [w64 (x := c1 * 131 + c2 * 1117) (by omega) (by omega), w64 (x := c1 * 131 + c2 * 1117 + k * 29) (by omega) (by omega), w64 (by omega) (by omega)]
  omega
theorem tmod_in {x n : Int} (hx : 0 ≤ x) (hn : 0 < n) : 0 ≤ Int.tmod x n ∧ Int.tmod x n < n := ⟨Int.tmod_nonneg _ hx, Int.tmod_lt_of_pos _ hn⟩
def Picked (p n : Int) (x : Int × Int) : Prop := x.2 = p + 1 ∧ 0 ≤ x.1 ∧ (x.1 < n ∨ x.1 = 0)
theorem pick_j0 {b : List Int} (hb : BOK b) {p n : Int} (h0 : 0 ≤ p) (h1 : p ≤ 1000000000000) (hn : n < 9223372036854775807) (c : Bool) (hc : c = false → 1 ≤ n ∧ 0 < b.length) :
    EvP (fun k => spec_l20Rd_pick.j0 k n c b (wrap64 (p + 1))) (Picked p n) := by
  refine evp_succ (fun k => by rw [spec_l20Rd_pick.j0]) ?_
  rw [w64 (x := p + 1) (by omega) (by omega), show p + 1 - 1 = p by omega, w64 (x := p) (by omega) (by omega)]
  cases c with
  | true => exact evp_pos rfl (evp_some ⟨rfl, by simp, .inr rfl⟩)
  | false =>
    obtain ⟨n1, hl⟩ := hc rfl
    have hl2 := hb.1
    refine evp_neg (by simp) (evp_if (fun hlt => ?_) (fun hge => ?_))
    · refine evp_pos h0 (evp_neg (by omega) (evp_some ?_))
      have := hb.rd_ p
      rw [w64 (by omega) (by omega)]
      have t := tmod_in this.1 (show 0 < n by omega)
      exact ⟨rfl, t.1, .inl t.2⟩
    · have t1 := tmod_in h0 (show (0 : Int) < b.length by omega)
      have d1 : 0 ≤ Int.tdiv p b.length ∧ Int.tdiv p b.length ≤ p := by
        rw [Int.tdiv_eq_ediv_of_nonneg h0]
        exact ⟨Int.ediv_nonneg h0 (by omega), Int.ediv_le_self _ h0⟩
      have e3 : wrap64 (wrap64 (p * 7) + 3) = p * 7 + 3 := by rw [w64 (x := p * 7) (by omega) (by omega), w64 (by omega) (by omega)]
      rw [e3]
      have t2 := tmod_in (show 0 ≤ p * 7 + 3 by omega) (show (0 : Int) < b.length by omega)
      refine evp_neg (by omega) (evp_pos t1.1 (evp_pos t1.2 (evp_pos t2.1 (evp_pos t2.2 (evp_neg (by omega) (evp_some ?_))))))
      have r1 := hb.rd_ (Int.tmod p b.length)
      have r2 := hb.rd_ (Int.tmod (p * 7 + 3) b.length)
      have hX := mixX_pos r1.1 r1.2 r2.1 r2.2 h0 h1 d1.1 (by omega)
      have hY : 0 ≤ wrap64 (Int.tdiv (mixX (rd b (Int.tmod p b.length)) (rd b (Int.tmod (p * 7 + 3) b.length)) p (Int.tdiv p b.length)) 64) ∧ wrap64 (Int.tdiv (mixX (rd b (Int.tmod p b.length)) (rd b (Int.tmod (p * 7 + 3) b.length)) p (Int.tdiv p b.length)) 64) < 9223372036854775808 := by
        rw [Int.tdiv_eq_ediv_of_nonneg hX.1, w64 (by omega) (by omega)]
        omega
      have t := tmod_in (xor_pos hX.1 hX.2 hY.1 hY.2) (show 0 < n by omega)
      exact ⟨rfl, t.1, .inl t.2⟩
theorem pick_ev {b : List Int} (hb : BOK b) {p n : Int} (h0 : 0 ≤ p) (h1 : p ≤ 1000000000000) (hn : n < 9223372036854775807) : EvP (fun k => spec_l20Rd_pick.f k b p n) (Picked p n) := by
  unfold spec_l20Rd_pick.f
  refine evp_if (fun _ => pick_j0 hb h0 h1 hn true (by simp)) (fun h => ?_)
  refine pick_j0 hb h0 h1 hn _ (fun e => ⟨by omega, ?_⟩)
  have : ¬ (b.length : Int) = 0 := by simpa using e
  omega
theorem odd_ev {b : List Int} (hb : BOK b) {p n : Int} (h0 : 0 ≤ p) (h1 : p ≤ 1000000000000) (hn : n < 9223372036854775807) : EvP (fun k => spec_l20Rd_odd.f k b p n) (fun x => p ≤ x.2 ∧ x.2 ≤ p + 1) := by
  unfold spec_l20Rd_odd.f
  refine evp_if (fun _ => ?_) (fun _ => evp_some ⟨by simp, by simp; omega⟩)
  refine evp_bind (pick_ev hb h0 h1 hn) (fun a ⟨ha, _⟩ => evp_some ⟨?_, ?_⟩) <;> simp <;> omega
theorem open_ev {b : List Int} (hb : ∀ x ∈ b, (Lit.int .u8 x).wf = true) (hl : b.length < 9223372036854775807) : EvP (fun _ => spec_l20Open.f b) (fun x => BOK x.1 ∧ x.2 = 0) := by
  have hx : ∀ x ∈ b, 0 ≤ x ∧ x ≤ 255 := fun x hx => by
    have := hb x hx
    simp [Lit.wf, IntKind.min, IntKind.max, IntKind.signed, IntKind.bits] at this
    omega
  unfold spec_l20Open.f
  refine evp_if (fun h => evp_pos (by omega) (evp_some ⟨⟨?_, fun x hm => hx x (List.mem_of_mem_take hm)⟩, rfl⟩)) (fun h => evp_some ⟨⟨by show b.length ≤ 2000; omega, hx⟩, rfl⟩)
  show (b.take 2000).length ≤ 2000
  rw [List.length_take]
  omega
def Short (l : List S32) : Prop := ∀ x ∈ l, x.f0.length < 9223372036854775807 ∧ x.f1.length < 9223372036854775807
theorem rd_T_nat {l : List S32} {i : Nat} (h : i < l.length) : rd_T32 l (i : Int) = l[i] := by
  unfold rd_T32
  rw [Int.toNat_natCast, List.getD_eq_getElem?_getD, List.getElem?_eq_getElem h]
  rfl
theorem Short.at_ {l : List S32} (h : Short l) {i : Nat} (hi : i < l.length) : (l[i]).f0.length < 9223372036854775807 ∧ (l[i]).f1.length < 9223372036854775807 := h _ (List.getElem_mem hi)
theorem things_l0 {b : List Int} (hb : BOK b) {m : Int} (hm0 : 0 ≤ m) (hm : m ≤ 100) : ∀ (d : Nat) (o : List Int) (i p : Int), i + d = 3 → o.length + d = 3 → 0 ≤ i → 0 ≤ p → p + 2 * d ≤ 1000000000000 →
    EvP (fun k => spec_l20Things.l0 k m o i b p) (fun x => x.1.length = 3 ∧ p ≤ x.2 ∧ x.2 ≤ p + 2 * d) := by
  intro d
  induction d with
  | zero =>
    intro o i p hi ho h0 hp hq
    refine evp_succ (fun k => by rw [spec_l20Things.l0]) ?_
    exact evp_neg (by omega) (evp_some ⟨by simp; omega, by simp, by simp⟩)
  | succ d ih =>
    intro o i p hi ho h0 hp hq
    refine evp_succ (fun k => by rw [spec_l20Things.l0]) ?_
    refine evp_pos (by omega) ?_
    refine evp_bind (pick_ev hb hp (by omega) (by omega)) (fun a ⟨a1, a2, a3⟩ => ?_)
    rw [w64 (x := m + 1) (by omega) (by omega), w64 (x := i + 1) (by omega) (by omega)]
    refine evp_bind (pick_ev hb (by omega) (by omega) (by omega)) (fun c ⟨c1, c2, c3⟩ => ?_)
    refine evp_pos (by omega) ?_
    exact evp_mono (ih _ (i + 1) c.2 (by omega) (by simp; omega) (by omega) (by omega) (by omega)) (fun x ⟨x1, x2, x3⟩ => ⟨x1, by omega, by omega⟩)
theorem things_ev {b : List Int} (hb : BOK b) {p m : Int} (hm0 : 0 ≤ m) (hm : m ≤ 100) (hp : 0 ≤ p) (hq : p ≤ 900000000000) : EvP (fun k => spec_l20Things.f k b p m) (fun x => x.1.length = 3 ∧ p ≤ x.2 ∧ x.2 ≤ p + 6) :=
  evp_mono (things_l0 hb hm0 hm 3 [] 0 p (by omega) (by simp) (by omega) hp (by omega)) (fun x ⟨x1, x2, x3⟩ => ⟨x1, x2, by omega⟩)
/-- Rules as they are drawn: at least one, few, short. -/
def Drawn (l : List S32) : Prop := 1 ≤ l.length ∧ l.length ≤ 5 ∧ ∀ x ∈ l, x.f0.length ≤ 3 ∧ x.f1.length ≤ 3
theorem Drawn.short {l : List S32} (h : Drawn l) : Short l := fun x hx => by have := h.2.2 x hx; omega
def Part (l : List S32) : Prop := ∀ x ∈ l, x.f0.length ≤ 3 ∧ x.f1.length ≤ 3
theorem Part.snoc {l : List S32} (h : Part l) {x : S32} (h0 : x.f0.length ≤ 3) (h1 : x.f1.length ≤ 3) : Part (l ++ [x]) := by
  intro y hy
  rcases List.mem_append.1 hy with hy | hy
  · exact h y hy
  · rw [List.mem_singleton.1 hy]; exact ⟨h0, h1⟩
theorem Part.rd_ {l : List S32} (h : Part l) (i : Int) : (rd_T32 l i).f0.length ≤ 3 ∧ (rd_T32 l i).f1.length ≤ 3 := by
  unfold rd_T32
  rw [List.getD_eq_getElem?_getD]
  cases e : l[i.toNat]? with
  | none => simp [z32]
  | some x => exact h x (List.mem_of_getElem? e)
theorem Part.set_ {l : List S32} (h : Part l) {x : S32} (h0 : x.f0.length ≤ 3) (h1 : x.f1.length ≤ 3) (i : Nat) : Part (l.set i x) := by
  intro y hy
  rcases List.mem_or_eq_of_mem_set hy with hy | hy
  · exact h y hy
  · rw [hy]; exact ⟨h0, h1⟩
theorem trades_l2 {b : List Int} {p : Int} : ∀ (d : Nat) (o : List S32), o.length + d = 5 → 1 ≤ o.length → Part o → EvP (fun k => spec_l20Trades.l2 k o b p) (fun x => Drawn x.1 ∧ x.2 = p) := by
  intro d
  induction d with
  | zero =>
    intro o ho h1 hp
    refine evp_succ (fun k => by rw [spec_l20Trades.l2]) ?_
    exact evp_neg (by omega) (evp_some ⟨⟨h1, by simp; omega, hp⟩, rfl⟩)
  | succ d ih =>
    intro o ho h1 hp
    refine evp_succ (fun k => by rw [spec_l20Trades.l2]) ?_
    refine evp_pos (by omega) (evp_pos (by omega) (evp_pos (by omega) ?_))
    exact ih _ (by simp; omega) (by simp) (hp.snoc (hp.rd_ 0).1 (hp.rd_ 0).2)
theorem trades_j2 {b : List Int} (hb : BOK b) {n p : Int} (hn : n < 1000000) (hp0 : 0 ≤ p) (hp1 : p ≤ 900000000000) {o : List S32} (h1 : 1 ≤ o.length) (h4 : o.length ≤ 4) (hp : Part o) :
    EvP (fun k => spec_l20Trades.j2 k n o b p) (fun x => Drawn x.1 ∧ p ≤ x.2 ∧ x.2 ≤ p + 2) := by
  refine evp_succ (fun k => by rw [spec_l20Trades.j2]) ?_
  refine evp_bind (odd_ev hb hp0 (by omega) (by omega)) (fun u ⟨u1, u2⟩ => ?_)
  refine evp_if (fun _ => ?_) (fun _ => evp_some ⟨⟨h1, by simp; omega, hp⟩, by simp; omega, by simp; omega⟩)
  refine evp_bind (pick_ev hb (by omega) (by omega) (by omega)) (fun v ⟨v1, v2, v3⟩ => ?_)
  refine evp_if (fun _ => evp_pos (by omega) (evp_some ⟨⟨by simp; omega, by simp; omega, hp.set_ (x := (⟨[1], (rd_T32 o 0).f1⟩ : S32)) (by simp) (hp.rd_ 0).2 _⟩, by simp; omega, by simp; omega⟩)) (fun _ => ?_)
  refine evp_if (fun _ => evp_pos (by omega) (evp_some ⟨⟨by simp; omega, by simp; omega, hp.set_ (x := (⟨(rd_T32 o 0).f0, [0, 0, 6]⟩ : S32)) (hp.rd_ 0).1 (by simp) _⟩, by simp; omega, by simp; omega⟩)) (fun _ => ?_)
  exact evp_mono (trades_l2 (5 - o.length) o (by omega) h1 hp) (fun x ⟨x1, x2⟩ => ⟨x1, by omega, by omega⟩)
theorem trades_l0 {b : List Int} (hb : BOK b) {n : Int} (hn : n < 1000000) : ∀ (d : Nat) (o : List S32) (i p : Int), i = (d : Int) - 1 → o.length + d ≤ 4 → 1 ≤ o.length + d → Part o → 0 ≤ p → p + 20 * d ≤ 800000000000 →
    EvP (fun k => spec_l20Trades.l0 k n o i b p) (fun x => Drawn x.1 ∧ p ≤ x.2 ∧ x.2 ≤ p + 20 * d + 2) := by
  intro d
  induction d with
  | zero =>
    intro o i p hi h4 h1 hp hp0 hp1
    refine evp_succ (fun k => by rw [spec_l20Trades.l0]) ?_
    refine evp_neg (by omega) (evp_neg (by omega) ?_)
    exact evp_mono (trades_j2 hb hn hp0 (by omega) (by omega) (by omega) hp) (fun x ⟨x1, x2, x3⟩ => ⟨x1, by omega, by omega⟩)
  | succ d ih =>
    intro o i p hi h4 h1 hp hp0 hp1
    have inner : ∀ (e : Nat) (at_ j q : Int) (t g : List Int), j + e = at_ + 1 → 0 ≤ j → at_ < 3 → t.length = 3 → g.length = 3 → p ≤ q → q ≤ p + 15 →
        EvP (fun k => spec_l20Trades.l1 k n o i at_ j b q t g) (fun x => Drawn x.1 ∧ p ≤ x.2 ∧ x.2 ≤ p + 20 * ((d + 1 : Nat) : Int) + 2) := by
      intro e
      induction e with
      | zero =>
        intro at_ j q t g hj h0 h3 ht hg hq0 hq1
        refine evp_succ (fun k => by rw [spec_l20Trades.l1]) ?_
        refine evp_neg (by omega) (evp_pos (by omega) ?_)
        rw [w64 (x := i - 1) (by omega) (by omega)]
        exact evp_mono (ih _ (i - 1) q (by omega) (by simp; omega) (by simp; omega) (hp.snoc (by simp; omega) (by simp; omega)) (by omega) (by omega)) (fun x ⟨x1, x2, x3⟩ => ⟨x1, by omega, by omega⟩)
      | succ e ihe =>
        intro at_ j q t g hj h0 h3 ht hg hq0 hq1
        refine evp_succ (fun k => by rw [spec_l20Trades.l1]) ?_
        refine evp_pos (by omega) (evp_pos h0 (evp_pos (by omega) ?_))
        rw [w64 (x := j + 1) (by omega) (by omega)]
        exact ihe at_ (j + 1) q t _ (by omega) (by omega) h3 ht (by simp; omega) hq0 hq1
    refine evp_succ (fun k => by rw [spec_l20Trades.l0]) ?_
    refine evp_pos (by omega) ?_
    refine evp_bind (things_ev hb (by omega) (by omega) hp0 (by omega)) (fun a ⟨a1, a2, a3⟩ => ?_)
    refine evp_bind (things_ev hb (by omega) (by omega) (by omega) (by omega)) (fun c ⟨c1, c2, c3⟩ => ?_)
    refine evp_bind (pick_ev hb (by omega) (by omega) (by omega)) (fun e ⟨e1, e2, e3⟩ => ?_)
    refine evp_if (fun _ => ?_) (fun _ => ?_)
    · refine evp_bind (pick_ev hb (by omega) (by omega) (by omega)) (fun u ⟨u1, u2, u3⟩ => ?_)
      refine evp_bind (pick_ev hb (by omega) (by omega) (by omega)) (fun v ⟨v1, v2, v3⟩ => ?_)
      refine evp_pos u2 (evp_pos (by omega) ?_)
      exact inner (u.1 + 1).toNat u.1 0 v.2 _ _ (by omega) (by omega) (by omega) (by simp; omega) c1 (by omega) (by omega)
    · refine evp_pos (by omega) ?_
      rw [w64 (x := i - 1) (by omega) (by omega)]
      exact evp_mono (ih _ (i - 1) e.2 (by omega) (by simp; omega) (by simp; omega) (hp.snoc (by simp; omega) (by simp; omega)) (by omega) (by omega)) (fun x ⟨x1, x2, x3⟩ => ⟨x1, by omega, by omega⟩)
theorem trades_ev {b : List Int} (hb : BOK b) {p n : Int} (hn : n < 1000000) (hp : 0 ≤ p) (hq : p ≤ 100000000000) : EvP (fun k => spec_l20Trades.f k b p n) (fun x => Drawn x.1 ∧ p ≤ x.2 ∧ x.2 ≤ p + 100) := by
  unfold spec_l20Trades.f
  refine evp_bind (pick_ev hb hp (by omega) (by omega)) (fun a ⟨a1, a2, a3⟩ => ?_)
  exact evp_mono (trades_l0 hb hn (a.1 + 1).toNat [] a.1 a.2 (by omega) (by simp; omega) (by simp; omega) (fun x hx => by cases hx) (by omega) (by omega)) (fun x ⟨x1, x2, x3⟩ => ⟨x1, by omega, by omega⟩)
theorem heaps_ev {b : List Int} (hb : BOK b) {p n : Int} (hn : n < 1000000) (hp : 0 ≤ p) (hq : p ≤ 900000000000) : EvP (fun k => spec_l20Heaps.f k b p n) (fun x => x.1.length ≤ 3 ∧ p ≤ x.2 ∧ x.2 ≤ p + 5) := by
  unfold spec_l20Heaps.f
  refine evp_bind (pick_ev hb hp (by omega) (by omega)) (fun a ⟨a1, a2, a3⟩ => ?_)
  refine evp_bind (pick_ev hb (by omega) (by omega) (by omega)) (fun c ⟨c1, c2, c3⟩ => ?_)
  refine evp_bind (pick_ev hb (by omega) (by omega) (by omega)) (fun e ⟨e1, e2, e3⟩ => ?_)
  refine evp_now ?_
  refine evp_bind (odd_ev hb (by omega) (by omega) (by omega)) (fun u ⟨u1, u2⟩ => ?_)
  refine evp_if (fun _ => ?_) (fun _ => evp_some ⟨by simp, by simp; omega, by simp; omega⟩)
  refine evp_bind (pick_ev hb (by omega) (by omega) (by omega)) (fun v ⟨v1, v2, v3⟩ => ?_)
  refine evp_if (fun _ => evp_pos (by simp) (evp_some ⟨by simp, by simp; omega, by simp; omega⟩)) (fun _ => ?_)
  refine evp_if (fun _ => evp_pos (by simp) (evp_some ⟨by simp, by simp; omega, by simp; omega⟩)) (fun _ => ?_)
  exact evp_pos (by simp) (evp_some ⟨by simp, by simp; omega, by simp; omega⟩)
/-! Heaps and things. -/
def okT (m : Int) (n : Int) : Bool := decide (0 ≤ n) && decide (n ≤ m)
def HOK (l : List Int) (m : Int) : Bool := l.all (okT m) && ((l.length : Int) == 3)
theorem HOK_list {l : List Int} {m : Int} (h : HOK l m = true) : ∃ a b c : Int, l = [a, b, c] ∧ 0 ≤ a ∧ a ≤ m ∧ 0 ≤ b ∧ b ≤ m ∧ 0 ≤ c ∧ c ≤ m := by
  unfold HOK at h
  rw [Bool.and_eq_true] at h
  have hl : l.length = 3 := by have := h.2; simp only [beq_iff_eq] at this; omega
  match l, hl with
  | [a, b, c], _ =>
    have := h.1
    simp [okT] at this
    exact ⟨a, b, c, rfl, by omega, by omega, by omega, by omega, by omega, by omega⟩
theorem HOK_mk {a b c m : Int} (h : 0 ≤ a ∧ a ≤ m ∧ 0 ≤ b ∧ b ≤ m ∧ 0 ≤ c ∧ c ≤ m) : HOK [a, b, c] m = true := by
  simp [HOK, okT]
  omega
theorem HOK_three (a b c m : Int) : HOK [a, b, c] m = decide (0 ≤ a ∧ a ≤ m ∧ 0 ≤ b ∧ b ≤ m ∧ 0 ≤ c ∧ c ≤ m) := by
  rw [Bool.eq_iff_iff, decide_eq_true_iff]
  simp [HOK, okT]
  omega
theorem thingsOk_l0 (l : List Int) (m : Int) (hl : l.length < 9223372036854775807) : ∀ d i : Nat, i + d = l.length →
    Ev (fun k => impl_thingsOk.l0 k l m l (l.length : Int) (i : Int)) ((l.drop i).all (okT m) && ((l.length : Int) == 3)) := by
  intro d
  induction d with
  | zero =>
    intro i hi
    refine (ev_succ (fun k => by rw [impl_thingsOk.l0])).2 ?_
    refine (ev_neg (by omega)).2 (ev_some.2 ?_)
    rw [List.drop_eq_nil_of_le (by omega)]
    simp
  | succ d ih =>
    intro i hi
    have hlt : i < l.length := by omega
    refine (ev_succ (fun k => by rw [impl_thingsOk.l0])).2 ?_
    refine (ev_pos (by omega)).2 ((ev_pos (by omega)).2 ((ev_pos (by omega)).2 ?_))
    rw [rd_nat hlt, drop_cons hlt, List.all_cons]
    by_cases h0 : l[i] < 0
    · refine (ev_pos h0).2 (ev_some.2 ?_)
      have : okT m l[i] = false := by simp [okT]; omega
      rw [this]; simp
    · by_cases h1 : l[i] > m
      · refine (ev_neg h0).2 ((ev_pos h1).2 (ev_some.2 ?_))
        have : okT m l[i] = false := by simp [okT]; omega
        rw [this]; simp
      · refine (ev_neg h0).2 ((ev_neg h1).2 ?_)
        have : okT m l[i] = true := by simp [okT]; omega
        rw [this, w_succ (by omega), Bool.true_and]
        exact ih (i + 1) (by omega)
theorem thingsOk_ev (l : List Int) (m : Int) (hl : l.length < 9223372036854775807) : Ev (fun k => impl_thingsOk.f k l m) (HOK l m) := by
  have := thingsOk_l0 l m hl l.length 0 (by omega)
  exact this
/-! Heaps after a rule. -/
def tr3 : List Int → List Int → List Int → List Int × Bool
  | [a, b, c], [x, y, z], [p, q, r] => if (x ≤ a ∧ a - x + p ≤ 40) ∧ (y ≤ b ∧ b - y + q ≤ 40) ∧ (z ≤ c ∧ c - z + r ≤ 40) then ([a - x + p, b - y + q, c - z + r], true) else ([], false)
  | _, _, _ => ([], false)
theorem tr3_three (a b c x y z p q r : Int) : tr3 [a, b, c] [x, y, z] [p, q, r] = if (x ≤ a ∧ a - x + p ≤ 40) ∧ (y ≤ b ∧ b - y + q ≤ 40) ∧ (z ≤ c ∧ c - z + r ≤ 40) then ([a - x + p, b - y + q, c - z + r], true) else ([], false) := rfl
theorem traded_step {h0 h t g o : List Int} {i : Nat} (hi : i < h.length) (ht : i < t.length) (hg : i < g.length) (ho : o.length < 17592186044416) {hn : Int} (hlt : (i : Int) < hn) (hb : i < 9223372036854775807)
    (ba : 0 ≤ h[i] ∧ h[i] ≤ 40) (bt : 0 ≤ t[i] ∧ t[i] ≤ 5) (bg : 0 ≤ g[i] ∧ g[i] ≤ 5) {r : List Int × Bool}
    (e : Ev (fun k => if t[i] ≤ h[i] ∧ h[i] - t[i] + g[i] ≤ 40 then impl_traded.l0 k (o ++ [h[i] - t[i] + g[i]]) h hn ((i + 1 : Nat) : Int) t g else some ([], false)) r) : Ev (fun k => impl_traded.l0 k o h hn (i : Int) t g) r := by
  refine (ev_succ (fun k => by rw [impl_traded.l0])).2 ?_
  refine (ev_pos hlt).2 ((ev_pos (by omega)).2 ((ev_pos (by omega)).2 ((ev_pos (by omega)).2 ?_)))
  rw [rd_nat hi, rd_nat ht, rd_nat hg]
  by_cases c : h[i] < t[i]
  · refine (ev_pos c).2 ?_
    exact (ev_neg (by omega)).1 e
  · refine (ev_neg c).2 ((ev_pos (by omega)).2 ?_)
    rw [w64 (x := h[i] - t[i]) (by omega) (by omega), w64 (x := h[i] - t[i] + g[i]) (by omega) (by omega), w_succ hb]
    by_cases d : h[i] - t[i] + g[i] > 40
    · refine (ev_pos d).2 ?_
      exact (ev_neg (by omega)).1 e
    · refine (ev_neg d).2 ((ev_pos ho).2 ?_)
      exact (ev_pos (by omega)).1 e
theorem traded_ev {h t g : List Int} (hh : HOK h 40 = true) (ht : HOK t 5 = true) (hg : HOK g 5 = true) : Ev (fun k => impl_traded.f k h t g) (tr3 h t g) := by
  obtain ⟨a, b, c, rfl, a0, a1, b0, b1, c0, c1⟩ := HOK_list hh
  obtain ⟨x, y, z, rfl, x0, x1, y0, y1, z0, z1⟩ := HOK_list ht
  obtain ⟨p, q, r, rfl, p0, p1, q0, q1, r0, r1⟩ := HOK_list hg
  unfold impl_traded.f
  rw [tr3_three]
  refine traded_step (h0 := []) (i := 0) (by simp) (by simp) (by simp) (by simp) (by simp) (by omega) ⟨a0, a1⟩ ⟨x0, x1⟩ ⟨p0, p1⟩ ?_
  by_cases e1 : x ≤ a ∧ a - x + p ≤ 40
  · refine (ev_pos e1).2 ?_
    refine traded_step (h0 := []) (i := 1) (by simp) (by simp) (by simp) (by simp) (by simp) (by omega) ⟨b0, b1⟩ ⟨y0, y1⟩ ⟨q0, q1⟩ ?_
    by_cases e2 : y ≤ b ∧ b - y + q ≤ 40
    · refine (ev_pos e2).2 ?_
      refine traded_step (h0 := []) (i := 2) (by simp) (by simp) (by simp) (by simp) (by simp) (by omega) ⟨c0, c1⟩ ⟨z0, z1⟩ ⟨r0, r1⟩ ?_
      by_cases e3 : z ≤ c ∧ c - z + r ≤ 40
      · refine (ev_pos e3).2 ?_
        refine (ev_succ (fun k => by rw [impl_traded.l0])).2 ?_
        refine (ev_neg (by simp)).2 (ev_some.2 ?_)
        rw [if_pos ⟨e1, e2, e3⟩]
        rfl
      · refine (ev_neg e3).2 (ev_some.2 ?_)
        rw [if_neg (fun h => e3 h.2.2)]
    · refine (ev_neg e2).2 (ev_some.2 ?_)
      rw [if_neg (fun h => e2 h.2.1)]
  · refine (ev_neg e1).2 (ev_some.2 ?_)
    rw [if_neg (fun h => e1 h.1)]
theorem HeapsValid_ev (l : List Int) (hl : l.length < 9223372036854775807) : Ev (fun k => impl_HeapsValid.f k l) (HOK l 40) := by
  unfold impl_HeapsValid.f
  exact (ev_bind (thingsOk_ev l 40 hl)).2 (ev_some.2 rfl)
def TOK (t g : List Int) : Bool := HOK t 5 && HOK g 5
theorem TradeValid_ev (t g : List Int) (ht : t.length < 9223372036854775807) (hg : g.length < 9223372036854775807) : Ev (fun k => impl_TradeValid.f k t g) (TOK t g) := by
  unfold impl_TradeValid.f TOK
  refine (ev_bind (thingsOk_ev t 5 ht)).2 ?_
  cases h : HOK t 5 with
  | true => exact (ev_pos rfl).2 ((ev_bind (thingsOk_ev g 5 hg)).2 (ev_some.2 (by simp)))
  | false => exact (ev_neg (by simp)).2 (ev_some.2 (by simp))
def tdo (h t g : List Int) : List Int × Bool := if HOK h 40 = true ∧ TOK t g = true then tr3 h t g else ([], false)
theorem TOK_both {t g : List Int} (h : TOK t g = true) : HOK t 5 = true ∧ HOK g 5 = true := by
  unfold TOK at h
  simpa using h
theorem tdo_cases (h t g : List Int) : (tdo h t g = ([], false)) ∨ (∃ a b c x y z p q r : Int, h = [a, b, c] ∧ t = [x, y, z] ∧ g = [p, q, r] ∧ tdo h t g = ([a - x + p, b - y + q, c - z + r], true) ∧
    (0 ≤ a ∧ a ≤ 40 ∧ 0 ≤ b ∧ b ≤ 40 ∧ 0 ≤ c ∧ c ≤ 40) ∧ (0 ≤ x ∧ x ≤ 5 ∧ 0 ≤ y ∧ y ≤ 5 ∧ 0 ≤ z ∧ z ≤ 5) ∧ (0 ≤ p ∧ p ≤ 5 ∧ 0 ≤ q ∧ q ≤ 5 ∧ 0 ≤ r ∧ r ≤ 5) ∧
    (x ≤ a ∧ a - x + p ≤ 40) ∧ (y ≤ b ∧ b - y + q ≤ 40) ∧ (z ≤ c ∧ c - z + r ≤ 40)) := by
  by_cases H : HOK h 40 = true ∧ TOK t g = true
  · obtain ⟨hh, htg⟩ := H
    obtain ⟨ht, hg⟩ := TOK_both htg
    obtain ⟨a, b, c, rfl, a0, a1, b0, b1, c0, c1⟩ := HOK_list hh
    obtain ⟨x, y, z, rfl, x0, x1, y0, y1, z0, z1⟩ := HOK_list ht
    obtain ⟨p, q, r, rfl, p0, p1, q0, q1, r0, r1⟩ := HOK_list hg
    unfold tdo
    rw [if_pos ⟨hh, htg⟩]
    rw [tr3_three]
    by_cases e : (x ≤ a ∧ a - x + p ≤ 40) ∧ (y ≤ b ∧ b - y + q ≤ 40) ∧ (z ≤ c ∧ c - z + r ≤ 40)
    · right
      exact ⟨a, b, c, x, y, z, p, q, r, rfl, rfl, rfl, by rw [if_pos e], ⟨a0, a1, b0, b1, c0, c1⟩, ⟨x0, x1, y0, y1, z0, z1⟩, ⟨p0, p1, q0, q1, r0, r1⟩, e.1, e.2.1, e.2.2⟩
    · left
      rw [if_neg e]
  · left
    unfold tdo
    rw [if_neg H]
theorem tdo_len (h t g : List Int) : (tdo h t g).1.length ≤ 3 := by
  rcases tdo_cases h t g with e | ⟨a, b, c, x, y, z, p, q, r, _, _, _, e, _⟩
  · rw [e]; simp
  · rw [e]; simp
theorem TradeDo_ev (h t g : List Int) (bh : h.length < 9223372036854775807) (bt : t.length < 9223372036854775807) (bg : g.length < 9223372036854775807) : Ev (fun k => impl_TradeDo.f k h t g) (tdo h t g) := by
  unfold impl_TradeDo.f tdo
  refine (ev_bind (HeapsValid_ev h bh)).2 ?_
  by_cases hh : HOK h 40 = true
  · refine (ev_pos hh).2 ((ev_bind (TradeValid_ev t g bt bg)).2 ?_)
    by_cases htg : TOK t g = true
    · rw [if_pos ⟨hh, htg⟩]
      refine (ev_pos htg).2 ((ev_bind (traded_ev hh (TOK_both htg).1 (TOK_both htg).2)).2 (ev_some.2 rfl))
    · rw [if_neg (fun h => htg h.2)]
      exact (ev_neg htg).2 (ev_some.2 rfl)
  · rw [if_neg (fun h => hh h.1)]
    exact (ev_neg hh).2 (ev_some.2 rfl)
theorem l1In_ev (n a b : Int) : Ev (fun _ => spec_l1In.f n a b) (decide (a ≤ n) && decide (n ≤ b)) := by
  unfold spec_l1In.f
  by_cases h : n ≥ a
  · refine (ev_pos h).2 (ev_some.2 ?_)
    rw [decide_eq_true (show a ≤ n from h), Bool.true_and]
  · refine (ev_neg h).2 (ev_some.2 ?_)
    rw [decide_eq_false (show ¬ a ≤ n from h), Bool.false_and]
theorem l8List_l0 (l : List Int) (m : Int) (hl : l.length < 9223372036854775807) : ∀ d i : Nat, i + d = l.length →
    Ev (fun k => spec_l8List.l0 k l m (i : Int)) ((l.drop i).all (okT m) && ((l.length : Int) == 3)) := by
  intro d
  induction d with
  | zero =>
    intro i hi
    refine (ev_succ (fun k => by rw [spec_l8List.l0])).2 ?_
    refine (ev_neg (by omega)).2 (ev_some.2 ?_)
    rw [List.drop_eq_nil_of_le (by omega)]
    simp
  | succ d ih =>
    intro i hi
    have hlt : i < l.length := by omega
    refine (ev_succ (fun k => by rw [spec_l8List.l0])).2 ?_
    refine (ev_pos (by omega)).2 ((ev_pos (by omega)).2 ?_)
    rw [rd_nat hlt, drop_cons hlt, List.all_cons]
    refine (ev_bind (l1In_ev l[i] 0 m)).2 ?_
    cases h : okT m l[i] with
    | true =>
      refine (ev_pos h).2 ?_
      rw [w_succ (by omega), Bool.true_and]
      exact ih (i + 1) (by omega)
    | false =>
      exact (ev_neg (by show ¬ okT m l[i] = true; rw [h]; simp)).2 (ev_some.2 (by simp))
theorem l8List_ev (l : List Int) (m : Int) (hl : l.length < 9223372036854775807) : Ev (fun k => spec_l8List.f k l m) (HOK l m) := by
  have := l8List_l0 l m hl l.length 0 (by omega)
  exact this
theorem sHeapsValid_ev (l : List Int) (hl : l.length < 9223372036854775807) : Ev (fun k => spec_HeapsValid.f k l) (HOK l 40) := by
  unfold spec_HeapsValid.f
  exact (ev_bind (l8List_ev l 40 hl)).2 (ev_some.2 rfl)
theorem sTradeValid_ev (t g : List Int) (ht : t.length < 9223372036854775807) (hg : g.length < 9223372036854775807) : Ev (fun k => spec_TradeValid.f k t g) (TOK t g) := by
  unfold spec_TradeValid.f TOK
  refine (ev_bind (l8List_ev t 5 ht)).2 ?_
  cases h : HOK t 5 with
  | true => exact (ev_pos rfl).2 ((ev_bind (l8List_ev g 5 hg)).2 (ev_some.2 (by simp)))
  | false => exact (ev_neg (by simp)).2 (ev_some.2 (by simp))
theorem sTradeDo_step {h t g o : List Int} {i : Nat} (h3 : i < 3) (hi : i < h.length) (ht : i < t.length) (hg : i < g.length) (ho : o.length < 17592186044416)
    (ba : 0 ≤ h[i] ∧ h[i] ≤ 40) (bt : 0 ≤ t[i] ∧ t[i] ≤ 5) (bg : 0 ≤ g[i] ∧ g[i] ≤ 5) {r : List Int × Bool}
    (e : Ev (fun k => if t[i] ≤ h[i] then spec_TradeDo.l0 k h (o ++ [h[i] - t[i] + g[i]]) ((i + 1 : Nat) : Int) t g else some ([], false)) r) : Ev (fun k => spec_TradeDo.l0 k h o (i : Int) t g) r := by
  refine (ev_succ (fun k => by rw [spec_TradeDo.l0])).2 ?_
  refine (ev_pos (by omega)).2 ((ev_pos (by omega)).2 ((ev_pos (by omega)).2 ((ev_pos (by omega)).2 ?_)))
  rw [rd_nat hi, rd_nat ht, rd_nat hg]
  by_cases c : h[i] < t[i]
  · refine (ev_pos c).2 ?_
    exact (ev_neg (by omega)).1 e
  · refine (ev_neg c).2 ((ev_pos (by omega)).2 ((ev_pos ho).2 ?_))
    rw [w64 (x := h[i] - t[i]) (by omega) (by omega), w64 (x := h[i] - t[i] + g[i]) (by omega) (by omega), w_succ (by omega)]
    exact (ev_pos (by omega)).1 e
theorem sTradeDo_ev (h t g : List Int) (bh : h.length < 9223372036854775807) (bt : t.length < 9223372036854775807) (bg : g.length < 9223372036854775807) : Ev (fun k => spec_TradeDo.f k h t g) (tdo h t g) := by
  unfold spec_TradeDo.f
  refine (ev_bind (sHeapsValid_ev h bh)).2 ?_
  by_cases hh : HOK h 40 = true
  · refine (ev_pos hh).2 ((ev_bind (sTradeValid_ev t g bt bg)).2 ?_)
    refine (ev_succ (fun k => by rw [spec_TradeDo.j0])).2 ?_
    by_cases htg : TOK t g = true
    · unfold tdo
      rw [if_pos ⟨hh, htg⟩, htg]
      refine (ev_neg (by simp)).2 ?_
      obtain ⟨ht, hg⟩ := TOK_both htg
      obtain ⟨a, b, c, rfl, a0, a1, b0, b1, c0, c1⟩ := HOK_list hh
      obtain ⟨x, y, z, rfl, x0, x1, y0, y1, z0, z1⟩ := HOK_list ht
      obtain ⟨p, q, r, rfl, p0, p1, q0, q1, r0, r1⟩ := HOK_list hg
      rw [tr3_three]
      refine sTradeDo_step (i := 0) (by omega) (by simp) (by simp) (by simp) (by simp) ⟨a0, a1⟩ ⟨x0, x1⟩ ⟨p0, p1⟩ ?_
      by_cases e1 : x ≤ a
      · refine (ev_pos e1).2 ?_
        refine sTradeDo_step (i := 1) (by omega) (by simp) (by simp) (by simp) (by simp) ⟨b0, b1⟩ ⟨y0, y1⟩ ⟨q0, q1⟩ ?_
        by_cases e2 : y ≤ b
        · refine (ev_pos e2).2 ?_
          refine sTradeDo_step (i := 2) (by omega) (by simp) (by simp) (by simp) (by simp) ⟨c0, c1⟩ ⟨z0, z1⟩ ⟨r0, r1⟩ ?_
          by_cases e3 : z ≤ c
          · refine (ev_pos e3).2 ?_
            refine (ev_succ (fun k => by rw [spec_TradeDo.l0])).2 ?_
            refine (ev_neg (by simp)).2 ?_
            show Ev (fun k => (spec_HeapsValid.f k [a - x + p, b - y + q, c - z + r]).bind fun t => if t = true then some ([a - x + p, b - y + q, c - z + r], true) else some ([], false)) _
            refine (ev_bind (sHeapsValid_ev _ (by simp))).2 ?_
            by_cases e : (x ≤ a ∧ a - x + p ≤ 40) ∧ (y ≤ b ∧ b - y + q ≤ 40) ∧ (z ≤ c ∧ c - z + r ≤ 40)
            · rw [if_pos e]
              exact (ev_pos (by rw [HOK_three]; simp; omega)).2 (ev_some.2 rfl)
            · rw [if_neg e]
              exact (ev_neg (by rw [HOK_three]; simp; omega)).2 (ev_some.2 rfl)
          · refine (ev_neg e3).2 (ev_some.2 ?_)
            rw [if_neg (by omega)]
        · refine (ev_neg e2).2 (ev_some.2 ?_)
          rw [if_neg (by omega)]
      · refine (ev_neg e1).2 (ev_some.2 ?_)
        rw [if_neg (by omega)]
    · unfold tdo
      rw [if_neg (fun h => htg h.2)]
      have : TOK t g = false := by simpa using htg
      rw [this]
      exact (ev_pos rfl).2 (ev_some.2 rfl)
  · unfold tdo
    rw [if_neg (fun h => hh h.1)]
    refine (ev_neg hh).2 ?_
    refine (ev_succ (fun k => by rw [spec_TradeDo.j0])).2 ?_
    exact (ev_pos rfl).2 (ev_some.2 rfl)
theorem sameInts_l0 (l m : List Int) (hl : l.length < 9223372036854775807) (hm : l.length = m.length) : ∀ d i : Nat, i + d = l.length → Ev (fun k => laws_sameInts.l0 k l m (i : Int)) (decide (l.drop i = m.drop i)) := by
  intro d
  induction d with
  | zero =>
    intro i hi
    refine (ev_succ (fun k => by rw [laws_sameInts.l0])).2 ?_
    refine (ev_neg (by omega)).2 (ev_some.2 ?_)
    rw [List.drop_eq_nil_of_le (by omega), List.drop_eq_nil_of_le (by omega)]
    simp
  | succ d ih =>
    intro i hi
    have h1 : i < l.length := by omega
    have h2 : i < m.length := by omega
    refine (ev_succ (fun k => by rw [laws_sameInts.l0])).2 ?_
    refine (ev_pos (by omega)).2 ((ev_pos (by omega)).2 ((ev_pos (by omega)).2 ?_))
    rw [rd_nat h1, rd_nat h2, drop_cons h1, drop_cons h2]
    by_cases e : l[i] = m[i]
    · refine (ev_pos e).2 ?_
      rw [w_succ (by omega)]
      have := ih (i + 1) (by omega)
      rw [e, decide_eq_decide.2 (show (m[i] :: l.drop (i + 1) = m[i] :: m.drop (i + 1)) ↔ (l.drop (i + 1) = m.drop (i + 1)) from ⟨fun h => (List.cons.inj h).2, fun h => by rw [h]⟩)]
      exact this
    · refine (ev_neg e).2 (ev_some.2 ?_)
      exact (decide_eq_false (fun h => e (List.cons.inj h).1)).symm
theorem sameInts_ev (l m : List Int) (hl : l.length < 9223372036854775807) : Ev (fun k => laws_sameInts.f k l m) (decide (l = m)) := by
  unfold laws_sameInts.f
  by_cases h : l.length = m.length
  · refine (ev_pos (by omega)).2 ?_
    have := sameInts_l0 l m hl h l.length 0 (by omega)
    simpa using this
  · refine (ev_neg (by omega)).2 (ev_some.2 ?_)
    have : ¬ l = m := fun e => h (by rw [e])
    simp [this]
theorem sameInts_self (l : List Int) (hl : l.length < 9223372036854775807) : Ev (fun k => laws_sameInts.f k l l) true := by
  have := sameInts_ev l l hl
  simpa using this
/-! The fixed answers. -/
theorem alive_at : laws_alive.f 9 = some true := by decide +kernel
theorem alive_ev : Ev (fun k => laws_alive.f k) true := Ev.of (laws_alive.mono) alive_at
theorem tdo_back {h t g : List Int} (e : (tdo h t g).2 = true) : HOK (tdo h t g).1 40 = true ∧ tdo (tdo h t g).1 g t = (h, true) := by
  rcases tdo_cases h t g with e0 | ⟨a, b, c, x, y, z, p, q, r, rfl, rfl, rfl, e1, hh, ht, hg, h1, h2, h3⟩
  · rw [e0] at e; simp at e
  · rw [e1]
    refine ⟨HOK_mk (by omega), ?_⟩
    unfold tdo
    rw [if_pos ⟨HOK_mk (by omega), by unfold TOK; rw [HOK_mk (by omega), HOK_mk (by omega)]; rfl⟩, tr3_three, if_pos (by omega)]
    rw [show a - x + p - p + x = a by omega, show b - y + q - q + y = b by omega, show c - z + r - r + z = c by omega]
theorem tdo_no {h t g : List Int} (e : (tdo h t g).2 = false) : (tdo h t g).1 = [] := by
  rcases tdo_cases h t g with e0 | ⟨a, b, c, x, y, z, p, q, r, rfl, rfl, rfl, e1, _⟩
  · rw [e0]
  · rw [e1] at e; simp at e
theorem FnTradeDo (l : List Int) (h1 : l.length ≤ maxLen) (h3 : ∀ x ∈ l, (Lit.int .u8 x).wf = true) : ∃ k, laws_FnTradeDo.f k l = some true := by
  refine evp_true ?_
  unfold laws_FnTradeDo.f
  refine evp_if (fun _ => evp_some rfl) (fun hl => ?_)
  have hd : EvP (fun k => spec_DrawTradeDo.f k l) (fun x => x.1.length ≤ 3 ∧ x.2.1.length ≤ 3 ∧ x.2.2.length ≤ 3) := by
    unfold spec_DrawTradeDo.f
    refine evp_bind (open_ev h3 (by omega)) (fun o ⟨o1, o2⟩ => ?_)
    refine evp_bind (heaps_ev o1 (by omega) (by omega) (by omega)) (fun y ⟨y1, y2, y3⟩ => ?_)
    refine evp_bind (trades_ev o1 (by omega) (by omega) (by omega)) (fun x ⟨x1, _⟩ => ?_)
    have := x1.1
    exact evp_pos (by omega) (evp_some ⟨y1, Part.rd_ x1.2.2 0⟩)
  refine evp_bind hd (fun h ⟨q1, q2, q3⟩ => ?_)
  refine evp_bind (evp_ev (TradeDo_ev h.1 h.2.1 h.2.2 (by omega) (by omega) (by omega)) rfl) (fun a ea => ?_)
  refine evp_bind (evp_ev (sTradeDo_ev h.1 h.2.1 h.2.2 (by omega) (by omega) (by omega)) rfl) (fun b eb => ?_)
  subst ea eb
  have hlen := tdo_len h.1 h.2.1 h.2.2
  refine evp_bind (evp_ev (sameInts_self _ (by omega)) rfl) (fun c ec => ?_)
  subst ec
  refine evp_pos rfl (evp_succ (fun k => by rw [laws_FnTradeDo.j0]) (evp_neg (by simp) ?_))
  refine evp_if (fun ht => ?_) (fun hf => ?_)
  · obtain ⟨b1, b2⟩ := tdo_back ht
    refine evp_bind (evp_ev (TradeDo_ev _ h.2.2 h.2.1 (by omega) (by omega) (by omega)) rfl) (fun u eu => ?_)
    refine evp_bind (evp_ev (HeapsValid_ev _ (by omega)) rfl) (fun v ev => ?_)
    subst eu ev
    rw [b2]
    exact evp_pos b1 (evp_pos rfl (evp_bindv (sameInts_self _ (by show h.1.length < 9223372036854775807; omega)) (evp_some rfl)))
  · rw [tdo_no (by simpa using hf)]
    exact evp_pos rfl (evp_bindv alive_ev (evp_some rfl))

end Go.Proofs.Ytajecpmdagbojaa.Pure
