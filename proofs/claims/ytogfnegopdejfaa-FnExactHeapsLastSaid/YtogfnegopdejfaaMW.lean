import Derived.Test.YtogfnegopdejfaaS30
import Derived.Test.YtogfnegopdejfaaChecked
import Derived.WalkKit
import Derived.Deep.LoopGhost
namespace Go.Proofs.Ytogfnegopdejfaa.Eng
open Go Go.RowKit
set_option linter.unusedVariables false
set_option maxHeartbeats 1000000 in
set_option maxRecDepth 100000 in
theorem marks14 (hM : Mark1 Try.prog 13) (x : List Trade) (k : Int) (b o cap : Nat) (cs : List Value) (G : BS) (w : World) (hok : okT x = true)
    (h5 : SepL w G (.ap 2) x cs) (h6 : w.rangeAt b o cs) (hb : ¬ G b) (hlt : ∀ c, G c → c < w.heap.size) (hbl : b < w.heap.size) :
    Calls Try.prog 14 #[.slice (some ⟨b, o, none⟩) x.length cap, .int .i64 k] w fun e w' => e = .returned (.int .i64 (markT x k).1) ∧ SepL w' G (.ap 2) (markT x k).2 cs ∧ w'.heap[b]? = w.heap[b]? ∧ Ev w.heap.size G w w' := by
  have hok2 := of_decide_eq_true hok
  have hlen : x.length ≤ 9223372036854775806 := by have := hok2.1; unfold lim at this; omega
  have hrows := (show Aside _ from hok2.2)
  clear hok hok2
  have hlen' : (x.length : Int) ≤ 9223372036854775806 := by omega
  have HA : Aside (SepL w G (.ap 2) x cs ∧ w.rangeAt b o cs ∧ ¬ G b ∧ (∀ c, G c → c < w.heap.size) ∧ b < w.heap.size) := ⟨h5, h6, hb, hlt, hbl⟩
  clear h5 h6 hb hlt hbl
  go_enter Try.func14, Try.ntmps14
  go_wp2
  go_loopg [1, 5] x.length (fun kq v1 v5 wr => ∃ (i : Nat) (pre : List Trade) (k1 : Int), v1 = .int .i64 k1 ∧ v5 = .int .i64 (i : Int) ∧
    Aside (kq = x.length - i ∧ i ≤ x.length ∧ pre.length = i ∧ SepL wr G (.ap 2) (pre ++ x.drop i) cs ∧ wr.heap[b]? = w.heap[b]? ∧ Ev w.heap.size G w wr ∧ (markT (x.drop i) k1).1 = (markT x k).1 ∧ pre ++ (markT (x.drop i) k1).2 = (markT x k).2))
  case atStart => exact ⟨0, [], k, rfl, rfl, rfl, Nat.zero_le _, rfl, by simpa using HA.out.1, rfl, ⟨rfl, rfl, rfl, Nat.le_refl _, fun _ _ _ => rfl⟩, by simp, by simp⟩
  case round =>
    obtain ⟨i, pre, k1, rfl, rfl, A⟩ := hrel
    by_cases hi : (i : Int) < (x.length : Int)
    · have hi1 : decide ((i : Int) < (x.length : Int)) = true := decide_eq_true hi
      have hi0 : 0 ≤ (i : Int) := by omega
      have B : Aside (∃ (u0 u1 : Value) (G0 G1 : BS) (y : Trade), x[i]? = some y ∧ wr.cell? ⟨b, o + i * 2, none⟩ = some u0 ∧ wr.cell? ⟨b, o + i * 2 + 1, none⟩ = some u1 ∧ OwnRow wr (fun _ => False) (.int .i64) y.f0 u0 G0 ∧ OwnRow wr (fun _ => False) (.int .i64) y.f1 u1 G1 ∧ (∀ c, G0 c → G c) ∧ (∀ c, G1 c → G c) ∧ (∀ c, G0 c → ¬ G1 c) ∧
          (∀ w', (∀ c, ¬ G0 c → ¬ G1 c → c < wr.heap.size → w'.heap[c]? = wr.heap[c]?) → ∀ z0 z1, OwnRow w' (fun _ => False) (.int .i64) z0 u0 G0 → OwnRow w' (fun _ => False) (.int .i64) z1 u1 G1 → SepL w' G (.ap 2) ((pre ++ [⟨z0, z1⟩]) ++ x.drop (i + 1)) cs)) := by
        obtain ⟨a1, a2, a3, a4, a5, a6, a7, a8⟩ := A.out
        obtain ⟨b1, b2, b3, b4, b5⟩ := HA.out
        have hi2 : i < x.length := by omega
        have hxl : i < (pre ++ x.drop i).length := by simp; omega
        obtain ⟨GG, H, c1, c2, c3, c4, c5⟩ := SepL.at a4 i hxl
        obtain ⟨u0, u1, G0, G1, d1, d2, d3, d4, d5, d6, d7⟩ := SepC.two c4
        have hg : (pre ++ x.drop i)[i] = x[i] := by rw [List.getElem_append_right (by omega)]; simp [a3]
        have d2' : OwnRow wr (fun _ => False) (.int .i64) (x[i]'hi2).f0 u0 G0 := by rw [← hg]; exact d2
        have d3' : OwnRow wr (fun _ => False) (.int .i64) (x[i]'hi2).f1 u1 G1 := by rw [← hg]; exact d3
        have hcu : cs[i * 2]? = some u0 ∧ cs[i * 2 + 1]? = some u1 := by
          have e0 := congrArg (fun l : List Value => l[0]?) d1
          have e1 := congrArg (fun l : List Value => l[1]?) d1
          exact ⟨by simpa [sz, szNT, List.getElem?_take, List.getElem?_drop] using e0, by simpa [sz, szNT, List.getElem?_take, List.getElem?_drop] using e1⟩
        refine ⟨u0, u1, G0, G1, x[i], List.getElem?_eq_getElem hi2, (World.cell?_of_block (a := ⟨b, o + i * 2, none⟩) a5).trans (b2 _ u0 hcu.1), (World.cell?_of_block (a := ⟨b, o + i * 2 + 1, none⟩) a5).trans (b2 _ u1 hcu.2), d2', d3', fun c hc => c1 c (d4 c hc), fun c hc => c1 c (d5 c hc), d6, fun w' hw z0 z1 h0 h1 => ?_⟩
        have h1 := c5 w' ⟨z0, z1⟩ (fun c hc => hw c (fun q => c3 c (d4 c q) hc) (fun q => c3 c (d5 c q) hc) (by have := b4 c (c2 c hc); have := a6.size; omega)) (by rw [d1]; exact d7 w' z0 z1 h0 h1)
        have h2 : (pre ++ x.drop i).set i ⟨z0, z1⟩ = (pre ++ [⟨z0, z1⟩]) ++ x.drop (i + 1) := by
          rw [List.set_append_right _ _ (by omega), a3, Nat.sub_self, List.drop_eq_getElem_cons hi2, List.set_cons_zero]; simp
        exact (congrArg (fun z : List Trade => SepL w' G (.ap 2) z cs) h2).mp h1
      obtain ⟨u0, u1, G0, G1, y, B1, hc0, hc1, B2, B3, B4, B5, B6, B7⟩ := B.out
      have D : Aside (x[i]? = some y ∧ wr.cell? ⟨b, o + i * 2 + 1, none⟩ = some u1 ∧ OwnRow wr (fun _ => False) (.int .i64) y.f0 u0 G0 ∧ OwnRow wr (fun _ => False) (.int .i64) y.f1 u1 G1 ∧ (∀ c, G0 c → G c) ∧ (∀ c, G1 c → G c) ∧ (∀ c, G0 c → ¬ G1 c) ∧
          (∀ w', (∀ c, ¬ G0 c → ¬ G1 c → c < wr.heap.size → w'.heap[c]? = wr.heap[c]?) → ∀ z0 z1, OwnRow w' (fun _ => False) (.int .i64) z0 u0 G0 → OwnRow w' (fun _ => False) (.int .i64) z1 u1 G1 → SepL w' G (.ap 2) ((pre ++ [⟨z0, z1⟩]) ++ x.drop (i + 1)) cs)) := ⟨B1, hc1, B2, B3, B4, B5, B6, B7⟩
      clear B B1 hc1 B2 B3 B4 B5 B6 B7
      go_wp2_with (first
        | (go_at_call 13; (have q := hcc); refine (hM y.f1 (mark1 y.f0 k1).1 u1 G1 w1 (hrows.out y (List.mem_of_getElem? D.out.1)).2 (OwnRow.move D.out.2.2.2.1 (fun _ h => h) (fun c hc => C.out.2.block c (by have := HA.out.2.2.2.1 c (D.out.2.2.2.2.2.1 c (hc.resolve_left id)); have := A.out.2.2.2.2.2.1.size; omega) (fun q => D.out.2.2.2.2.2.2.1 c q (hc.resolve_left id))) (fun _ h => h)) (fun c hc => by have := HA.out.2.2.2.1 c (D.out.2.2.2.2.2.1 c hc); have := A.out.2.2.2.2.2.1.size; have := C.out.2.size; omega)).mono ?_; rintro e w2 ⟨rfl, C'⟩; replace C' := (show Aside _ from C'))
        | (go_at_call 13; refine (hM y.f0 k1 u0 G0 wr (hrows.out y (List.mem_of_getElem? D.out.1)).1 D.out.2.2.1 (fun c hc => by have := HA.out.2.2.2.1 c (D.out.2.2.2.2.1 c hc); have := A.out.2.2.2.2.2.1.size; omega)).mono ?_; rintro e w1 ⟨rfl, C⟩;
            have hcc : w1.cell? ⟨b, o + i * 2 + 1, none⟩ = some u1 := (World.cell?_of_block (a := ⟨b, o + i * 2 + 1, none⟩) (C.2.block b (by have := HA.out.2.2.2.2; have := A.out.2.2.2.2.2.1.size; omega) (fun q => HA.out.2.2.1 (D.out.2.2.2.2.1 b q)))).trans D.out.2.1;
            replace C := (show Aside _ from C)))
      go_roundg (x.length - (i + 1))
      case measure => have := A.out.1; omega
      case rel =>
        obtain ⟨a1, a2, a3, a4, a5, a6, a7, a8⟩ := A.out
        obtain ⟨b1, b2, b3, b4, b5⟩ := HA.out
        obtain ⟨d1, _, d2, d3, d4, d5, d6, d7⟩ := D.out
        obtain ⟨C1, C2⟩ := C.out
        obtain ⟨C3, C4⟩ := C'.out
        have hi2 : i < x.length := by omega
        rw [List.getElem?_eq_getElem hi2] at d1
        cases d1
        have hd : x.drop i = x[i] :: x.drop (i + 1) := List.drop_eq_getElem_cons hi2
        rw [hd] at a7 a8
        simp only [markT] at a7 a8
        have hsame : ∀ c, ¬ G0 c → ¬ G1 c → c < wr.heap.size → w2.heap[c]? = wr.heap[c]? := fun c hc hc' hl => (C4.block c (by have := C2.size; omega) hc').trans (C2.block c hl hc)
        have hlt : ∀ c, G0 c → c < w1.heap.size := fun c hc => by have := b4 c (d4 c hc); have := a6.size; have := C2.size; omega
        have C1' := C1.move (w' := w2) (G' := fun _ => False) (fun _ h => h) (fun c hc => C4.block c (hlt c (hc.resolve_left id)) (d6 c (hc.resolve_left id))) (fun _ h => h)
        refine ⟨i + 1, pre ++ [⟨(mark1 x[i].f0 k1).2, (mark1 x[i].f1 (mark1 x[i].f0 k1).1).2⟩], (mark1 x[i].f1 (mark1 x[i].f0 k1).1).1, rfl, ?_, rfl, by omega, by simp [a3], d7 w2 hsame _ _ C1' C3, ?_, ?_, a7, by rw [List.append_assoc]; exact a8⟩
        · first | rfl | (congr 1; first | rfl | (simp [wrap64]; omega))
        · rw [hsame b (fun q => b3 (d4 b q)) (fun q => b3 (d5 b q)) (by have := a6.size; omega)]; exact a5
        · exact ⟨C4.os.trans (C2.os.trans a6.os), C4.tape.trans (C2.tape.trans a6.tape), C4.output.trans (C2.output.trans a6.output), Nat.le_trans a6.size (Nat.le_trans C2.size C4.size), fun c hc hn => (hsame c (fun q => hn (d4 c q)) (fun q => hn (d5 c q)) (by have := a6.size; omega)).trans (a6.block c hc hn)⟩
    · have hi1 : decide ((i : Int) < (x.length : Int)) = false := decide_eq_false hi
      go_wp2
      go_ret
      obtain ⟨a1, a2, a3, a4, a5, a6, a7, a8⟩ := A.out
      have hd : x.drop i = [] := List.drop_eq_nil_of_le (by omega)
      rw [hd] at a4 a7 a8
      simp only [markT, List.append_nil] at a4 a7 a8
      refine ⟨?_, by rw [← a8]; exact a4, a5, a6⟩
      rw [← a7]
      rfl
theorem marked14 (hM : Mark1 Try.prog 13) : MarkD Try.prog 14 (.ap 2) markT okT := fun x k b o cap cs G w hok h5 h6 hb hlt hbl => marks14 hM x k b o cap cs G w hok h5 h6 hb hlt hbl
set_option maxHeartbeats 1000000 in
set_option maxRecDepth 100000 in
theorem nothing14 : MarkN Try.prog 14 := by
  intro k w
  go_enter Try.func14, Try.ntmps14
  go_wp2
  go_loopg [1, 5] 1 (fun kq v1 v5 wr => v1 = .int .i64 k ∧ v5 = .int .i64 0 ∧ wr = w)
  case atStart => exact ⟨rfl, rfl, rfl⟩
  case round =>
    obtain ⟨rfl, rfl, rfl⟩ := hrel
    go_wp2
    go_ret
    exact ⟨rfl, rfl, rfl, rfl, Nat.le_refl _, fun _ _ _ => rfl⟩
set_option maxHeartbeats 4000000 in
set_option maxRecDepth 100000 in
theorem marks15 (hM : Mark1 Try.prog 13) (x : List (List Int)) (k : Int) (b o cap : Nat) (cs : List Value) (G : BS) (w : World) (hok : okL x = true)
    (h5 : SepL w G (.sl (.int .i64)) x cs) (h6 : w.rangeAt b o cs) (hb : ¬ G b) (hlt : ∀ c, G c → c < w.heap.size) (hbl : b < w.heap.size) :
    Calls Try.prog 15 #[.slice (some ⟨b, o, none⟩) x.length cap, .int .i64 k] w fun e w' => e = .returned (.int .i64 (markL x k).1) ∧ SepL w' G (.sl (.int .i64)) (markL x k).2 cs ∧ w'.heap[b]? = w.heap[b]? ∧ Ev w.heap.size G w w' := by
  have hok2 := of_decide_eq_true hok
  have hlen : x.length ≤ 9223372036854775806 := by have := hok2.1; unfold lim at this; omega
  have hrows := (show Aside _ from hok2.2)
  clear hok hok2
  have hlen' : (x.length : Int) ≤ 9223372036854775806 := by omega
  have HA : Aside (SepL w G (.sl (.int .i64)) x cs ∧ w.rangeAt b o cs ∧ ¬ G b ∧ (∀ c, G c → c < w.heap.size) ∧ b < w.heap.size) := ⟨h5, h6, hb, hlt, hbl⟩
  clear h5 h6 hb hlt hbl
  go_enter Try.func15, Try.ntmps15
  go_wp2
  go_loopg [1, 5] x.length (fun kq v1 v5 wr => ∃ (i : Nat) (pre : List (List Int)) (k1 : Int), v1 = .int .i64 k1 ∧ v5 = .int .i64 (i : Int) ∧
    Aside (kq = x.length - i ∧ i ≤ x.length ∧ pre.length = i ∧ SepL wr G (.sl (.int .i64)) (pre ++ x.drop i) cs ∧ wr.heap[b]? = w.heap[b]? ∧ Ev w.heap.size G w wr ∧ (markL (x.drop i) k1).1 = (markL x k).1 ∧ pre ++ (markL (x.drop i) k1).2 = (markL x k).2))
  case atStart => exact ⟨0, [], k, rfl, rfl, rfl, Nat.zero_le _, rfl, by simpa using HA.out.1, rfl, ⟨rfl, rfl, rfl, Nat.le_refl _, fun _ _ _ => rfl⟩, by simp, by simp⟩
  case round =>
    obtain ⟨i, pre, k1, rfl, rfl, A⟩ := hrel
    by_cases hi : (i : Int) < (x.length : Int)
    · have hi1 : decide ((i : Int) < (x.length : Int)) = true := decide_eq_true hi
      have hi0 : 0 ≤ (i : Int) := by omega
      have B : Aside (∃ (u : Value) (G1 H : BS) (y : List Int), x[i]? = some y ∧ wr.cell? ⟨b, o + i, none⟩ = some u ∧ OwnRow wr (fun _ => False) (.int .i64) y u G1 ∧ (∀ c, G1 c → G c) ∧
          (∀ w', (∀ c, ¬ G1 c → c < wr.heap.size → w'.heap[c]? = wr.heap[c]?) → ∀ z, OwnRow w' (fun _ => False) (.int .i64) z u G1 → SepL w' G (.sl (.int .i64)) ((pre ++ [z]) ++ x.drop (i + 1)) cs)) := by
        obtain ⟨a1, a2, a3, a4, a5, a6, a7, a8⟩ := A.out
        obtain ⟨b1, b2, b3, b4, b5⟩ := HA.out
        have hi2 : i < x.length := by omega
        have hxl : i < (pre ++ x.drop i).length := by simp; omega
        obtain ⟨G1, H, c1, c2, c3, c4, c5⟩ := SepL.at a4 i hxl
        obtain ⟨u, d1, d2⟩ := SepC.own c4 rfl
        have hg : (pre ++ x.drop i)[i] = x[i] := by rw [List.getElem_append_right (by omega)]; simp [a3]
        have hcu : cs[i]? = some u := by
          have := congrArg (fun l : List Value => l[0]?) d1
          simpa [sz, List.getElem?_take, List.getElem?_drop] using this
        refine ⟨u, G1, H, x[i], List.getElem?_eq_getElem hi2, ?_, by rw [hg] at d2; exact d2, c1, fun w' hw z hz => ?_⟩
        · exact (World.cell?_of_block (a := ⟨b, o + i, none⟩) a5).trans (b2 i u hcu)
        · have hz' := hz.sep rfl
          rw [← d1] at hz'
          have h1 := c5 w' z (fun c hc => hw c (fun q => c3 c q hc) (by have := b4 c (c2 c hc); have := a6.size; omega)) hz'
          have h2 : (pre ++ x.drop i).set i z = (pre ++ [z]) ++ x.drop (i + 1) := by
            rw [List.set_append_right _ _ (by omega), a3, Nat.sub_self, List.drop_eq_getElem_cons hi2, List.set_cons_zero]; simp
          rwa [h2] at h1
      obtain ⟨u, G1, H, y, B1, hc, B2, B3, B4⟩ := B.out
      have D : Aside (x[i]? = some y ∧ OwnRow wr (fun _ => False) (.int .i64) y u G1 ∧ (∀ c, G1 c → G c) ∧
          (∀ w', (∀ c, ¬ G1 c → c < wr.heap.size → w'.heap[c]? = wr.heap[c]?) → ∀ z, OwnRow w' (fun _ => False) (.int .i64) z u G1 → SepL w' G (.sl (.int .i64)) ((pre ++ [z]) ++ x.drop (i + 1)) cs)) := ⟨B1, B2, B3, B4⟩
      clear B B1 B2 B3 B4
      go_wp2_with (go_at_call 13; refine (hM y k1 u G1 wr (hrows.out y (List.mem_of_getElem? D.out.1)) D.out.2.1 (fun c hc => by have := HA.out.2.2.2.1 c (D.out.2.2.1 c hc); have := A.out.2.2.2.2.2.1.size; omega)).mono ?_; rintro e w1 ⟨rfl, C⟩; replace C := (show Aside _ from C))
      go_roundg (x.length - (i + 1))
      case measure => have := A.out.1; omega
      case rel =>
        obtain ⟨a1, a2, a3, a4, a5, a6, a7, a8⟩ := A.out
        obtain ⟨b1, b2, b3, b4, b5⟩ := HA.out
        obtain ⟨d1, d2, d3, d4⟩ := D.out
        obtain ⟨C1, C2⟩ := C.out
        have hi2 : i < x.length := by omega
        rw [List.getElem?_eq_getElem hi2] at d1
        cases d1
        have hd : x.drop i = x[i] :: x.drop (i + 1) := List.drop_eq_getElem_cons hi2
        rw [hd] at a7 a8
        simp only [markL] at a7 a8
        have hsame : ∀ c, ¬ G1 c → c < wr.heap.size → w1.heap[c]? = wr.heap[c]? := fun c hc hl => C2.block c hl hc
        refine ⟨i + 1, pre ++ [(mark1 x[i] k1).2], (mark1 x[i] k1).1, rfl, ?_, rfl, by omega, by simp [a3], d4 w1 hsame _ C1, ?_, ?_, a7, by rw [List.append_assoc]; exact a8⟩
        · first | rfl | (congr 1; first | rfl | (simp [wrap64]; omega))
        · rw [hsame b (fun q => b3 (d3 b q)) (by have := a6.size; omega)]; exact a5
        · exact ⟨C2.os.trans a6.os, C2.tape.trans a6.tape, C2.output.trans a6.output, Nat.le_trans a6.size C2.size, fun c hc hn => (C2.block c (by have := a6.size; omega) (fun q => hn (d3 c q))).trans (a6.block c hc hn)⟩
    · have hi1 : decide ((i : Int) < (x.length : Int)) = false := decide_eq_false hi
      go_wp2
      go_ret
      obtain ⟨a1, a2, a3, a4, a5, a6, a7, a8⟩ := A.out
      have hd : x.drop i = [] := List.drop_eq_nil_of_le (by omega)
      rw [hd] at a4 a7 a8
      simp only [markL, List.append_nil] at a4 a7 a8
      refine ⟨?_, by rw [← a8]; exact a4, a5, a6⟩
      rw [← a7]
      rfl
theorem marked15 (hM : Mark1 Try.prog 13) : MarkD Try.prog 15 (.sl (.int .i64)) markL okL := fun x k b o cap cs G w hok h5 h6 hb hlt hbl => marks15 hM x k b o cap cs G w hok h5 h6 hb hlt hbl
set_option maxHeartbeats 1000000 in
set_option maxRecDepth 100000 in
theorem nothing15 : MarkN Try.prog 15 := by
  intro k w
  go_enter Try.func15, Try.ntmps15
  go_wp2
  go_loopg [1, 5] 1 (fun kq v1 v5 wr => v1 = .int .i64 k ∧ v5 = .int .i64 0 ∧ wr = w)
  case atStart => exact ⟨rfl, rfl, rfl⟩
  case round =>
    obtain ⟨rfl, rfl, rfl⟩ := hrel
    go_wp2
    go_ret
    exact ⟨rfl, rfl, rfl, rfl, Nat.le_refl _, fun _ _ _ => rfl⟩
end Go.Proofs.Ytogfnegopdejfaa.Eng
