/-
  One step of a region: what it depends on, and what it leaves.
-/
import Derived.Test.YtkgpkalclblhbaaGreatDoorS19
namespace Go.Proofs.YtkgpkalclblhbaaGreatDoor.Eng
open Go Go.RowKit
set_option linter.unusedVariables false
set_option linter.unusedSimpArgs false

variable {P : Program} {T : Tab} {N : Nat} {w0 : World} {Mv : Mvp} {Gb Gs : BS} {hd : Nat → Value} {fp : Nat → BS} {s : St} {a : Act} {w w' : World}

section step
variable (T : Tab) (call : (g : Nat) → List PV → Option (T.R g)) (own : List Nat) (ops : Array Oper)
/-- A step's outcome: the slot, the keys, the log. -/
def coreOp (o : Oper) (s : St) : Option (Slot × List (Nat × Ob) × Log) :=
  match o.op with
  | .call ⟨.value (.func g), xs, ts⟩ => match T.fn g, o.dst with
    | some f, some d => match argVs T f s o with
      | some vs => match argsOf f.pars vs with
        | some (ps, tn) => if noDup (heldKeys f.pars vs) && disj (lentKeys f.pars vs) (heldKeys f.pars vs) && ts.size == xs.size then
            (call g ps).bind fun r => match callC own f d tn (!(lentKeys f.pars vs).isEmpty) vs (spread (T.outTys g) r) with
              | some (_, z, m) => if freshAll s d (keyN f.outs) then some (z, m, ⟨looks T s o, m.map (·.1)⟩) else none
              | none => none
          else none
        | none => none
      | none => none
    | _, _ => none
  | _ => match opC T own o (views T s o) (freshOb s o.dst) with
    | some (c, z, m) => if c = true then some (z, m, ⟨looks T s o, m.map (·.1)⟩) else none
    | none => none
def splitZ (i : Nat) (z : Slot) : Option Slot := if isGuard ops i then match z with
    | .lit b => some (.lit b)
    | .val _ .bool b => some (.lit b)
    | _ => none
  else some z
def core1 (i : Nat) (o : Oper) (s : St) : Option (Slot × List (Nat × Ob) × Log) := match wantedS ops s o with
  | some true => match coreOp T call own o s with
    | some (z, m, lg) => match splitZ ops i z with
      | some z' => some (z', m, lg)
      | none => none
    | none => none
  | some false => some (.und, [], ⟨[], []⟩)
  | none => none
end step

theorem runOp_core {call : (g : Nat) → List PV → Option (T.R g)} {R : Type} {own : List Nat} {i : Nat} {o : Oper} {s : St} {K : St → Log → Option R} {r : R} (h : runOp T call own i o s K = some r) :
    ∃ z m lg, coreOp T call own o s = some (z, m, lg) ∧ K (s.out o.dst z m) lg = some r := by
  unfold runOp at h
  unfold coreOp
  split at h
  · rename_i g xs ts ho
    split at h
    · rename_i f d hf hd
      split at h
      · rename_i avs hav
        split at h
        · rename_i ps tn ha
          split at h
          · rename_i hc
            obtain ⟨q, hq, h⟩ := Option.bind_eq_some_iff.1 h
            split at h
            · rename_i c z m hout
              split at h
              · rename_i hfr
                refine ⟨z, m, _, ?_, by rw [hd]; exact h⟩
                simp only [ho, hf, hd, hav, ha, hc, if_true, hq, Option.bind_some, hout, hfr]
              · cases h
            · cases h
          · cases h
        · cases h
      · cases h
    · cases h
  · rename_i hno
    split at h
    · rename_i c z m hop
      split at h
      · rename_i hc
        refine ⟨z, m, _, ?_, h⟩
        simp only [hop, hc, if_true]
      · cases h
    · cases h
theorem splitOn_core {R : Type} {ops : Array Oper} {i : Nat} {o : Oper} {s : St} {z : Slot} {m : List (Nat × Ob)} {K : St → Option R} {r : R} (h : splitOn ops i o (s.out o.dst z m) K = some r) :
    ∃ z', splitZ ops i z = some z' ∧ K (s.out o.dst z' m) = some r := by
  unfold splitOn at h
  unfold splitZ
  split at h
  · rename_i hg
    simp only [hg, if_true]
    split at h
    · cases h
    · rename_i d hdst
      have hlt : d < s.sl.length := by
        rcases Nat.lt_or_ge d s.sl.length with hl | hl
        · exact hl
        · simp only [St.out, hdst] at h
          rw [getD_set_self, if_neg (by omega)] at h
          cases h
      simp only [St.out, hdst] at h ⊢
      rw [getD_set_self, if_pos hlt] at h
      split at h
      · exact ⟨_, rfl, h⟩
      · rename_i b
        simp only [List.set_set] at h
        split at h
        · rename_i hb; subst hb; exact ⟨_, rfl, h⟩
        · rename_i hb
          obtain rfl : b = false := by simpa using hb
          exact ⟨_, rfl, h⟩
      · cases h
  · rename_i hg
    simp only [hg, Bool.false_eq_true, if_false]
    exact ⟨z, rfl, h⟩
theorem stepOp_core {call : (g : Nat) → List PV → Option (T.R g)} {R : Type} {own : List Nat} {ops : Array Oper} {i : Nat} {o : Oper} {s : St} {K : St → Log → Option R} {r : R} (h : stepOp T call own ops i o s K = some r) :
    ∃ z m lg, core1 T call own ops i o s = some (z, m, lg) ∧ K (s.out o.dst z m) lg = some r := by
  unfold stepOp at h
  unfold core1
  split at h
  · rename_i hw
    obtain ⟨z, m, lg, h1, h2⟩ := runOp_core h
    obtain ⟨z', h3, h4⟩ := splitOn_core h2
    exact ⟨z', m, lg, by simp only [hw, h1, h3], h4⟩
  · rename_i hw; exact ⟨.und, [], ⟨[], []⟩, by simp only [hw], h⟩
  · cases h

/-! ### What a step depends on -/
theorem flatMap_same {α β : Type} {f g : α → List β} : ∀ {l : List α}, (∀ x ∈ l, f x = g x) → l.flatMap f = l.flatMap g
  | [], _ => rfl
  | x :: l, h => by
    simp only [List.flatMap_cons]
    rw [h x (by simp), flatMap_same (fun y hy => h y (by simp [hy]))]
theorem opC_blind {own : List Nat} {o : Oper} {vs vs' : List V} {fr fr' : Ob} (hb : blind o.op = true) (hv : vs.map (·.z) = vs'.map (·.z)) : opC T own o vs fr = opC T own o vs' fr' := by
  have hlen : vs.length = vs'.length := by have := congrArg List.length hv; simpa using this
  cases ho : o.op <;> simp [blind, ho] at hb
  · simp only [opC, ho]
    match vs, vs', hv with
    | [], [], _ => rfl
    | [v], [v'], hv => simp at hv; simp [hv]
    | v :: v2 :: r, v' :: v2' :: r', hv => rfl
    | [], _ :: _, hv => simp at hv
    | _ :: _, [], hv => simp at hv
    | [_], _ :: _ :: _, hv => simp at hv
    | _ :: _ :: _, [_], hv => simp at hv
  · simp only [opC, ho]
    match vs, vs', hv with
    | [], [], _ => rfl
    | [v], [v'], hv => simp at hv; simp [hv]
    | v :: v2 :: r, v' :: v2' :: r', hv => rfl
    | [], _ :: _, hv => simp at hv
    | _ :: _, [], hv => simp at hv
    | [_], _ :: _ :: _, hv => simp at hv
    | _ :: _ :: _, [_], hv => simp at hv
  · simp only [opC, ho]
    match vs, vs', hv with
    | [c, x, y], [c', x', y'], hv => simp at hv; simp [hv]
    | [], [], _ => rfl
    | [_], [_], _ => rfl
    | [_, _], [_, _], _ => rfl
    | _ :: _ :: _ :: _ :: _, _ :: _ :: _ :: _ :: _, _ => rfl
    | [], _ :: _, hv => simp at hv
    | _ :: _, [], hv => simp at hv
    | [_], _ :: _ :: _, hv => simp at hv
    | _ :: _ :: _, [_], hv => simp at hv
    | [_, _], _ :: _ :: _ :: _, hv => simp at hv
    | _ :: _ :: _ :: _, [_, _], hv => simp at hv
    | [_, _, _], _ :: _ :: _ :: _ :: _, hv => simp at hv
    | _ :: _ :: _ :: _ :: _, [_, _, _], hv => simp at hv
  · simp only [opC, ho]
    match vs, vs', hv with
    | [], [], _ => rfl
    | [v], [v'], hv => simp at hv; simp [hv]
    | v :: v2 :: r, v' :: v2' :: r', hv => rfl
    | [], _ :: _, hv => simp at hv
    | _ :: _, [], hv => simp at hv
    | [_], _ :: _ :: _, hv => simp at hv
    | _ :: _ :: _, [_], hv => simp at hv
theorem key_fields {tn : Bool} : ∀ (t : Ty) (x : Den t) (z : Slot), z ∈ fieldsOf tn t x → keysOf z = []
  | .pair a b, (x, y), z, h => by
    simp only [fieldsOf, List.mem_cons] at h
    rcases h with rfl | h
    · simp [mkVal, keysOf, keyOf]
    · exact key_fields b y z h
  | .int _, _, _, h => by simp [fieldsOf] at h
  | .bool, _, _, h => by simp [fieldsOf] at h
  | .str, _, _, h => by simp [fieldsOf] at h
  | .unit, _, _, h => by simp [fieldsOf] at h
  | .sl _, _, _, h => by simp [fieldsOf] at h
  | .ap _, _, _, h => by simp [fieldsOf] at h
theorem argZ_keys : ∀ (g : List (Option Ty)) (zs : List Slot) {zs' : List Slot}, argZ g zs = some zs' → ∀ z ∈ zs', ∀ k ∈ keysOf z, ∃ y ∈ zs, k ∈ keysOf y
  | [], zs, zs', h, z, hz, k, hk => by
    simp only [argZ, Option.some.injEq] at h
    subst h
    exact ⟨z, hz, hk⟩
  | none :: g, [], _, h, _, _, _, _ => by simp [argZ] at h
  | some t :: g, [], _, h, _, _, _, _ => by simp [argZ] at h
  | none :: g, y :: zs, zs', h, z, hz, k, hk => by
    simp only [argZ, Option.map_eq_some_iff] at h
    obtain ⟨r, h1, rfl⟩ := h
    rcases List.mem_cons.1 hz with rfl | hz
    · exact ⟨z, by simp, hk⟩
    · obtain ⟨x, hx, hkx⟩ := argZ_keys g zs h1 z hz k hk
      exact ⟨x, by simp [hx], hkx⟩
  | some t :: g, y :: zs, zs', h, z, hz, k, hk => by
    simp only [argZ] at h
    split at h
    · rename_i t' l r hag hrec
      split at h
      · rename_i hc
        cases h
        rcases List.mem_append.1 hz with hz | hz
        · refine ⟨y, by simp, ?_⟩
          unfold toAgg at hag
          split at hag
          · cases hag
            have hs := hc.2.2.2 z hz
            simp only [keysOf]
            refine List.mem_filterMap.2 ⟨z, hz, ?_⟩
            cases z <;> simp_all [keysOf, isAgg1]
          · split at hag
            · cases hag
              rw [key_fields _ _ z hz] at hk
              simp at hk
            · cases hag
          · cases hag
        · obtain ⟨x, hx, hkx⟩ := argZ_keys g zs hrec z hz k hk
          exact ⟨x, by simp [hx], hkx⟩
      · cases h
    · cases h
theorem core_local {call : (g : Nat) → List PV → Option (T.R g)} {own : List Nat} {ops : Array Oper} {i : Nat} {o : Oper} {s s' : St} (h1 : ∀ x ∈ opnds T o, rd s x.1 x.2 = rd s' x.1 x.2) (h2 : wantedS ops s o = wantedS ops s' o)
    (h3 : ∀ k ∈ looks T s o, s.ob[k]? = s'.ob[k]?) : core1 T call own ops i o s = core1 T call own ops i o s' := by
  have hlooks : looks T s o = looks T s' o := by
    unfold looks
    split
    · rfl
    · congr 1
      exact flatMap_same (fun x hx => by rw [h1 x hx])
  unfold core1
  rw [h2]
  have hcore : coreOp T call own o s = coreOp T call own o s' := by
    by_cases hb : blind o.op = true
    · have hnc : ∀ c, o.op ≠ .call c := by intro c hc; rw [hc] at hb; cases hb
      have hv : (views T s o).map (·.z) = (views T s' o).map (·.z) := by
        simp only [views, List.map_map]
        apply List.map_congr_left
        intro x hx
        exact h1 x hx
      unfold coreOp
      split
      · rename_i hc; exact absurd hc (hnc _)
      · rw [opC_blind (fr' := freshOb s' o.dst) hb hv, hlooks]
    · have hkeys : ∀ x ∈ opnds T o, ∀ k ∈ keysOf (rd s x.1 x.2), s.ob[k]? = s'.ob[k]? := fun x hx k hk => by
        refine h3 k ?_
        unfold looks
        rw [if_neg hb]
        exact List.mem_append_left _ (List.mem_flatMap.2 ⟨x, hx, hk⟩)
      have hone : ∀ z : Slot, (∀ k ∈ (keyOf z).toList, s.ob[k]? = s'.ob[k]?) → obOf s z = obOf s' z := fun z hz => by
        unfold obOf
        cases hk : keyOf z with
        | none => rfl
        | some k => simp only [List.getD_eq_getElem?_getD, hz k (by simp [hk])]
      have hview : ∀ z : Slot, (∀ k ∈ keysOf z, s.ob[k]? = s'.ob[k]?) → viewZ s z = viewZ s' z := fun z hx2 => by
        cases z with
        | agg t l =>
          simp only [viewZ, obsOf]
          congr 1
          apply List.map_congr_left
          intro y hy
          refine hone y (fun k hk => hx2 k ?_)
          simp only [keysOf]
          exact List.mem_filterMap.2 ⟨y, hy, by simpa using hk⟩
        | _ => simp only [viewZ, obsOf]; congr 1; try exact hone _ hx2
      have hviews : views T s o = views T s' o := by
        unfold views
        apply List.map_congr_left
        intro x hx
        unfold view
        rw [← h1 x hx]
        exact hview _ (hkeys x hx)
      have hargs : ∀ f : FnT, argVs T f s o = argVs T f s' o := fun f => by
        unfold argVs
        have hrd : (opnds T o).map (fun x => rd s x.1 x.2) = (opnds T o).map (fun x => rd s' x.1 x.2) := List.map_congr_left (fun x hx => h1 x hx)
        rw [← hrd]
        cases hz : argZ f.pg ((opnds T o).map fun x => rd s x.1 x.2) with
        | none => rfl
        | some zs =>
          simp only [Option.map_some]
          congr 1
          apply List.map_congr_left
          intro z hzm
          refine hview z (fun k hk => ?_)
          obtain ⟨y, hy, hky⟩ := argZ_keys _ _ hz z hzm k hk
          obtain ⟨x, hx, rfl⟩ := List.mem_map.1 hy
          exact hkeys x hx k hky
      have hfr : ∀ k, k ∈ freshKeys o.dst → s.ob[k]? = s'.ob[k]? := fun k hk => h3 k (by unfold looks; rw [if_neg hb]; exact List.mem_append_right _ hk)
      have hfo : freshOb s o.dst = freshOb s' o.dst := by
        unfold freshOb
        cases hd : o.dst with
        | none => rfl
        | some d => simp only [List.getD_eq_getElem?_getD]; rw [hfr (4 * d) (by rw [hd]; simp [freshKeys])]
      have hfa : ∀ d n, o.dst = some d → freshAll s d n = freshAll s' d n := by
        intro d n hd
        unfold freshAll
        by_cases hn : n ≤ 5
        · congr 1
          rw [Bool.eq_iff_iff, List.all_eq_true, List.all_eq_true]
          have hq : ∀ j, j ∈ List.range n → s.ob.getD (4 * d + j) .gone = s'.ob.getD (4 * d + j) .gone := by
            intro j hj
            simp only [List.mem_range] at hj
            simp only [List.getD_eq_getElem?_getD]
            rw [hfr (4 * d + j) (by
              rw [hd]; simp only [freshKeys, List.mem_cons, List.not_mem_nil, or_false]
              have : j = 0 ∨ j = 1 ∨ j = 2 ∨ j = 3 ∨ j = 4 := by omega
              rcases this with rfl | rfl | rfl | rfl | rfl <;> simp)]
          constructor
          · intro h j hj; have := h j hj; rw [hq j hj] at this; exact this
          · intro h j hj; have := h j hj; rw [← hq j hj] at this; exact this
        · simp [hn]
      unfold coreOp
      rw [hviews, hfo, hlooks]
      split
      · rename_i g xs ts ho
        split
        · rename_i f d hf hd
          rw [hargs f]
          split
          · split
            · split
              · congr 1
                funext r
                split
                · rw [hfa d _ hd]
                · rfl
              · rfl
            · rfl
          · rfl
        · rfl
      · rfl
  rw [hcore]
end Go.Proofs.YtkgpkalclblhbaaGreatDoor.Eng
