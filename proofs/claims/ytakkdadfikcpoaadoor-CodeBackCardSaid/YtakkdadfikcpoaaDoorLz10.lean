/- Lz10: the reckoning of each operation is what the model does (literals, the rest), and one law for all of them. -/
import Derived.Test.YtakkdadfikcpoaaDoorLz9
import Derived.MapKept
namespace Go.Lz
set_option linter.unusedVariables false
set_option linter.unusedSimpArgs false

theorem fill_ok {E : Env} {place : Nat → Option (Nat × Nat)} : ∀ {parts : List (Nat × V)} {vparts : List (Nat × Value)} {zs cs : List C} {va : Array Value},
    parts.length = vparts.length → (∀ (k : Nat) (i : Nat) (x : V), parts[k]? = some (i, x) → ∃ v, vparts[k]? = some (i, v) ∧ VRel E x v) →
    va.size = zs.length → (∀ (j : Nat) (c : C), zs[j]? = some c → ∃ y, va[j]? = some y ∧ CRel E c y) → fillC place zs parts = some cs →
    ∃ out, Instr.fill place va vparts = some out ∧ out.size = cs.length ∧ ∀ (j : Nat) (c : C), cs[j]? = some c → ∃ y, out[j]? = some y ∧ CRel E c y
  | [], vparts, zs, cs, va, hl, hp, hs, hr, h => by
    have : vparts = [] := List.eq_nil_of_length_eq_zero (by simpa using hl.symm)
    subst this
    simp [fillC] at h
    subst h
    exact ⟨va, rfl, hs, hr⟩
  | (i, x) :: rest, vparts, zs, cs, va, hl, hp, hs, hr, h => by
    obtain ⟨v, hv, hx⟩ := hp 0 i x rfl
    cases vparts with
    | nil => simp at hv
    | cons p vrest =>
      simp at hv
      subst hv
      simp only [fillC] at h
      cases hpl : place i with
      | none => simp [hpl] at h
      | some os =>
        obtain ⟨off, size⟩ := os
        cases hxc : x.cs with
        | none => simp [hpl, hxc] at h
        | some c0 =>
          simp only [hpl, hxc] at h
          split at h
          · cases h
          · rename_i hcond
            obtain ⟨q1, q2⟩ := hx.cells hxc
            have hc1 : c0.length = size := Classical.byContradiction fun h => hcond (.inl h)
            have hc2 : off + c0.length ≤ zs.length := Nat.le_of_not_lt fun h => hcond (.inr h)
            have hfold : v.cells.zipIdx.foldl (fun cs (x : Value × Nat) => cs.setIfInBounds (off + x.2) x.1) va = (v.cells.toList.zipIdx 0).foldl (fun cs (x : Value × Nat) => cs.setIfInBounds (off + x.2) x.1) va := by
              rw [← Array.foldl_toList]; simp
            obtain ⟨f1, f2⟩ := Great.foldl_set off v.cells.toList 0 va
            have ih := fill_ok (E := E) (place := place) (parts := rest) (vparts := vrest) (zs := splice zs off c0) (cs := cs)
              (va := v.cells.zipIdx.foldl (fun cs (x : Value × Nat) => cs.setIfInBounds (off + x.2) x.1) va) (by simpa using hl)
              (fun k i x hk => by simpa using hp (k + 1) i x (by simpa using hk)) (by rw [hfold, f1, splice_len _ _ _ hc2, hs])
              (fun j c hj => by
                rw [splice_get _ _ _ hc2] at hj
                rw [hfold, f2]
                simp only [Nat.add_zero, Array.length_toList, q1]
                split at hj
                · rename_i hh
                  rw [if_pos (by omega)]
                  simpa using q2 _ _ hj
                · rename_i hh
                  rw [if_neg (by omega)]
                  exact hr j c hj) h
            obtain ⟨out, o1, o2⟩ := ih
            refine ⟨out, ?_, o2⟩
            simp only [Instr.fill, hpl]
            rw [if_neg (by simp [q1, hc1]; omega)]
            exact o1

theorem tPl_spec {P : Program} {t : TypeId} {pl : Nat → Option (Nat × Nat)} {z : V} {zs : List C} (hpl : tPl P t = some pl) (hz : tZ P t = some z) (hzs : z.cs = some zs) :
    ∃ zv : Value, zv.cells.size = zs.length ∧ (∀ (E : Env) (j : Nat) (c : C), zs[j]? = some c → ∃ y, zv.cells[j]? = some y ∧ CRel E c y) ∧ ∀ parts, P.built t parts = Instr.fill pl zv.cells parts := by
  obtain ⟨i, zv, hi, hzv, h1, h2⟩ := vs_zero (P := P) (E := ⟨default, fun _ => False, fun _ => ⟨0, 0, 0⟩, []⟩) hz hzs
  refine ⟨zv, h1, h2, fun parts => ?_⟩
  unfold tPl at hpl
  unfold Program.built
  split at hpl
  · rename_i n e hu
    split at hpl
    · rename_i ie hie
      cases hpl
      simp [hi, hu, hzv, hie]
    · cases hpl
  · rename_i fs hu
    split at hpl
    · rename_i places hp
      cases hpl
      simp [hi, hu, hzv, hp]
    · cases hpl
  · cases hpl

theorem buildF_ok {P : Program} {E : Env} (hE : HRel E) {t : TypeId} {parts : List (Nat × V)} {vparts : Array (Nat × Value)} (hl : parts.length = vparts.size)
    (hp : ∀ (k : Nat) (i : Nat) (x : V), parts[k]? = some (i, x) → ∃ v, vparts[k]? = some (i, v) ∧ VRel E x v) : Good P E (Instr.build t vparts) (buildF P t parts E.H) := by
  unfold buildF
  split
  · rename_i pl z hpl hz
    split
    · rename_i zs hzs
      split
      · rename_i cs hcs
        obtain ⟨zv, h1, h2, h3⟩ := tPl_spec hpl hz hzs
        obtain ⟨out, o1, o2, o3⟩ := fill_ok (E := E) (vparts := vparts.toList) (va := zv.cells) (by simpa using hl) (fun k i x hk => by simpa using hp k i x hk) h1 (h2 E) hcs
        refine .ok hE ⟨.agg out, run_build E.w t vparts out (by rw [h3]; exact o1), .agg o2 fun j c hj => ?_⟩
        obtain ⟨y, hy, hr⟩ := o3 j c hj
        simp only [Array.getD_eq_getD_getElem?, hy, Option.getD_some]
        exact hr
      · exact .bad
    · exact .bad
  · exact .bad

theorem fillR_ok {E : Env} {s n : Nat} (hs0 : 0 < s) : ∀ {parts : List (Nat × V)} {vparts : List (Nat × Value)} {rows out : List (List C)} {va : Array Value},
    parts.length = vparts.length → (∀ (k : Nat) (i : Nat) (x : V), parts[k]? = some (i, x) → ∃ v, vparts[k]? = some (i, v) ∧ VRel E x v) →
    va.size = n * s → rows.length = n → (∀ r ∈ rows, r.length = s) → (∀ i j c, at2 rows i j = some c → ∃ y, va[i * s + j]? = some y ∧ CRel E c y) → fillR s rows parts = some out →
    ∃ vo, Instr.fill (fun i => some (i * s, s)) va vparts = some vo ∧ vo.size = n * s ∧ out.length = n ∧ (∀ r ∈ out, r.length = s) ∧ ∀ i j c, at2 out i j = some c → ∃ y, vo[i * s + j]? = some y ∧ CRel E c y
  | [], vparts, rows, out, va, hl, hp, hs, hn, hrs, hr, h => by
    have : vparts = [] := List.eq_nil_of_length_eq_zero (by simpa using hl.symm)
    subst this
    simp [fillR] at h
    subst h
    exact ⟨va, rfl, hs, hn, hrs, hr⟩
  | (i, x) :: rest, vparts, rows, out, va, hl, hp, hs, hn, hrs, hr, h => by
    obtain ⟨v, hv, hx⟩ := hp 0 i x rfl
    cases vparts with
    | nil => simp at hv
    | cons p vrest =>
      simp at hv
      subst hv
      simp only [fillR] at h
      cases hxc : x.cs with
      | none => simp [hxc] at h
      | some c0 =>
        simp only [hxc] at h
        split at h
        · cases h
        · rename_i hcond
          obtain ⟨q1, q2⟩ := hx.cells hxc
          have hc1 : c0.length = s := Classical.byContradiction fun h => hcond (.inl h)
          have hc2 : i < rows.length := Nat.lt_of_not_le fun h => hcond (.inr h)
          have hb : i * s + s ≤ n * s := by have := Nat.mul_le_mul_right s (show i + 1 ≤ n by omega); rw [Nat.succ_mul] at this; exact this
          have hfold : v.cells.zipIdx.foldl (fun cs (x : Value × Nat) => cs.setIfInBounds (i * s + x.2) x.1) va = (v.cells.toList.zipIdx 0).foldl (fun cs (x : Value × Nat) => cs.setIfInBounds (i * s + x.2) x.1) va := by
            rw [← Array.foldl_toList]; simp
          obtain ⟨f1, f2⟩ := Great.foldl_set (i * s) v.cells.toList 0 va
          have ih := fillR_ok (E := E) (s := s) (n := n) hs0 (parts := rest) (vparts := vrest) (rows := rows.set i c0) (out := out)
            (va := v.cells.zipIdx.foldl (fun cs (x : Value × Nat) => cs.setIfInBounds (i * s + x.2) x.1) va) (by simpa using hl)
            (fun k i x hk => by simpa using hp (k + 1) i x (by simpa using hk)) (by rw [hfold, f1, hs]) (by simpa using hn)
            (fun r hr => by rcases List.mem_or_eq_of_mem_set hr with h | h; exact hrs r h; rw [h]; exact hc1)
            (fun i' j c hij => by
              obtain ⟨r, hr', hj⟩ := at2_some.1 hij
              rw [List.getElem?_set] at hr'
              rw [hfold, f2]
              simp only [Nat.add_zero, Array.length_toList, q1, hc1]
              split at hr'
              · rename_i e
                subst e
                cases hr'
                have hjs : j < s := by have := (List.getElem?_eq_some_iff.1 hj).1; omega
                rw [if_pos (by omega), Nat.add_sub_cancel_left]
                simpa using q2 j c hj
              · rename_i e
                have hjs : j < s := by have := (List.getElem?_eq_some_iff.1 hj).1; rw [hrs r (List.mem_of_getElem? hr')] at this; exact this
                rw [if_neg ?_]
                · exact hr i' j c (at2_some.2 ⟨r, hr', hj⟩)
                · rcases Nat.lt_or_gt_of_ne e with h | h
                  · have := Nat.mul_le_mul_right s h; rw [Nat.succ_mul] at this; omega
                  · have := Nat.mul_le_mul_right s h; rw [Nat.succ_mul] at this; omega) h
          obtain ⟨vo, o1, o2⟩ := ih
          refine ⟨vo, ?_, o2⟩
          simp only [Instr.fill]
          rw [if_neg (by simp [q1, hc1]; omega)]
          exact o1

theorem buildSliceF_ok {own : Bool} {P : Program} {E : Env} (hE : HRel E) {t : TypeId} {n : Nat} {parts : List (Nat × V)} {vparts : Array (Nat × Value)} (hl : parts.length = vparts.size)
    (hp : ∀ (k : Nat) (i : Nat) (x : V), parts[k]? = some (i, x) → ∃ v, vparts[k]? = some (i, v) ∧ VRel E x v) : Good P E (Instr.buildSlice t n vparts) (buildSliceF P own t n parts E.H) := by
  unfold buildSliceF
  split
  · rename_i e s b ht
    split
    · rename_i z hz
      split
      · rename_i zs hzs
        split
        · rename_i rows hrows
          have main : n * s ≤ 16777216 ∧ 0 < n * s ∧ zs.length = s ∧ n ≤ lim → ∃ (w' : World) (e' : TypeId) (vo : Array Value), (Instr.buildSlice t n vparts).run P E.w = .ok (.slice (some ⟨E.w.heap.size, 0, none⟩) n n) w' ∧ w' = E.w.alloc (.cells vo e') ∧ vo.size = n * s ∧ rows.length = n ∧ (∀ r ∈ rows, r.length = s) ∧ ∀ i j c, at2 rows i j = some c → ∃ y, vo[i * s + j]? = some y ∧ CRel E c y := by
            rintro ⟨g1, g2, g3, g4⟩
            obtain ⟨ie, hu, hie, hs, hb⟩ := tSl_spec ht
            obtain ⟨i, zv, hi, hzv, hzsz, hzrel⟩ := vs_zero (P := P) (E := E) hz hzs
            rw [hie] at hi; cases hi
            have hs0 : 0 < s := Nat.pos_of_ne_zero (fun h => by simp [h] at g2)
            have hrep := repl_rel (E := E) hzsz (hzrel E) n n (Nat.le_refl _)
            rw [g3] at hrep
            obtain ⟨vo, o1, o2, o3, o4, o5⟩ := fillR_ok (E := E) (s := s) (n := n) hs0 (vparts := vparts.toList) (va := madeCells zv.cells (n * s)) (rows := List.replicate n zs) (by simpa using hl)
              (fun k i x hk => by simpa using hp k i x hk) (size_madeCells _ _) (by simp) (fun r hr => by rw [List.eq_of_mem_replicate hr, g3]) hrep hrows
            have hrun := run_buildSlice (P := P) E.w t e n vparts vo ie zv hu hie hzv (by rw [hs]; omega) (by rw [hs]; omega) (by rw [hs]; exact o1)
            exact ⟨_, e, vo, hrun, rfl, o2, o3, o4, o5⟩
          split
          · rename_i hpl
            rintro hpre
            obtain ⟨w', e', vo, hrun, hw, o2, o3, o4, o5⟩ := main hpre
            obtain ⟨g1, g2, g3, g4⟩ := hpre
            obtain ⟨tr, hh⟩ := grow_world hE w' (by rw [hw]; simp) (by rw [hw]; rfl) (by rw [hw]; rfl) (by rw [hw]; rfl) (fun b hb => by rw [hw]; exact heap_alloc_old E.w _ b hb)
            refine ⟨trivial, _, ⟨w', E.Fr, E.bd, E.H⟩, hrun, rfl, ?_, hh, tr⟩
            have hlen : (unfRows rows).length = n := by simp [unfRows, o3]
            have key : ∀ i j c, at2 (unfRows rows) i j = some c → ∃ c0, at2 rows i j = some c0 ∧ c = c0.unf := by
              intro i j c hij
              obtain ⟨r, hr, hj⟩ := at2_some.1 hij
              simp only [unfRows, List.getElem?_map, Option.map_eq_some_iff] at hr
              obtain ⟨r0, hr0, rfl⟩ := hr
              simp only [List.getElem?_map, Option.map_eq_some_iff] at hj
              obtain ⟨c0, hc0, rfl⟩ := hj
              exact ⟨c0, at2_some.2 ⟨r0, hr0, hc0⟩, rfl⟩
            have fnx : ∀ i j, ∃ y, ∀ c, at2 (unfRows rows) i j = some c → vo[i * s + j]? = some y ∧ CRel ⟨w', E.Fr, E.bd, E.H⟩ c y := by
              intro i j
              cases hc : at2 (unfRows rows) i j with
              | none => exact ⟨undef, by simp⟩
              | some c =>
                obtain ⟨c0, hc0, rfl⟩ := key i j c hc
                obtain ⟨y, hy, hr⟩ := o5 _ _ _ hc0
                have hr2 := hr.trans tr
                refine ⟨y, fun c' e => ?_⟩
                cases e
                refine ⟨hy, ?_⟩
                cases c0 with
                | slf rs => exact (slf_inv hr2).1
                | _ => exact hr2
            refine .one (.slf (.sl (fun i j => Classical.choose (fnx i j)) s hlen.symm (by omega) (by omega) ?_ (fun _ => ⟨E.w.heap.size, 0, rfl, ⟨by rw [hw]; simp, fun hf => ?_, fun ho => ?_⟩, fun i j c hij => ?_⟩) (fun i j c hij => (Classical.choose_spec (fnx i j) c hij).2)) ⟨_, by rw [hlen]⟩)
            · intro r hr
              obtain ⟨r0, hr0, rfl⟩ := List.mem_map.1 hr
              rw [List.length_map]; exact o4 r0 hr0
            · have := hE.frlt _ hf; omega
            · have h1 : E.own E.w.heap.size := by
                obtain ⟨i, y, q1, q2, q3⟩ := ho
                exact ⟨i, y, q1, (live_bd (E := E) (E' := ⟨w', E.Fr, E.bd, E.H⟩) rfl).1 q2, q3⟩
              have := hE.own_lt h1; omega
            · have hcell : ∀ y, vo[i * s + j]? = some y → w'.cell? ⟨E.w.heap.size, 0 + (i * s + j), none⟩ = some y := by
                intro y hy
                rw [hw]
                simp only [World.cell?, heap_alloc_new E.w]
                simpa using hy
              exact hcell _ (Classical.choose_spec (fnx i j) c hij).1
          rintro ⟨g1, g2, g3, g4⟩
          refine ⟨trivial, ?_⟩
          obtain ⟨ie, hu, hie, hs, hb⟩ := tSl_spec ht
          obtain ⟨i, zv, hi, hzv, hzsz, hzrel⟩ := vs_zero (P := P) (E := E) hz hzs
          rw [hie] at hi; cases hi
          have hs0 : 0 < s := Nat.pos_of_ne_zero (fun h => by simp [h] at g2)
          have hrep := repl_rel (E := E) hzsz (hzrel E) n n (Nat.le_refl _)
          rw [g3] at hrep
          obtain ⟨vo, o1, o2, o3, o4, o5⟩ := fillR_ok (E := E) (s := s) (n := n) hs0 (vparts := vparts.toList) (va := madeCells zv.cells (n * s)) (rows := List.replicate n zs) (by simpa using hl)
            (fun k i x hk => by simpa using hp k i x hk) (size_madeCells _ _) (by simp) (fun r hr => by rw [List.eq_of_mem_replicate hr, g3]) hrep hrows
          have hrun := run_buildSlice (P := P) E.w t e n vparts vo ie zv hu hie hzv (by rw [hs]; omega) (by rw [hs]; omega) (by rw [hs]; exact o1)
          obtain ⟨E', hw, hH, hv, hh, tr⟩ := new_rows hE (w1 := E.w) rfl rfl rfl rfl (fun _ _ => rfl) (arr := vo) (ty := e) (s := s) (n := n) (cap := n) (rows := rows) o3 (Nat.le_refl _) (by omega) g4 o4 o5
          exact ⟨_, E', by rw [hw]; exact hrun, hH, hv, hh, tr⟩
        · exact .bad
      · exact .bad
    · exact .bad
  · exact .bad

theorem pickF_ok {P : Program} {E : Env} (hE : HRel E) {c x y : V} {vc vx vy : Value} (hc : VRel E c vc) (hx : VRel E x vx) (hy : VRel E y vy) :
    Good P E (do pure (if ← asBool vc then vx else vy)) (pickF c x y E.H) := by
  unfold pickF
  split
  · have h1 := bool_inv (one_inv hc); have h2 := bool_inv (one_inv hx); have h3 := bool_inv (one_inv hy)
    subst h1; subst h2; subst h3
    rename_i c x y
    refine .ok hE ⟨_, by simp [asBool]; rfl, ?_⟩
    cases c <;> exact .one .bool
  · have h1 := bool_inv (one_inv hc); subst h1
    exact .ok hE ⟨vx, by simp [asBool], hx⟩
  · have h1 := bool_inv (one_inv hc); subst h1
    exact .ok hE ⟨vy, by simp [asBool], hy⟩
  · exact .bad

theorem onesOf_ok {E : Env} : ∀ {xs : List V} {vs : List Value} {cs : List C}, xs.length = vs.length → (∀ (j : Nat) (x : V), xs[j]? = some x → ∃ v, vs[j]? = some v ∧ VRel E x v) → onesOf xs = some cs →
    vs.length = cs.length ∧ ∀ (j : Nat) (c : C), cs[j]? = some c → ∃ v, vs[j]? = some v ∧ CRel E c v
  | [], vs, cs, hl, h, ho => by simp [onesOf] at ho; subst ho; simp at hl; simp [hl.symm]
  | x :: xs, vs, cs, hl, h, ho => by
    obtain ⟨v, hv, hx⟩ := h 0 x rfl
    cases vs with
    | nil => simp at hl
    | cons v0 vs =>
      simp at hv; subst hv
      cases x with
      | one c =>
        simp only [onesOf] at ho
        split at ho
        · rename_i cs' hcs
          cases ho
          obtain ⟨h1, h2⟩ := onesOf_ok (E := E) (xs := xs) (vs := vs) (by simpa using hl) (fun j x hj => by simpa using h (j + 1) x (by simpa using hj)) hcs
          refine ⟨by simp [h1], fun j c' hj => ?_⟩
          cases j with
          | zero => simp at hj; subst hj; exact ⟨v0, rfl, one_inv hx⟩
          | succ j => simpa using h2 j c' (by simpa using hj)
        · cases ho
      | agg cs => simp [onesOf] at ho
      | tup vs => simp [onesOf] at ho
      | un => simp [onesOf] at ho

theorem makeFuncF_ok {P : Program} {E : Env} (hE : HRel E) {f : FuncId} {xs : List V} {vs : Array Value} {cs : List C} (hl : xs.length = vs.size) (h : ∀ (j : Nat) (x : V), xs[j]? = some x → ∃ v, vs[j]? = some v ∧ VRel E x v) (ho : onesOf xs = some cs) :
    Good P E (Instr.makeFunc (.func f) #[] vs) (.ok (.one (.fn f cs)) E.H) := by
  obtain ⟨h1, h2⟩ := onesOf_ok (E := E) (vs := vs.toList) (by simpa using hl) (fun j x hj => by simpa using h j x hj) ho
  refine .ok hE ⟨_, rfl, .one (.fn (by simpa using h1) fun j c hj => ?_)⟩
  obtain ⟨v, hv, hr⟩ := h2 j c hj
  have : vs[j]? = some v := by simpa using hv
  simp only [Array.getD_eq_getD_getElem?, this, Option.getD_some]
  exact hr

theorem tAg_con {P : Program} {t : TypeId} {n : Nat} (h : tAg P t = some (true, n)) : (∃ fs, P.underlying t = some (.struct fs)) ∨ ∃ k e, P.underlying t = some (.array k e) := by
  unfold tAg at h
  split at h
  · rename_i fs i hu hi; exact .inl ⟨fs, hu⟩
  · rename_i k e i hu hi; exact .inr ⟨k, e, hu⟩
  · simp at h
  · cases h
theorem makeIfF_ok {P : Program} {E : Env} (hE : HRel E) {t : TypeId} {x : V} {v : Value} (hx : VRel E x v) : Good P E (Instr.makeInterface t v) (makeIfF P t x E.H) := by
  unfold makeIfF
  split
  · rename_i n cs ht
    cases hx with
    | agg hn hv =>
      refine .ok hE ⟨_, ?_, .one (.ifc hn hv)⟩
      rcases tAg_con ht with ⟨fs, hu⟩ | ⟨k, e, hu⟩ <;> simp [Instr.makeInterface, run_underlying hu]
  · exact fun hp => hp.elim
theorem noIfF_ok {P : Program} {E : Env} (hE : HRel E) {a : TypeId} {ok : Bool} {s : Sem Value} (h : ok = true → s.run P E.w = (do pure (.tuple #[← zeroValue a, .bool false]) : Sem Value).run P E.w) : Good P E s (noIfF P a ok E.H) := by
  unfold noIfF
  split
  · rename_i z hz
    obtain ⟨iz, zv, hi1, hzv, rfl⟩ := tZ_spec hz
    refine .ok hE ⟨.tuple #[zv, .bool false], ?_, .tup (by simp) fun j x hj => ?_⟩
    · rw [h rfl]
      simp only [zeroValue, typeInfo, Sem.run_bind, run_program, Result.andThen_ok, hi1, Sem.run_pure, hzv]
    · match j with
      | 0 => simp at hj; subst hj; exact V.ofV_rel E zv
      | 1 => simp at hj; subst hj; exact .one .bool
      | j + 2 => simp at hj
  · exact fun hp => hp.elim
theorem isIfF_ok {P : Program} {E : Env} (hE : HRel E) {ok : Bool} {cs : List C} {vs : Array Value} {s : Sem Value} (hn : vs.size = cs.length) (hv : ∀ j c, cs[j]? = some c → CRel E c (vs.getD j undef)) (h : s.run P E.w = .ok (if ok then .tuple #[.agg vs, .bool true] else .agg vs) E.w) : Good P E s (isIfF ok cs E.H) := by
  unfold isIfF
  refine .ok hE ⟨_, h, ?_⟩
  cases ok with
  | true =>
    refine .tup (by simp) fun j x hj => ?_
    match j with
    | 0 => simp at hj; subst hj; exact .agg hn hv
    | 1 => simp at hj; subst hj; exact .one .bool
    | j + 2 => simp at hj
  | false => exact .agg hn hv
theorem typeAssertF_ok {P : Program} {E : Env} (hE : HRel E) {xt a : TypeId} {ok : Bool} {x : V} {v : Value} (hx : VRel E x v) : Good P E (Instr.typeAssert v xt a ok) (typeAssertF P x a ok E.H) := by
  unfold typeAssertF
  split
  · rename_i n t cs ha
    cases one_inv hx with
    | ifc hn hv =>
      by_cases e : t = a
      · rw [if_pos e]
        refine isIfF_ok hE hn hv ?_
        rcases tAg_con ha with ⟨fs, hu⟩ | ⟨k, el, hu⟩ <;> simp [Instr.typeAssert, run_underlying hu, e]
      · rw [if_neg e]
        refine noIfF_ok hE fun ho => ?_
        rcases tAg_con ha with ⟨fs, hu⟩ | ⟨k, el, hu⟩ <;> simp [Instr.typeAssert, run_underlying hu, e, ho]
  · rename_i n ha
    cases one_inv hx
    refine noIfF_ok hE fun ho => ?_
    rcases tAg_con ha with ⟨fs, hu⟩ | ⟨k, el, hu⟩ <;> simp [Instr.typeAssert, run_underlying hu, ho]
  · exact fun hp => hp.elim

theorem makeMapF_ok {P : Program} {E : Env} (hE : HRel E) {t : TypeId} : Good P E (Instr.makeMap t none) (.ok (.one (.mp E.H.length)) (E.H ++ [.map []])) := by
  intro _
  refine ⟨trivial, ?_⟩
  obtain ⟨tr, hh⟩ := new_obj hE (E.w.alloc (.map #[] 0)) ⟨E.w.heap.size, 0, 0⟩ (.map []) (by simp) rfl rfl rfl (fun b hb => heap_alloc_old E.w _ b hb) _ rfl (fun _ => by simp)
  refine ⟨.map (some E.w.heap.size), _, by simp [Instr.makeMap], rfl, ?_, hh ?_, tr⟩
  · refine .one (.mp (by simp) rfl fun es ho => ?_)
    simp
  · refine ⟨#[], 0, ?_, rfl, by simp⟩
    simp only [if_true]; exact heap_alloc_new E.w _

theorem extractF_ok {P : Program} {E : Env} (hE : HRel E) {xs : List V} {v : Value} {i : Nat} {x : V} (hx : VRel E (.tup xs) v) (hi : xs[i]? = some x) : Good P E (Instr.extract v i) (.ok x E.H) := by
  cases hx with
  | @tup _ vs hn h =>
    have hlt : i < vs.size := by have := (List.getElem?_eq_some_iff.1 hi).1; omega
    refine .ok hE ⟨vs[i], by simp [Instr.extract, hlt], ?_⟩
    simpa [Array.getD_eq_getD_getElem?, hlt] using h i x hi

theorem max_in {k : IntKind} {a b : Int} (ha : k.min ≤ a ∧ a ≤ k.max) (hb : k.min ≤ b ∧ b ≤ k.max) (c : Prop) [Decidable c] : k.min ≤ (if c then b else a) ∧ (if c then b else a) ≤ k.max := by
  split <;> assumption

theorem biF_ok {P : Program} {E : Env} (hE : HRel E) {b : Builtin} {ts : Array TypeId} {ty : TypeId} {xs : List V} {vs : Array Value} {consts : Array Bool} (hl : xs.length = vs.size) (h : ∀ (j : Nat) (x : V), xs[j]? = some x → ∃ v, vs[j]? = some v ∧ VRel E x v)
    (hp : (biF P b ts xs E.H).pre) : ∃ s : Sem Value, Good P E s (biF P b ts xs E.H) ∧ builtin b ts ty consts vs = (do pure (.value (← s))) := by
  unfold biF at hp ⊢
  split at hp
  · rename_i x
    obtain ⟨v, hv, hx⟩ := h 0 x rfl
    have : vs = #[v] := by apply Array.ext'; cases vs with | mk l => cases l with | nil => simp at hl | cons a r => simp at hl hv; simp [hl, hv]
    subst this
    split at hp
    · rename_i t ht
      exact ⟨_, lenF_ok hE hx ty ts ht, rfl⟩
    · exact hp.elim
  · rename_i x y
    obtain ⟨v, hv, hx⟩ := h 0 x rfl
    obtain ⟨u, hu, hy⟩ := h 1 y rfl
    have : vs = #[v, u] := by
      apply Array.ext'; cases vs with | mk l => cases l with | nil => simp at hl | cons a r => cases r with | nil => simp at hl | cons a' r' => simp at hl hv hu; simp [hl, hv, hu]
    subst this
    exact ⟨_, appendF_ok hE hx hy, rfl⟩
  · rename_i x y
    obtain ⟨v, hv, hx⟩ := h 0 x rfl
    obtain ⟨u, hu, hy⟩ := h 1 y rfl
    have : vs = #[v, u] := by
      apply Array.ext'; cases vs with | mk l => cases l with | nil => simp at hl | cons a r => cases r with | nil => simp at hl | cons a' r' => simp at hl hv hu; simp [hl, hv, hu]
    subst this
    exact ⟨_, copyF_ok hE hx hy, rfl⟩
  · rename_i x
    obtain ⟨v, hv, hx⟩ := h 0 x rfl
    have : vs = #[v] := by apply Array.ext'; cases vs with | mk l => cases l with | nil => simp at hl | cons a r => simp at hl hv; simp [hl, hv]
    subst this
    exact ⟨_, clearF_ok hE hx, rfl⟩
  · rename_i k a k' b
    obtain ⟨v, hv, hx⟩ := h 0 _ rfl
    obtain ⟨u, hu, hy⟩ := h 1 _ rfl
    have : vs = #[v, u] := by
      apply Array.ext'; cases vs with | mk l => cases l with | nil => simp at hl | cons a r => cases r with | nil => simp at hl | cons a' r' => simp at hl hv hu; simp [hl, hv, hu]
    subst this
    obtain ⟨rfl, h1⟩ := int_inv (one_inv hx)
    obtain ⟨rfl, h2⟩ := int_inv (one_inv hy)
    split at hp
    · rename_i e
      subst e
      exact ⟨Builtin.max_ ts ty #[.int k a, .int k b], by rw [if_pos rfl]; exact .ok hE ⟨_, run_max_int2 E.w ts ty k k a b, .one (.int (max_in h1 h2 _))⟩, rfl⟩
    · exact hp.elim
  · rename_i k a k' b
    obtain ⟨v, hv, hx⟩ := h 0 _ rfl
    obtain ⟨u, hu, hy⟩ := h 1 _ rfl
    have : vs = #[v, u] := by
      apply Array.ext'; cases vs with | mk l => cases l with | nil => simp at hl | cons a r => cases r with | nil => simp at hl | cons a' r' => simp at hl hv hu; simp [hl, hv, hu]
    subst this
    obtain ⟨rfl, h1⟩ := int_inv (one_inv hx)
    obtain ⟨rfl, h2⟩ := int_inv (one_inv hy)
    split at hp
    · rename_i e
      subst e
      exact ⟨Builtin.min_ ts ty #[.int k a, .int k b], by rw [if_pos rfl]; exact .ok hE ⟨_, run_min_int2 E.w ts ty k k a b, .one (.int (max_in h1 h2 _))⟩, rfl⟩
    · exact hp.elim
  · exact hp.elim

theorem biZ_ok {P : Program} {E : Env} (hE : HRel E) {z : Bool} {b : Builtin} {ts : Array TypeId} {ty : TypeId} {xs : List V} {vs : Array Value} {consts : Array Bool} (hl : xs.length = vs.size) (h : ∀ (j : Nat) (x : V), xs[j]? = some x → ∃ v, vs[j]? = some v ∧ VRel E x v)
    (hp : (biZ P z b ts xs E.H).pre) : ∃ s : Sem Value, Good P E s (biZ P z b ts xs E.H) ∧ builtin b ts ty consts vs = (do pure (.value (← s))) := by
  unfold biZ at hp ⊢
  cases z with
  | false => exact biF_ok hE hl h hp
  | true =>
    simp only at hp ⊢
    split at hp
    · rename_i x y
      obtain ⟨v, hv, hx⟩ := h 0 x rfl
      obtain ⟨u, hu, hy⟩ := h 1 y rfl
      have : vs = #[v, u] := by
        apply Array.ext'; cases vs with | mk l => cases l with | nil => simp at hl | cons a r => cases r with | nil => simp at hl | cons a' r' => simp at hl hv hu; simp [hl, hv, hu]
      subst this
      exact ⟨_, appendZ_ok hE hx hy, rfl⟩
    · exact hp.elim

/-! ### Maps. -/
open Go.MapKept (IsKey run_checkKey run_findKey heap_set bytes_beq)
def kdD : Option IntKind → TypeDesc
  | none => .string
  | some q => .int q
theorem tMp_spec {P : Program} {t k e : TypeId} {kd : Option IntKind} (h : tMp P t = some (k, kd, e)) :
    P.underlying t = some (.map k e) ∧ P.underlying k = some (kdD kd) := by
  unfold tMp at h
  split at h
  · rename_i hu
    split at h
    · rename_i hk; cases h; exact ⟨hu, hk⟩
    · rename_i hk; cases h; exact ⟨hu, hk⟩
    · cases h
  · cases h
theorem key_now {E : Env} {kd : Option IntKind} {a b : C} {va vb : Value} (ha : CRel E a va) (hb : CRel E b vb) (hk : keyB kd a = true) {r : Bool} (h : keyEq a b = some r) :
    Instr.sameNow (kdD kd) va vb = some r := by
  cases a <;> cases b <;> simp only [keyEq] at h <;> try (cases h; done)
  · obtain ⟨rfl, _⟩ := int_inv ha
    obtain ⟨rfl, _⟩ := int_inv hb
    cases kd with
    | none => simp [keyB] at hk
    | some q =>
      split at h
      · rename_i e; subst e; cases h; simp only [kdD, Instr.sameNow, if_true, Option.some.injEq]; exact beq_dec (α := Int) _ _
      · cases h
  · obtain ⟨x, rfl, h1, _⟩ := str_inv ha
    obtain ⟨y, rfl, h2, _⟩ := str_inv hb
    cases kd with
    | some q => simp [keyB] at hk
    | none =>
      cases h
      simp only [kdD, Instr.sameNow, Option.some.injEq]
      subst h1; subst h2
      rw [Bool.eq_iff_iff, decide_eq_true_eq, bytes_beq]
      constructor
      · intro hh; rw [hh]
      · intro hh
        cases x with | mk x => cases y with | mk y =>
        have : x = y := by simpa using hh
        rw [this]
theorem same_bits {E : Env} {kd : Option IntKind} {a b : C} {va vb : Value} (ha : CRel E a va) (hb : CRel E b vb) (h : keyEq a b = some true) : Instr.sameBits 10000 vb va = true := by
  cases a <;> cases b <;> simp only [keyEq] at h <;> try (cases h; done)
  · obtain ⟨rfl, _⟩ := int_inv ha
    obtain ⟨rfl, _⟩ := int_inv hb
    split at h
    · rename_i e; subst e
      simp at h; subst h
      simp [Instr.sameBits]
    · cases h
  · obtain ⟨x, rfl, h1, _⟩ := str_inv ha
    obtain ⟨y, rfl, h2, _⟩ := str_inv hb
    simp at h
    have : x = y := by
      cases x with | mk x => cases y with | mk y =>
      have : x = y := by subst h1; subst h2; simpa using h
      rw [this]
    subst this
    exact (bytes_beq x x).2 rfl
theorem mfind_now {E : Env} {kd : Option IntKind} {a : C} {va : Value} (ha : CRel E a va) (hk : keyB kd a = true) : ∀ {es : List (C × C)} {l : List MapEntry} (i : Nat) {r : Option C}, l.length = es.length →
    (∀ (j : Nat) (k x : C), es[j]? = some (k, x) → ∃ e : MapEntry, l[j]? = some e ∧ CRel E k e.key ∧ CRel E x e.val) → mfind a es = some r →
    (r = none ∧ Instr.findNow (kdD kd) va l i = some none) ∨
    (∃ x v j, r = some x ∧ CRel E x v ∧ Instr.findNow (kdD kd) va l i = some (some (i + j, v)))
  | [], l, i, r, hl, he, h => by
    have : l = [] := List.eq_nil_of_length_eq_zero hl
    subst this
    simp [mfind] at h; subst h
    exact .inl ⟨rfl, rfl⟩
  | (k', v') :: es, l, i, r, hl, he, h => by
    obtain ⟨e, he0, h1, h2⟩ := he 0 k' v' rfl
    cases l with
    | nil => simp at he0
    | cons e0 l =>
      simp at he0; subst he0
      simp only [mfind] at h
      cases hq : keyEq a k' with
      | none => simp [hq] at h
      | some q =>
        have hn := key_now ha h1 hk hq
        cases q with
        | true =>
          simp [hq] at h; subst h
          exact .inr ⟨v', e0.val, 0, rfl, h2, by simp [Instr.findNow, hn]⟩
        | false =>
          simp only [hq] at h
          rcases mfind_now ha hk (i + 1) (es := es) (l := l) (by simpa using hl) (fun j k x hj => by simpa using he (j + 1) k x (by simpa using hj)) h with ⟨h3, h4⟩ | ⟨x, v, j, h3, h4, h5⟩
          · exact .inl ⟨h3, by simp [Instr.findNow, hn, h4]⟩
          · exact .inr ⟨x, v, j + 1, h3, h4, by simp [Instr.findNow, hn, h5]; omega⟩
theorem mput_now {E : Env} {kd : Option IntKind} {a b : C} {va vb : Value} (ha : CRel E a va) (hb : CRel E b vb) (hk : keyB kd a = true) : ∀ {es es' : List (C × C)} {l : List MapEntry} (i : Nat), l.length = es.length →
    (∀ (j : Nat) (k x : C), es[j]? = some (k, x) → ∃ e : MapEntry, l[j]? = some e ∧ CRel E k e.key ∧ CRel E x e.val) → mput a b es = some es' →
    (Instr.findNow (kdD kd) va l i = some none ∧ es' = es ++ [(a, b)]) ∨
    (∃ j e k', Instr.findNow (kdD kd) va l i = some (some (i + j, e.val)) ∧ l[j]? = some e ∧ CRel E k' e.key ∧ keyEq a k' = some true ∧ es' = es.set j (a, b) ∧ j < es.length)
  | [], es', l, i, hl, he, h => by
    have : l = [] := List.eq_nil_of_length_eq_zero hl
    subst this
    simp [mput] at h; subst h
    exact .inl ⟨rfl, rfl⟩
  | (k', v') :: es, es', l, i, hl, he, h => by
    obtain ⟨e, he0, h1, h2⟩ := he 0 k' v' rfl
    cases l with
    | nil => simp at he0
    | cons e0 l =>
      simp at he0; subst he0
      simp only [mput] at h
      cases hq : keyEq a k' with
      | none => simp [hq] at h
      | some q =>
        have hn := key_now ha h1 hk hq
        cases q with
        | true =>
          simp [hq] at h; subst h
          exact .inr ⟨0, e0, k', by simp [Instr.findNow, hn], rfl, h1, hq, by simp, by simp⟩
        | false =>
          simp only [hq] at h
          cases hm : mput a b es with
          | none => simp [hm] at h
          | some l2 =>
            simp [hm] at h; subst h
            rcases mput_now ha hb hk (i + 1) (es := es) (l := l) (by simpa using hl) (fun j k x hj => by simpa using he (j + 1) k x (by simpa using hj)) hm with ⟨h3, h4⟩ | ⟨j, e, k2, h3, h4, h5, h6, h7, h8⟩
            · exact .inl ⟨by simp [Instr.findNow, hn, h3], by simp [h4]⟩
            · exact .inr ⟨j + 1, e, k2, by simp [Instr.findNow, hn, h3]; omega, by simpa using h4, h5, h6, by simp [h7], by simp; omega⟩
theorem key_is {E : Env} {kd : Option IntKind} {a : C} {va : Value} (ha : CRel E a va) (hk : keyB kd a = true) : IsKey (kdD kd) va := by
  cases a <;> simp only [keyB] at hk <;> try (cases hk; done)
  · obtain ⟨rfl, _⟩ := int_inv ha
    cases kd with
    | none => cases hk
    | some q => simp at hk; simp [kdD, IsKey, hk]
  · obtain ⟨x, rfl, h1, _⟩ := str_inv ha
    cases kd with
    | some q => cases hk
    | none => simp [kdD, IsKey]

theorem lookupF_ok {P : Program} {E : Env} (hE : HRel E) {t : TypeId} {m k : V} {vm vk : Value} {ok : Bool} (hm : VRel E m vm) (hk : VRel E k vk) : Good P E (Instr.lookup t vm vk ok) (lookupF P t m k ok E.H) := by
  unfold lookupF lookR
  split
  case h_2 => exact .bad
  rename_i kt kd e id kc ht
  split
  case h_2 => exact .bad
  rename_i es z ho hz hkb
  obtain ⟨hu, hku⟩ := tMp_spec ht
  obtain ⟨iz, zv, hiz, hzv, hzz⟩ := tZ_spec hz
  have hmv : vm = .map (some (E.bd id).blk) := by
    cases one_inv hm with
    | mp hid hc h => exact h es ho
  subst hmv
  obtain ⟨ents, clock, hb, hsz, hent⟩ := hE.obj id _ ho
  have hkr := one_inv hk
  have hzrel : VRel E (.one z) zv := by rw [hzz]; exact V.ofV_rel E zv
  have hzero : (zeroValue e).run P E.w = .ok zv E.w := by simp [zeroValue, typeInfo, hiz, hzv]
  have hchk := run_checkKey (P := P) (w := E.w) hku (key_is hkr hkb) ents.isEmpty 9999
  split
  · rename_i v hf
    rcases mfind_now hkr hkb (l := ents.toList) 0 (by simpa using hsz) (fun j k x hj => by simpa using hent j k x hj) hf with ⟨h1, _⟩ | ⟨x, v', j, h1, h2, h3⟩
    · cases h1
    · cases h1
      have hfk := run_findKey (P := P) (w := E.w) hku h3
      split
      · exact .ok hE ⟨.tuple #[v', .bool true], by simp [Instr.lookup, run_underlying hu, Go.MapKept.run_getObj_map hb, hchk, hfk], .tup rfl (fun j x hj => by
          match j, hj with
          | 0, hj => simp at hj; subst hj; exact .one h2
          | 1, hj => simp at hj; subst hj; exact .one .bool)⟩
      · exact .ok hE ⟨v', by simp [Instr.lookup, run_underlying hu, Go.MapKept.run_getObj_map hb, hchk, hfk], .one h2⟩
  · rename_i hf
    rcases mfind_now hkr hkb (l := ents.toList) 0 (by simpa using hsz) (fun j k x hj => by simpa using hent j k x hj) hf with ⟨_, h2⟩ | ⟨x, v', j, h1, h2, h3⟩
    · have hfk := run_findKey (P := P) (w := E.w) hku h2
      split
      · exact .ok hE ⟨.tuple #[zv, .bool false], by simp [Instr.lookup, run_underlying hu, Go.MapKept.run_getObj_map hb, hchk, hfk, hzero], .tup rfl (fun j x hj => by
          match j, hj with
          | 0, hj => simp at hj; subst hj; exact hzrel
          | 1, hj => simp at hj; subst hj; exact .one .bool)⟩
      · exact .ok hE ⟨zv, by simp [Instr.lookup, run_underlying hu, Go.MapKept.run_getObj_map hb, hchk, hfk, hzero], hzrel⟩
    · cases h1
  · exact .bad

theorem mapPutF_ok {P : Program} {E : Env} (hE : HRel E) {t : TypeId} {m k v : V} {vm vk vv : Value} (hm : VRel E m vm) (hk : VRel E k vk) (hv : VRel E v vv) : GoodU P E (Instr.mapUpdate t vm vk vv) (mapPutF P t m k v E.H) := by
  unfold mapPutF
  split
  case h_2 => exact .bad
  rename_i kt kd e id kc vc ht
  split
  case h_2 => exact .bad
  rename_i es ho hkb
  split
  case h_2 => exact .bad
  rename_i es' hput
  rintro -
  refine ⟨trivial, rfl, ?_⟩
  obtain ⟨hu, hku⟩ := tMp_spec ht
  have hmv : vm = .map (some (E.bd id).blk) := by
    cases one_inv hm with
    | mp hid hc h => exact h es ho
  subst hmv
  obtain ⟨ents, clock, hb, hsz, hent⟩ := hE.obj id _ ho
  have hkr := one_inv hk
  have hvr := one_inv hv
  have hchk := run_checkKey (P := P) (w := E.w) hku (key_is hkr hkb) false 9999
  have hlive : E.live id (.map es) := trivial
  -- what becomes of the object
  have fin : ∀ (ents' : Array MapEntry) (clock' : Nat), ents'.size = es'.length →
      (∀ (E' : Env), Trans E E' → ∀ (i : Nat) (k x : C), es'[i]? = some (k, x) → ∃ e : MapEntry, ents'[i]? = some e ∧ CRel E' k e.key ∧ CRel E' x e.val) →
      (Instr.mapUpdate t (.map (some (E.bd id).blk)) vk vv).run P E.w = .ok () { E.w with heap := E.w.heap.setIfInBounds (E.bd id).blk (.map ents' clock') } →
      ∃ E', (Instr.mapUpdate t (.map (some (E.bd id).blk)) vk vv).run P E.w = .ok () E'.w ∧ E'.H = E.H.set id (.map es') ∧ HRel E' ∧ Trans E E' := by
    intro ents' clock' h1 h2 h3
    obtain ⟨g1, g2⟩ := heap_set (o' := .map ents' clock') hb
    obtain ⟨tr, hh⟩ := upd_obj hE id (.map es) (.map es') { E.w with heap := E.w.heap.setIfInBounds (E.bd id).blk (.map ents' clock') } (E.bd id) ho (by simp) rfl rfl rfl
      (fun b _ hne => g2 b (hne hlive)) (fun _ _ _ e => by cases e) (fun es2 e => ⟨es, rfl, rfl⟩) _ rfl (fun _ => .inl ⟨hlive, rfl⟩)
    refine ⟨_, h3, rfl, hh ?_, tr⟩
    refine ⟨ents', clock', ?_, h1, fun i k x hi => h2 _ tr i k x hi⟩
    simp only [if_true]; exact g1
  rcases mput_now hkr hvr hkb (l := ents.toList) 0 (by simpa using hsz) (fun j k x hj => by simpa using hent j k x hj) hput with ⟨h1, h2⟩ | ⟨j, e0, k2, h1, h2, h3, h4, h5, h6⟩
  · have hfk := run_findKey (P := P) (w := E.w) hku h1
    refine fin (ents.push { key := vk, val := vv, born := clock }) (clock + 1) (by simp [h2, hsz]) (fun E' tr i k x hi => ?_) ?_
    · rw [h2] at hi
      rw [List.getElem?_append] at hi
      split at hi
      · rename_i hlt
        obtain ⟨e1, q1, q2, q3⟩ := hent i k x hi
        exact ⟨e1, by rw [Array.getElem?_push, if_neg (by omega)]; exact q1, q2.trans tr, q3.trans tr⟩
      · rename_i hge
        have hi0 : i = es.length := by
          have := (List.getElem?_eq_some_iff.1 hi).1
          simp at this; omega
        subst hi0
        simp at hi
        obtain ⟨rfl, rfl⟩ := hi
        exact ⟨_, by rw [Array.getElem?_push, if_pos (by omega)], hkr.trans tr, hvr.trans tr⟩
    · simp [Instr.mapUpdate, run_underlying hu, Go.MapKept.run_getObj_map hb, hchk, hfk, Go.MapKept.run_setObj_map _ hb]
  · have hfk := run_findKey (P := P) (w := E.w) hku h1
    have h2' : ents[j]? = some e0 := by simpa using h2
    have hsb := same_bits (kd := kd) hkr h3 h4
    refine fin (ents.modify j fun e => { e with key := vk, val := vv }) clock (by simp [h5, hsz]) (fun E' tr i k x hi => ?_) ?_
    · rw [h5, List.getElem?_set] at hi
      split at hi
      · rename_i e; subst e
        simp [h6] at hi
        obtain ⟨rfl, rfl⟩ := hi
        have hlt : j < ents.size := by omega
        refine ⟨{ ents[j] with key := vk, val := vv }, by rw [Array.getElem?_modify, if_pos rfl, Array.getElem?_eq_getElem hlt]; rfl, hkr.trans tr, hvr.trans tr⟩
      · rename_i hne
        obtain ⟨e1, q1, q2, q3⟩ := hent i k x hi
        exact ⟨e1, by rw [Array.getElem?_modify, if_neg hne]; exact q1, q2.trans tr, q3.trans tr⟩
    · simp [Instr.mapUpdate, run_underlying hu, Go.MapKept.run_getObj_map hb, hchk, hfk, h2', Instr.keyThatStays, hsb, Go.MapKept.run_setObj_map _ hb]

/-! ### One law for all. -/

def WpV (P : Program) (o : Oper) (a : Act) (E : Env) (r : R) : Prop :=
  r.fact ∧ ∀ (K : Act → World → Prop) (Q : Exit → Act → World → Prop), (∀ v E', VRel E' r.v v → E'.H = r.h → HRel E' → Trans E E' → K (a.put o.dst v) E'.w) → o.wp P a E.w K Q

theorem WpV.value {P : Program} {o : Oper} {a : Act} {E : Env} {r : R} {s : Sem Value} (hg : Good P E s r) (hp : r.pre) (he : execOp a.eval o = (do pure (.value (← s)))) : WpV P o a E r := by
  obtain ⟨hf, v, E', hrun, hH, hv, hh, tr⟩ := hg hp
  refine ⟨hf, fun K Q hK => ?_⟩
  unfold Oper.wp
  rw [he]
  simp only [Sem.run_bind, hrun, Result.andThen_ok, Sem.run_pure]
  exact hK v E' hv hH hh tr

theorem WpV.skip {P : Program} {o : Oper} {a : Act} {E : Env} {r : R} {s : Sem Unit} (hg : GoodU P E s r) (hp : r.pre) (he : execOp a.eval o = (do s; pure .skip)) : WpV P o a E r := by
  obtain ⟨hf, hv, E', hrun, hH, hh, tr⟩ := hg hp
  refine ⟨hf, fun K Q hK => ?_⟩
  unfold Oper.wp
  rw [he]
  simp only [Sem.run_bind, hrun, Result.andThen_ok, Sem.run_pure]
  exact hK undef E' (by rw [hv]; exact .un) hH hh tr

theorem parts_rel {E : Env} {a : Act} {ρ : Operand → V} (hρ : ∀ x, VRel E (ρ x) (a.eval x)) (parts : Array (Nat × Operand)) :
    (parts.toList.map fun p => (p.1, ρ p.2)).length = (parts.map fun (i, x) => (i, a.eval x)).size ∧
    ∀ (k : Nat) (i : Nat) (x : V), (parts.toList.map fun p => (p.1, ρ p.2))[k]? = some (i, x) → ∃ v, (parts.map fun (i, x) => (i, a.eval x))[k]? = some (i, v) ∧ VRel E x v := by
  refine ⟨by simp, fun k i x hk => ?_⟩
  simp only [List.getElem?_map, Option.map_eq_some_iff] at hk
  obtain ⟨p, hp, e⟩ := hk
  cases e
  refine ⟨a.eval p.2, ?_, hρ _⟩
  simp only [Array.getElem?_map, Option.map_eq_some_iff]
  exact ⟨p, by simpa using hp, rfl⟩

theorem args_rel {E : Env} {a : Act} {ρ : Operand → V} (hρ : ∀ x, VRel E (ρ x) (a.eval x)) (args : Array Operand) :
    (args.toList.map ρ).length = (args.map a.eval).size ∧ ∀ (j : Nat) (x : V), (args.toList.map ρ)[j]? = some x → ∃ v, (args.map a.eval)[j]? = some v ∧ VRel E x v := by
  refine ⟨by simp, fun j x hj => ?_⟩
  simp only [List.getElem?_map, Option.map_eq_some_iff] at hj
  obtain ⟨p, hp, rfl⟩ := hj
  exact ⟨a.eval p, by simp only [Array.getElem?_map, Option.map_eq_some_iff]; exact ⟨p, by simpa using hp, rfl⟩, hρ _⟩

theorem opt_rel {E : Env} {a : Act} {ρ : Operand → V} (hρ : ∀ x, VRel E (ρ x) (a.eval x)) (x : Option Operand) : ORelV E (x.map ρ) (x.map a.eval) := by
  cases x with
  | none => exact ⟨by simp, fun _ => rfl⟩
  | some y => exact ⟨fun z hz => by simp at hz; exact ⟨_, rfl, hz ▸ hρ y⟩, by simp⟩

theorem step_ok {P : Program} {o : Oper} {a : Act} {E : Env} {ρ : Operand → V} (hE : HRel E) (hρ : ∀ x, VRel E (ρ x) (a.eval x)) (hp : (stepF P o.pos o.op ρ E.H).pre) : WpV P o a E (stepF P o.pos o.op ρ E.H) := by
  cases hop : o.op <;> rw [hop] at hp <;> simp only [stepF] at hp ⊢
  case move x => exact .value (s := pure (a.eval x)) (.ok hE ⟨_, rfl, hρ x⟩) hp (by simp [execOp, hop])
  case assign x => exact .value (s := pure (a.eval x)) (.ok hE ⟨_, rfl, hρ x⟩) hp (by simp [execOp, hop])
  case pick c x y =>
    refine .value (pickF_ok hE (hρ c) (hρ x) (hρ y)) hp ?_
    simp [execOp, hop]
  case alloc t =>
    split at hp
    · rename_i z hz
      split at hp
      · rename_i zs hzs
        exact .value (alloc_ok hE hz hzs (.tuple #[])) hp (by simp [execOp, hop])
      · exact hp.elim
    · exact hp.elim
  case box t x =>
    split at hp
    · rename_i cs hcs
      exact .value (box_ok (t := t) hE (hρ x) hcs) hp (by simp [execOp, hop])
    · exact hp.elim
  case load t x => exact .value (loadF_ok hE (hρ x)) hp (by simp [execOp, hop])
  case store t x y => exact .skip (storeF_ok hE (hρ x) (hρ y)) hp (by simp [execOp, hop])
  case nilCheck x =>
    have hx := hρ x
    split at hp
    · rename_i id ver r off hx0
      rw [hx0] at hx
      split at hp
      · rename_i cur sz rows ho
        have hv := ref_addr (one_inv hx) ho hp
        refine .value (s := pure (a.eval x)) (.same hE fun _ => ⟨trivial, _, rfl, rfl, hx⟩) hp ?_
        simp [execOp, hop, hv]
      · exact hp.elim
    · rename_i r off hx0
      rw [hx0] at hx
      obtain ⟨b, o', hv, _⟩ := rowIn_of_iptr (one_inv hx)
      refine .value (s := pure (a.eval x)) (.ok hE ⟨_, rfl, hx⟩) hp ?_
      simp [execOp, hop, hv]
    · exact hp.elim
  case binOp op t x y yt =>
    have hg := binF_guard (P := P) (hρ x) (hρ y) hp x y
    have hb := binF_ok (P := P) (op := op) (t := t) hE (hρ x) (hρ y)
    refine .value (s := do eqGuard op t x y (a.eval x) (a.eval y); binOp op t (a.eval x) (a.eval y)) (fun hp => ?_) hp (by simp [execOp, hop])
    obtain ⟨hf, v, E', hrun, rest⟩ := hb hp
    exact ⟨hf, v, E', by simp [hg, hrun], rest⟩
  case unOp op t x => exact .value (unF_ok hE (hρ x)) hp (by simp [execOp, hop])
  case convert s d x => exact .value (convZ_ok hE (hρ x)) hp (by simp [execOp, hop])
  case makeInterface t x => exact .value (makeIfF_ok hE (hρ x)) hp (by simp [execOp, hop])
  case typeAssert x xt a ok => exact .value (typeAssertF_ok (xt := xt) hE (hρ x)) hp (by simp [execOp, hop])
  case makeFunc fn first cap =>
    cases fn with
    | func f =>
      simp only at hp ⊢
      split at hp
      · rename_i h0
        rw [if_pos h0]
        split at hp
        · rename_i cs hcs
          obtain ⟨h1, h2⟩ := args_rel hρ cap
          have hf : first = #[] := by simpa using h0
          exact .value (makeFuncF_ok hE h1 h2 hcs) hp (by simp [execOp, hop, hf])
        · exact hp.elim
      · exact hp.elim
    | _ => exact hp.elim
  case makeMap t r =>
    cases r with
    | none => exact .value (makeMapF_ok (t := t) hE) hp (by simp [execOp, hop])
    | some _ => exact hp.elim
  case lookup t x k ok => exact .value (lookupF_ok hE (hρ x) (hρ k)) hp (by simp [execOp, hop])
  case mapUpdate t m k x => exact .skip (mapPutF_ok hE (hρ m) (hρ k) (hρ x)) hp (by simp [execOp, hop])
  case insert t m k x => exact .skip (mapPutF_ok hE (hρ m) (hρ k) (hρ x)) hp (by simp [execOp, hop])
  case makeSlice t l c => exact .value (makeSliceF_ok hE (hρ l) (hρ c)) hp (by simp [execOp, hop])
  case slice t x lo hi mx =>
    split at hp
    · exact hp.elim
    · rename_i hm
      rw [if_neg hm]
      exact .value (sliceF_ok hE (hρ x) (opt_rel hρ lo) (opt_rel hρ hi) (opt_rel hρ mx) (fun h => by cases hi <;> cases mx <;> simp_all)) hp (by simp [execOp, hop])
  case fieldAddr t x f => exact .value (fieldAddrF_ok hE (hρ x)) hp (by simp [execOp, hop])
  case field t x f => exact .value (fieldF_ok hE (hρ x)) hp (by simp [execOp, hop])
  case indexAddr t x i => exact .value (indexAddrF_ok hE (hρ x) (hρ i)) hp (by simp [execOp, hop])
  case index t x i => exact .value (indexF_ok hE (hρ x) (hρ i)) hp (by simp [execOp, hop])
  case extract x i =>
    have hx := hρ x
    split at hp
    · rename_i vs hx0
      rw [hx0] at hx
      split at hp
      · rename_i v hv
        exact .value (extractF_ok hE hx hv) hp (by simp [execOp, hop])
      · exact hp.elim
    · exact hp.elim
  case build t parts =>
    obtain ⟨h1, h2⟩ := parts_rel hρ parts
    exact .value (buildF_ok hE h1 h2) hp (by simp [execOp, hop])
  case buildSlice t n parts =>
    obtain ⟨h1, h2⟩ := parts_rel hρ parts
    exact .value (buildSliceF_ok hE h1 h2) hp (by simp [execOp, hop])
  case call c =>
    obtain ⟨callee, args, ats⟩ := c
    cases callee with
    | builtin b =>
      simp only at hp ⊢
      obtain ⟨h1, h2⟩ := args_rel hρ args
      obtain ⟨s, hg, he⟩ := biZ_ok (P := P) (ty := o.type) (consts := args.map fun | .const _ => true | _ => false) hE h1 h2 hp
      refine .value hg hp ?_
      simp only [execOp, hop, resolve]
      exact he
    | value f => exact hp.elim
    | invoke r m => exact hp.elim
  all_goals exact hp.elim

end Go.Lz
