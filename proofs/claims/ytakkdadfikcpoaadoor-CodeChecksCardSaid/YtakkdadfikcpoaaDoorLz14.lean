/- Lz14: values without references; functions that only compute; what is forgotten at a loop's head. -/
import Derived.Test.YtakkdadfikcpoaaDoorLz13
namespace Go.Lz
set_option linter.unusedVariables false
set_option linter.unusedSimpArgs false

/-! ### What is forgotten. -/



def keepT (ks : List Nat) (t : List (Nat × V)) : List (Nat × V) :=
  match ks with
  | [] => []
  | k :: ks => (k, look t k) :: keepT ks t

def keepLt (m : Nat) (ks : List Nat) (t : List (Nat × V)) : Bool :=
  match ks with
  | [] => true
  | k :: ks => (look t k).lt m && keepLt m ks t

theorem look_keepT {t : List (Nat × V)} : ∀ {ks : List Nat} {i : Nat}, look (keepT ks t) i = if i ∈ ks then look t i else .un
  | [], i => by simp [keepT, look]
  | k :: ks, i => by
    simp only [keepT, look_cons, look_keepT (ks := ks), List.mem_cons]
    by_cases e : k = i
    · subst e; simp
    · simp [e, Ne.symm e]

theorem keepLt_iff {m : Nat} {t : List (Nat × V)} : ∀ {ks : List Nat}, keepLt m ks t = true ↔ ∀ k ∈ ks, (look t k).lt m = true
  | [] => by simp [keepLt]
  | k :: ks => by simp [keepLt, keepLt_iff (ks := ks)]

theorem SR.purge {ctx : Env} {n : Cf} {st : St} {a : Act} {E : Env} (h : SR ctx n st a E) (ks : List Nat) (m : Nat) (hm : n.m ≤ m) (hk : keepLt m ks st.t = true) (ho : ((st.H.take m).all (O.lt m)) = true) :
    ∃ E', E'.w = E.w ∧ SR ctx n ⟨keepT ks st.t, st.H.take m⟩ a E' := by
  have hE := h.rel
  have get : ∀ (id : Nat) (o : O), (E.H.take m)[id]? = some o → id < m ∧ E.H[id]? = some o := by
    intro id o ho
    rw [List.getElem?_take] at ho
    split at ho
    · exact ⟨by assumption, ho⟩
    · cases ho
  have own : ∀ b, ({ E with H := E.H.take m } : Env).own b → E.own b := by
    rintro b ⟨id, o, ho, hl, hb⟩
    exact ⟨id, o, (get id o ho).2, hl, hb⟩
  have hfree : ∀ b, E.free b → ({ E with H := E.H.take m } : Env).free b := fun b hb => ⟨hb.1, hb.2.1, fun ho => hb.2.2 (own b ho)⟩
  have hid : ∀ id, id < m → id < E.H.length → id < (E.H.take m).length ∧ (E.H.take m)[id]? = E.H[id]? ∧ E.bd id = E.bd id := by
    intro id h1 h2
    refine ⟨by simp; omega, by rw [List.getElem?_take, if_pos h1], rfl⟩
  have into : ∀ {c : C} {v : Value}, CRel E c v → c.lt m = true → CRel { E with H := E.H.take m } c v := fun hc hl => hc.into (m := m) hfree (fun _ _ _ => rfl) hid hl
  refine ⟨{ E with H := E.H.take m }, rfl, ⟨h.len, h.hm, h.defers, fun i => ?_, by simp [h.H], ?_, ?_⟩⟩
  · rw [look_keepT]
    split
    · rename_i hi
      exact (h.tm i).into (m := m) hfree (fun _ _ _ => rfl) hid (keepLt_iff.1 hk i hi)
    · exact .un
  · refine ⟨fun id o hio => ?_, fun i j x y hx hy => hE.dist i j x y (get i x hx).2 (get j y hy).2, fun i x hx => hE.nofr i x (get i x hx).2, hE.frlt, hE.glob.of hfree (fun _ _ _ => rfl)⟩
    obtain ⟨hlt, hio'⟩ := get id o hio
    have hol : o.lt m = true := by
      rw [← h.H] at ho
      exact List.all_eq_true.1 ho o (List.mem_of_getElem? hio)
    have := hE.obj id o hio'
    cases o with
    | cells cur sz rows =>
      obtain ⟨h3, h4, h5, h6⟩ := this
      refine ⟨h3, h4, h5, fun hc => ?_⟩
      obtain ⟨arr, ty, h1, h2, h6⟩ := h6 hc
      refine ⟨arr, ty, h1, h2, fun i j c hij => ?_⟩
      obtain ⟨v, hv, hr⟩ := h6 i j c hij
      exact ⟨v, hv, into hr (lt_at2 hol hij)⟩
    | map es =>
      obtain ⟨ents, clock, h1, h2, h3⟩ := this
      refine ⟨ents, clock, h1, h2, fun i k x hi => ?_⟩
      obtain ⟨e, he, hk, hx⟩ := h3 i k x hi
      simp only [O.lt, List.all_eq_true, Bool.and_eq_true] at hol
      have := hol (k, x) (List.mem_of_getElem? hi)
      exact ⟨e, he, into hk this.1, into hx this.2⟩
    | dead => trivial
  · have hcm : ctx.H.length ≤ m := Nat.le_trans h.hm hm
    refine ⟨h.tr.fr, h.tr.size, h.tr.os, h.tr.tape, h.tr.output, h.tr.keep, fun b hb ho => h.tr.own b hb (own b ho), by have := h.tr.len; simp; omega, fun id ver sz rows hid ho => h.tr.objC id ver sz rows hid (get id _ ho).2, fun id es hid ho => h.tr.objM id es hid (get id _ ho).2⟩

theorem LoopSem.purge {P : Program} {n : Cf} {body : Code} {st : St} {Q : Ex → St → Prop} (ks : List Nat) (m : Nat) (hm : n.m ≤ m) (hk : keepLt m ks st.t = true) (ho : ((st.H.take m).all (O.lt m)) = true)
    (h : LoopSem P n body ⟨keepT ks st.t, st.H.take m⟩ Q) : LoopSem P n body st Q := by
  intro hok ctx a E hs b k cs
  obtain ⟨E', hw, hs'⟩ := hs.purge ks m hm hk ho
  rw [← hw]
  exact h hok ctx a E' hs' b k cs

theorem loop_rec {P : Program} {n : Cf} {body : Code} {Q : Ex → St → Prop} {α : Type} (s : α → St) (μ : α → Nat) (I : α → Prop)
    (step : ∀ x, I x → (∀ y, I y → μ y < μ x → LoopSem P n body (s y) Q) → awp P n body (s x) (thenQ (fun st' => LoopSem P n body st' Q) Q)) (x : α) (h : I x) : LoopSem P n body (s x) Q := by
  have key : ∀ k x, I x → μ x = k → LoopSem P n body (s x) Q := by
    intro k
    induction k using Nat.strongRecOn with
    | _ k ih =>
      intro x hx hk
      exact loop_unroll (step x hx fun y hy hlt => ih (μ y) (hk ▸ hlt) y hy rfl)
  exact key _ x h rfl

/-! ### Functions that only compute. -/

/-- What lies in own objects, as a value: slices, places, what functions hold; so many steps deep. -/
def C.viewN (H : List O) : Nat → C → C
  | 0, c => match c with | .slf rows => .sl rows | c => c
  | k + 1, c => match c with
    | .msl id ver lo hi => match H[id]? with
      | some (.cells cur _ rows) => if ver = cur then .sl (((rows.take hi).drop lo).map fun r => r.map (C.viewN H k)) else .msl id ver lo hi
      | _ => .msl id ver lo hi
    | .ref id ver row off => match H[id]? with
      | some (.cells cur _ rows) => if ver = cur ∧ row < rows.length then .iptr ((rows.getD row []).map (C.viewN H k)) off else .ref id ver row off
      | _ => .ref id ver row off
    | .fn f cap => .fn f (cap.map (C.viewN H k))
    | .ifc t cs => .ifc t (cs.map (C.viewN H k))
    | .slf rows => .sl rows
    | c => c
def C.view (H : List O) (c : C) : C := C.viewN H 4 c
def viewRows (H : List O) (k : Nat) (rows : List (List C)) : List (List C) := rows.map fun r => r.map (C.viewN H k)

def vMsl (H : List O) (k : Nat) (o : Option O) (id ver lo hi : Nat) : C := match o with
  | some (.cells cur _ rows) => if ver = cur then .sl (viewRows H k ((rows.take hi).drop lo)) else .msl id ver lo hi
  | _ => .msl id ver lo hi
def vRef (H : List O) (k : Nat) (o : Option O) (id ver row off : Nat) : C := match o with
  | some (.cells cur _ rows) => if ver = cur ∧ row < rows.length then .iptr ((rows.getD row []).map (C.viewN H k)) off else .ref id ver row off
  | _ => .ref id ver row off
section
variable {H : List O} {k : Nat}
theorem vn_int {kd : IntKind} {n : Int} : C.viewN H k (.int kd n) = .int kd n := by cases k <;> rfl
theorem vn_bool {b : Bool} : C.viewN H k (.bool b) = .bool b := by cases k <;> rfl
theorem vn_str {b : List UInt8} : C.viewN H k (.str b) = .str b := by cases k <;> rfl
theorem vn_sl {b : List (List C)} : C.viewN H k (.sl b) = .sl b := by cases k <;> rfl
theorem vn_slf {b : List (List C)} : C.viewN H k (.slf b) = .sl b := by cases k <;> rfl
theorem vn_iptr {b : List C} {o : Nat} : C.viewN H k (.iptr b o) = .iptr b o := by cases k <;> rfl
theorem vn_nilfn : C.viewN H k .nilfn = .nilfn := by cases k <;> rfl
theorem vn_nilif : C.viewN H k .nilif = .nilif := by cases k <;> rfl
theorem vn_nilp : C.viewN H k .nilp = .nilp := by cases k <;> rfl
theorem vn_nilm : C.viewN H k .nilm = .nilm := by cases k <;> rfl
theorem vn_mp {i : Nat} : C.viewN H k (.mp i) = .mp i := by cases k <;> rfl
theorem vn_msl4 {id ver lo hi : Nat} : C.viewN H 4 (.msl id ver lo hi) = vMsl H 3 (H[id]?) id ver lo hi := rfl
theorem vn_msl3 {id ver lo hi : Nat} : C.viewN H 3 (.msl id ver lo hi) = vMsl H 2 (H[id]?) id ver lo hi := rfl
theorem vn_msl2 {id ver lo hi : Nat} : C.viewN H 2 (.msl id ver lo hi) = vMsl H 1 (H[id]?) id ver lo hi := rfl
theorem vn_msl1 {id ver lo hi : Nat} : C.viewN H 1 (.msl id ver lo hi) = vMsl H 0 (H[id]?) id ver lo hi := rfl
theorem vn_ref4 {id ver lo hi : Nat} : C.viewN H 4 (.ref id ver lo hi) = vRef H 3 (H[id]?) id ver lo hi := rfl
theorem vn_ref3 {id ver lo hi : Nat} : C.viewN H 3 (.ref id ver lo hi) = vRef H 2 (H[id]?) id ver lo hi := rfl
theorem vn_ref2 {id ver lo hi : Nat} : C.viewN H 2 (.ref id ver lo hi) = vRef H 1 (H[id]?) id ver lo hi := rfl
theorem vn_ref1 {id ver lo hi : Nat} : C.viewN H 1 (.ref id ver lo hi) = vRef H 0 (H[id]?) id ver lo hi := rfl
theorem vn_fn4 {f : FuncId} {cap : List C} : C.viewN H 4 (.fn f cap) = .fn f (cap.map (C.viewN H 3)) := rfl
theorem vn_fn3 {f : FuncId} {cap : List C} : C.viewN H 3 (.fn f cap) = .fn f (cap.map (C.viewN H 2)) := rfl
theorem vn_fn2 {f : FuncId} {cap : List C} : C.viewN H 2 (.fn f cap) = .fn f (cap.map (C.viewN H 1)) := rfl
theorem vn_fn1 {f : FuncId} {cap : List C} : C.viewN H 1 (.fn f cap) = .fn f (cap.map (C.viewN H 0)) := rfl
theorem vn_ifc4 {t : TypeId} {cs : List C} : C.viewN H 4 (.ifc t cs) = .ifc t (cs.map (C.viewN H 3)) := rfl
theorem vn_ifc3 {t : TypeId} {cs : List C} : C.viewN H 3 (.ifc t cs) = .ifc t (cs.map (C.viewN H 2)) := rfl
theorem vn_ifc2 {t : TypeId} {cs : List C} : C.viewN H 2 (.ifc t cs) = .ifc t (cs.map (C.viewN H 1)) := rfl
theorem vn_ifc1 {t : TypeId} {cs : List C} : C.viewN H 1 (.ifc t cs) = .ifc t (cs.map (C.viewN H 0)) := rfl
theorem vr_nil : viewRows H k [] = [] := rfl
theorem vr_cons {r : List C} {rs : List (List C)} : viewRows H k (r :: rs) = r.map (C.viewN H k) :: viewRows H k rs := rfl
theorem vr_app {a b : List (List C)} : viewRows H k (a ++ b) = viewRows H k a ++ viewRows H k b := by simp [viewRows]
theorem vr_rep {n : Nat} {r : List C} : viewRows H k (List.replicate n r) = List.replicate n (r.map (C.viewN H k)) := by simp [viewRows]
theorem vr_set {rows : List (List C)} {i : Nat} {r : List C} : viewRows H k (rows.set i r) = (viewRows H k rows).set i (r.map (C.viewN H k)) := by simp [viewRows, List.map_set]
theorem vr_take {rows : List (List C)} {n : Nat} : viewRows H k (rows.take n) = (viewRows H k rows).take n := by simp [viewRows, List.map_take]
theorem vr_drop {rows : List (List C)} {n : Nat} : viewRows H k (rows.drop n) = (viewRows H k rows).drop n := by simp [viewRows, List.map_drop]
end

mutual
def V.view (H : List O) : V → V
  | .one c => .one (c.view H)
  | .agg cs => .agg (cs.map (C.view H))
  | .tup vs => .tup (viewVs H vs)
  | .un => .un
def viewVs (H : List O) : List V → List V
  | [] => []
  | v :: vs => v.view H :: viewVs H vs
end

theorem viewVs_eq {H : List O} : ∀ {l : List V}, viewVs H l = l.map (V.view H)
  | [] => rfl
  | c :: r => by simp [viewVs, viewVs_eq (l := r)]

/-- The function f yields x for these arguments, whatever the memory, and turns nothing. -/
def Pu (P : Program) (f : FuncId) (args : List V) (x : V) : Prop := Ct P f args [] fun v H' => v = x ∧ H' = []

/-- Nothing is own any more. -/
def Env.shut (E : Env) : Env := { E with H := [] }

theorem shut_rel {E : Env} (hE : HRel E) : HRel E.shut := ⟨by simp [Env.shut], by simp [Env.shut], by simp [Env.shut], hE.frlt, hE.glob.of (fun b h => ⟨h.1, h.2.1, by rintro ⟨id, o, ho, _⟩; simp [Env.shut] at ho⟩) (fun _ _ _ => rfl)⟩

theorem shut_free {E : Env} (b : Nat) (h : E.free b) : E.shut.free b := ⟨h.1, h.2.1, by rintro ⟨id, o, ho, _⟩; simp [Env.shut] at ho⟩

theorem shut_into {E : Env} {c : C} {v : Value} (h : CRel E c v) (hl : c.lt 0 = true) : CRel E.shut c v :=
  h.into (m := 0) shut_free (fun _ _ _ => rfl) (fun id h => by omega) hl

theorem viewN_gen {E E1 : Env} {H' : List O} (hE : HRel E) (hw : E1.w = E.w) (hf : ∀ b, E.free b → E1.free b)
    (hH : ∀ id cur sz rows, H'[id]? = some (.cells cur sz rows) → E.H[id]? = some (.cells cur sz rows) ∧ ((E.bd id).cap ≠ 0 → E1.free (E.bd id).blk)) :
    ∀ (k : Nat) {c : C} {v : Value}, CRel E c v → (C.viewN H' k c).lt 0 = true → CRel E1 (C.viewN H' k c) v
  | 0, c, v, h, hl => by
    cases c with
    | slf rows => exact (slf_inv h).1.into (m := 0) hf (fun _ _ _ => by rw [hw]) (fun id h => by omega) hl
    | _ => exact h.into (m := 0) hf (fun _ _ _ => by rw [hw]) (fun id h => by omega) hl
  | k + 1, c, v, h, hl => by
    cases c with
    | msl id ver lo hi =>
      simp only [C.viewN] at hl ⊢
      split at hl
      · rename_i cur sz rows ho'
        obtain ⟨ho, hfb⟩ := hH _ _ _ _ ho'
        split at hl
        · rename_i e
          simp only [ho', e, if_true]
          subst e
          obtain ⟨h1, h2, a, cap, rfl, h3, h4⟩ := msl_inv h ho rfl
          obtain ⟨g3, g4, g5, g7⟩ := hE.obj id _ ho
          have hlen : ((rows.take hi).drop lo).length = hi - lo := by simp; omega
          by_cases hz : hi - lo = 0
          · have hnil : (rows.take hi).drop lo = [] := List.eq_nil_of_length_eq_zero (by omega)
            rw [hnil, hz]
            exact .sl (fun _ _ => undef) 0 rfl (Nat.zero_le _) (Nat.zero_le _) (by simp) (by simp) (by simp [at2])
          have hcz : (E.bd id).cap ≠ 0 := by omega
          obtain ⟨arr, ty, g1, g2, g6⟩ := g7 hcz
          have hsz : ∀ r ∈ ((rows.take hi).drop lo).map (fun r => r.map (C.viewN H' k)), r.length = sz := by
            intro r hr
            obtain ⟨r0, hr0, rfl⟩ := List.mem_map.1 hr
            rw [List.length_map]; exact g5 r0 (List.mem_of_mem_take (List.mem_of_mem_drop hr0))
          have key : ∀ i j c, at2 (((rows.take hi).drop lo).map (fun r => r.map (C.viewN H' k))) i j = some c → ∃ c0, at2 rows (lo + i) j = some c0 ∧ c = C.viewN H' k c0 := by
            intro i j c hij
            obtain ⟨r, hr, hj⟩ := at2_some.1 hij
            rw [List.getElem?_map, List.getElem?_drop, List.getElem?_take] at hr
            split at hr
            · simp only [Option.map_eq_some_iff] at hr
              obtain ⟨r0, hr0, rfl⟩ := hr
              simp only [List.getElem?_map, Option.map_eq_some_iff] at hj
              obtain ⟨c0, hc0, rfl⟩ := hj
              exact ⟨c0, at2_some.2 ⟨r0, hr0, hc0⟩, rfl⟩
            · simp at hr
          have fnx : ∀ i j, ∃ y, ∀ c, at2 (((rows.take hi).drop lo).map (fun r => r.map (C.viewN H' k))) i j = some c → arr[(E.bd id).off + lo * sz + (i * sz + j)]? = some y ∧ CRel E1 c y := by
            intro i j
            cases hc : at2 (((rows.take hi).drop lo).map (fun r => r.map (C.viewN H' k))) i j with
            | none => exact ⟨undef, by simp⟩
            | some c =>
              obtain ⟨c0, hc0, rfl⟩ := key i j c hc
              obtain ⟨y, hy, hr⟩ := g6 _ _ _ hc0
              exact ⟨y, fun c' e => by cases e; exact ⟨by rw [← hy]; congr 1; rw [Nat.add_mul]; omega, viewN_gen hE hw hf hH k hr (lt_at2 hl hc)⟩⟩
          refine .sl (fun i j => Classical.choose (fnx i j)) sz (by rw [List.length_map]; exact hlen.symm) (by rw [List.length_map]; omega) (by rw [List.length_map]; omega) hsz (fun hne => ?_) (fun i j c hij => ?_)
          · refine ⟨(E.bd id).blk, (E.bd id).off + lo * sz, by rw [h4 (by omega)], (hfb hcz), fun i j c hij => ?_⟩
            have := (Classical.choose_spec (fnx i j) c hij).1
            rw [hw]
            rw [g1.cell?]
            exact this
          · exact (Classical.choose_spec (fnx i j) c hij).2
        · simp [C.lt] at hl
      · simp [C.lt] at hl
    | ref id ver row off =>
      simp only [C.viewN] at hl ⊢
      split at hl
      · rename_i cur sz rows ho'
        obtain ⟨ho, hfb⟩ := hH _ _ _ _ ho'
        split at hl
        · rename_i e
          rw [if_pos e]
          have hv := ref_addr h ho e.1
          obtain ⟨g3, g4, g5, g7⟩ := hE.obj id _ ho
          have hcz : (E.bd id).cap ≠ 0 := by omega
          have hrow := ORel.rowIn hE ho row
          have fnx : ∀ j, ∃ y, ∀ c, ((rows.getD row []).map (C.viewN H' k))[j]? = some c → E1.w.cell? ⟨(E.bd id).blk, (E.bd id).off + row * sz + j, none⟩ = some y ∧ CRel E1 c y := by
            intro j
            cases hc : ((rows.getD row []).map (C.viewN H' k))[j]? with
            | none => exact ⟨undef, by simp⟩
            | some c =>
              have hm := List.mem_of_getElem? hc
              simp only [List.getElem?_map, Option.map_eq_some_iff] at hc
              obtain ⟨c0, hc0, rfl⟩ := hc
              obtain ⟨y, hy, hr⟩ := hrow j c0 hc0
              exact ⟨y, fun c' e => by cases e; exact ⟨by rw [hw]; exact hy, viewN_gen hE hw hf hH k hr (ltRow_iff.1 (show ltRow 0 _ = true from hl) _ hm)⟩⟩
          refine .iptr (b := (E.bd id).blk) (o := (E.bd id).off + row * sz) (fun j => Classical.choose (fnx j)) (by rw [hv, Nat.add_assoc]) (hfb hcz) (fun j c hj => ?_) (fun j c hj => ?_)
          · exact (Classical.choose_spec (fnx j) c hj).1
          · exact (Classical.choose_spec (fnx j) c hj).2
        · simp [C.lt] at hl
      · simp [C.lt] at hl
    | fn f cap =>
      simp only [C.viewN] at hl ⊢
      cases h with
      | @fn _ _ vs hn hv =>
        refine .fn (by simpa using hn) fun j c hj => ?_
        have hm := List.mem_of_getElem? hj
        simp only [List.getElem?_map, Option.map_eq_some_iff] at hj
        obtain ⟨c0, hc0, rfl⟩ := hj
        exact viewN_gen hE hw hf hH k (hv j c0 hc0) (ltRow_iff.1 (show ltRow 0 _ = true from hl) _ hm)
    | ifc t cs =>
      simp only [C.viewN] at hl ⊢
      cases h with
      | @ifc _ _ vs hn hv =>
        refine .ifc (by simpa using hn) fun j c hj => ?_
        have hm := List.mem_of_getElem? hj
        simp only [List.getElem?_map, Option.map_eq_some_iff] at hj
        obtain ⟨c0, hc0, rfl⟩ := hj
        exact viewN_gen hE hw hf hH k (hv j c0 hc0) (ltRow_iff.1 (show ltRow 0 _ = true from hl) _ hm)
    | slf rows => exact (slf_inv h).1.into (m := 0) hf (fun _ _ _ => by rw [hw]) (fun id h => by omega) hl
    | _ => exact h.into (m := 0) hf (fun _ _ _ => by rw [hw]) (fun id h => by omega) hl
theorem viewN_ok {E : Env} (hE : HRel E) (k : Nat) {c : C} {v : Value} (h : CRel E c v) (hl : (C.viewN E.H k c).lt 0 = true) : CRel E.shut (C.viewN E.H k c) v :=
  viewN_gen (E1 := E.shut) hE rfl shut_free (fun id _ _ _ ho => ⟨ho, fun hc => ⟨hE.lt ho hc, hE.nofr id _ ho hc, by rintro ⟨i, o, hi, _⟩; simp [Env.shut] at hi⟩⟩) k h hl
theorem view_ok {E : Env} (hE : HRel E) {c : C} {v : Value} (h : CRel E c v) (hl : (c.view E.H).lt 0 = true) : CRel E.shut (c.view E.H) v := viewN_ok hE 4 h hl

theorem vview_gen {E E1 : Env} {H' : List O} (hE : HRel E) (hw : E1.w = E.w) (hf : ∀ b, E.free b → E1.free b)
    (hH : ∀ id cur sz rows, H'[id]? = some (.cells cur sz rows) → E.H[id]? = some (.cells cur sz rows) ∧ ((E.bd id).cap ≠ 0 → E1.free (E.bd id).blk)) {x : V} {v : Value} (h : VRel E x v) : (x.view H').lt 0 = true → VRel E1 (x.view H') v := by
  induction h with
  | one h => intro hl; exact .one (viewN_gen hE hw hf hH 4 h hl)
  | agg hn h =>
    intro hl
    refine .agg (by simpa using hn) fun j c hj => ?_
    have hm := ltRow_iff.1 (show ltRow 0 _ = true from hl) c (List.mem_of_getElem? hj)
    simp only [List.getElem?_map, Option.map_eq_some_iff] at hj
    obtain ⟨c0, hc0, rfl⟩ := hj
    exact viewN_gen hE hw hf hH 4 (h j c0 hc0) hm
  | tup hn h ih =>
    intro hl
    simp only [V.view, V.lt, viewVs_eq] at hl ⊢
    refine .tup (by simpa using hn) fun j x hj => ?_
    have hm := List.mem_of_getElem? hj
    have hx := ltVs_iff.1 hl x hm
    simp only [List.getElem?_map, Option.map_eq_some_iff] at hj
    obtain ⟨x0, hx0, rfl⟩ := hj
    exact ih j x0 hx0 hx
  | un => intro _; exact .un

theorem vview_ok {E : Env} (hE : HRel E) {x : V} {v : Value} (h : VRel E x v) : (x.view E.H).lt 0 = true → VRel E.shut (x.view E.H) v := by
  induction h with
  | one h => intro hl; exact .one (view_ok hE h hl)
  | agg hn h =>
    intro hl
    refine .agg (by simpa using hn) fun j c hj => ?_
    have hm := ltRow_iff.1 (show ltRow 0 _ = true from hl) c (List.mem_of_getElem? hj)
    simp only [List.getElem?_map, Option.map_eq_some_iff] at hj
    obtain ⟨c0, hc0, rfl⟩ := hj
    exact view_ok hE (h j c0 hc0) hm
  | tup hn h ih =>
    intro hl
    simp only [V.view, V.lt, viewVs_eq] at hl ⊢
    refine .tup (by simpa using hn) fun j x hj => ?_
    have hm := List.mem_of_getElem? hj
    have hx := ltVs_iff.1 hl x hm
    simp only [List.getElem?_map, Option.map_eq_some_iff] at hj
    obtain ⟨x0, hx0, rfl⟩ := hj
    exact ih j x0 hx0 hx
  | un => intro _; exact .un

/-- A function's pure contract out of its text. -/
theorem pu_of_awp {P : Program} {f : FuncId} {fn : Func} {c : Code} (hf : P.funcs[f]? = some fn) (hb : fn.body = some c) (hname : (fn.name == "runtime.NumGoroutine") = false) (hok : okC fn.ntmps c = true)
    {args : List V} {x : V} (h : awp P ⟨fn.ntmps, 0⟩ c ⟨argsT 0 args, []⟩ (endK P fn.results.toList fun v H => v.view H = x ∧ x.lt 0 = true)) : Pu P f args x := by
  have := ct_of_awp (H := []) hf hb hname hok h
  refine ⟨this.1, fun E vs h1 h2 h3 h4 => Calls.mono (this.2 E vs h1 h2 h3 h4) ?_⟩
  rintro e w' ⟨v, y, E', rfl, rfl, ⟨rfl, hl⟩, hv, hh, tr⟩
  refine ⟨v, _, E'.shut, rfl, rfl, ⟨rfl, rfl⟩, vview_ok hh hv hl, shut_rel hh, ?_⟩
  have e0 : ∀ b, ¬ E.own b := by rintro b ⟨id, o, ho, _⟩; simp [h2] at ho
  refine ⟨tr.fr, tr.size, tr.os, tr.tape, tr.output, fun b hb _ => tr.keep b hb (e0 b), ?_, by simp [h2], by simp [Env.shut], by simp [Env.shut]⟩
  rintro b hb ⟨id, o, ho, _⟩
  simp [Env.shut] at ho

/-! ### Calls of such functions. -/

def C.own : C → Bool
  | .msl .. => true
  | .ref .. => true
  | .fn _ cap => !cap.isEmpty
  | .ifc _ cs => !cs.isEmpty
  | _ => false
def V.own : V → Bool
  | .agg cs => cs.any C.own
  | .one c => c.own
  | .tup _ => true
  | .un => false
def C.scalar : C → Bool
  | .int .. | .bool _ | .str _ | .nilp | .nilif | .nilfn | .nilm => true
  | _ => false
mutual
def V.scalar : V → Bool
  | .one c => c.scalar
  | .agg cs => cs.all C.scalar
  | .tup vs => scalars vs
  | .un => true
def scalars : List V → Bool
  | [] => true
  | v :: vs => v.scalar && scalars vs
end
theorem scalars_iff : ∀ {l : List V}, scalars l = true ↔ ∀ c ∈ l, c.scalar = true
  | [] => by simp [scalars]
  | c :: r => by simp [scalars, scalars_iff (l := r)]

theorem scalar_any {E E' : Env} {c : C} {v : Value} (h : CRel E c v) (hs : c.scalar = true) : CRel E' c v := by
  cases h with
  | int h => exact .int h
  | bool => exact .bool
  | str h hl => exact .str h hl
  | nilfn => exact .nilfn
  | nilif => exact .nilif
  | nilp => exact .nilp
  | nilm => exact .nilm
  | _ => simp [C.scalar] at hs

theorem vscalar_any {E E' : Env} {x : V} {v : Value} (h : VRel E x v) : x.scalar = true → VRel E' x v := by
  induction h with
  | one h => intro hs; exact .one (scalar_any h hs)
  | agg hn h =>
    intro hs
    exact .agg hn fun j c hj => scalar_any (h j c hj) (List.all_eq_true.1 (show _ = true from hs) c (List.mem_of_getElem? hj))
  | tup hn h ih =>
    intro hs
    exact .tup hn fun j x hj => ih j x hj (scalars_iff.1 hs x (List.mem_of_getElem? hj))
  | un => intro _; exact .un

/-- In an environment without own objects references to them do not occur. -/
theorem CRel.lt0 {E : Env} (hH : E.H = []) {c : C} {v : Value} (h : CRel E c v) : c.lt 0 = true → True := fun _ => trivial

theorem call_pure {P : Program} {f : FuncId} {args args' : List V} {H : List O} {x : V} {K : V → List O → Prop} (h : Pu P f args' x) (ha : args.map (V.view H) = args') (hl : ltVs 0 args' = true) (hx : x.lt 0 = true)
    (hb : args.all (fun a => !a.own) = true ∨ x.scalar = true) (hk : K x H) : Ct P f args H K := by
  refine ⟨h.1, fun E vs hE hH hn hv => ?_⟩
  subst hH
  subst ha
  -- the callee's own view of memory
  have main : ∀ (Fr : Nat → Prop), (∀ b, Fr b → b < E.w.heap.size) → (∀ b, E.free b → ¬ Fr b) → (∀ (j : Nat) (y : V), args[j]? = some y → VRel ⟨E.w, Fr, E.bd, []⟩ (y.view E.H) (vs.getD j undef)) →
      (∀ (E' : Env) (v : Value), E'.H = [] → E'.Fr = Fr → Trans ⟨E.w, Fr, E.bd, []⟩ E' → VRel E' x v → VRel ⟨E'.w, E.Fr, E.bd, E.H⟩ x v) →
      Calls P f vs E.w fun e w' => ∃ v x E', e = .returned v ∧ E'.w = w' ∧ K x E'.H ∧ VRel E' x v ∧ HRel E' ∧ Trans E E' := by
    intro Fr hfr hff hargs hback
    refine Calls.mono (h.2 ⟨E.w, Fr, E.bd, []⟩ vs ⟨by simp, by simp, by simp, hfr, hE.glob.of (fun b hb => ⟨hb.1, hff b hb, by rintro ⟨id, o, ho, _⟩; simp at ho⟩) (fun _ _ _ => rfl)⟩ rfl (by simpa using hn) (fun j y hj => ?_)) ?_
    · simp only [List.getElem?_map, Option.map_eq_some_iff] at hj
      obtain ⟨z, hz, rfl⟩ := hj
      exact hargs j z hz
    · rintro e w' ⟨v, y, E', rfl, rfl, ⟨rfl, hH'⟩, hyv, hh, tr⟩
      obtain ⟨t2, hh2⟩ := grow_world hE E'.w tr.size tr.os tr.tape tr.output (fun b hb => tr.keep b hb (by rintro ⟨id, o, ho, _⟩; simp at ho))
      exact ⟨v, y, ⟨E'.w, E.Fr, E.bd, E.H⟩, rfl, rfl, hk, hback E' v hH' tr.fr tr hyv, hh2, t2⟩
  have hlt : ∀ (j : Nat) (y : V), args[j]? = some y → (y.view E.H).lt 0 = true := fun j y hj => ltVs_iff.1 hl _ (List.mem_map.2 ⟨y, List.mem_of_getElem? hj, rfl⟩)
  rcases hb with hb | hb
  · -- nothing is lent
    refine main (fun b => E.Fr b ∨ E.own b) (fun b hb => hb.elim (hE.frlt b) hE.own_lt) (fun b hb h => h.elim hb.2.1 hb.2.2) (fun j y hj => ?_) (fun E' v hH' hfr tr hv => ?_)
    · have hown : y.own = false := by
        have := List.all_eq_true.1 hb y (List.mem_of_getElem? hj); simpa using this
      have hr := hv j y hj
      have hl' := hlt j y hj
      have hfree : ∀ b, E.free b → (⟨E.w, fun b => E.Fr b ∨ E.own b, E.bd, []⟩ : Env).free b := fun b hb => ⟨hb.1, fun h => h.elim hb.2.1 hb.2.2, by rintro ⟨id, o, ho, _⟩; simp at ho⟩
      have cell : ∀ {c : C} {u : Value}, CRel E c u → c.own = false → (c.view E.H).lt 0 = true → CRel ⟨E.w, fun b => E.Fr b ∨ E.own b, E.bd, []⟩ (c.view E.H) u := by
        intro c u hc ho hcl
        cases c with
        | msl id ver lo hi => simp [C.own] at ho
        | ref id ver r off => simp [C.own] at ho
        | fn f cap =>
          have : cap = [] := by simpa [C.own] using ho
          subst this
          exact hc.into (m := 0) hfree (fun _ _ _ => rfl) (fun id h => by omega) hcl
        | ifc t cap =>
          have : cap = [] := by simpa [C.own] using ho
          subst this
          exact hc.into (m := 0) hfree (fun _ _ _ => rfl) (fun id h => by omega) hcl
        | slf rows => exact (slf_inv hc).1.into (m := 0) hfree (fun _ _ _ => rfl) (fun id h => by omega) hcl
        | _ => exact hc.into (m := 0) hfree (fun _ _ _ => rfl) (fun id h => by omega) hcl
      generalize vs.getD j undef = u at hr
      cases hr with
      | one hc => exact .one (cell hc hown hl')
      | agg hn h =>
        refine .agg (by simpa using hn) fun k c hk => ?_
        have hm := ltRow_iff.1 (show ltRow 0 _ = true from hl') c (List.mem_of_getElem? hk)
        simp only [List.getElem?_map, Option.map_eq_some_iff] at hk
        obtain ⟨c0, hc0, rfl⟩ := hk
        refine cell (h k c0 hc0) ?_ hm
        have := List.any_eq_false.1 (show List.any _ C.own = false from hown) c0 (List.mem_of_getElem? hc0)
        simpa using this
      | tup hn h => simp [V.own] at hown
      | un => exact .un
    · have hfree : ∀ b, E'.free b → (⟨E'.w, E.Fr, E.bd, E.H⟩ : Env).free b := fun b hb => by
        have h1 := hb.2.1
        rw [hfr] at h1
        exact ⟨hb.1, fun h => h1 (.inl h), fun h => h1 (.inr h)⟩
      exact VRel.into (E := E') (m := 0) hfree (fun _ _ _ => rfl) (fun id h => by omega) hv hx
  · -- what is lent does not come back
    refine main E.Fr hE.frlt (fun b hb => hb.2.1) (fun j y hj => ?_) (fun E' v hH' hfr tr hv => vscalar_any hv hb)
    exact vview_ok hE (hv j y hj) (hlt j y hj)

end Go.Lz
