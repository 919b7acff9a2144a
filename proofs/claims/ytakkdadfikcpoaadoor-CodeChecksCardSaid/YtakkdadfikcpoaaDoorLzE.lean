/- LzE: the arguments of a call as abstract values of their types; a row out of a pure contract. -/
import Derived.Test.YtakkdadfikcpoaaDoorLz16
import Derived.SizedLaws
import Derived.ProofKit
import Derived.OpenShut
namespace Go.Lz
set_option linter.unusedVariables false
set_option linter.unusedSimpArgs false
open Go.ChangeShapes Go.WideShapes Go.ChangeAt Go.RowKit

/-- Cells that are a value of a type: of whole numbers, bools, strings, slices, structs, arrays. -/
inductive Ty (P : Program) : TypeId → List C → Prop
  | bool {t : TypeId} {b : Bool} (h : P.underlying t = some .bool) : Ty P t [.bool b]
  | int {t : TypeId} {k : IntKind} {n : Int} (h : P.underlying t = some (.int k)) (hn : k.min ≤ n ∧ n ≤ k.max) : Ty P t [.int k n]
  | str {t : TypeId} {s : List UInt8} (h : P.underlying t = some .string) (hl : s.length ≤ lim) : Ty P t [.str s]
  | slice {t e : TypeId} {rows : List (List C)} (h : P.underlying t = some (.slice e)) (hl : rows.length ≤ lim) (hr : ∀ r ∈ rows, Ty P e r) : Ty P t [.sl rows]
  | struct {t : TypeId} {fs : Array Field} {cs : List C} (h : P.underlying t = some (.struct fs)) (hl : cs.length = P.cellsOf t)
      (hf : ∀ f ∈ fs.toList, Ty P f.type ((cs.drop f.offset).take (P.cellsOf f.type))) : Ty P t cs
  | array {t e : TypeId} {n : Nat} {cs : List C} (h : P.underlying t = some (.array n e)) (hl : cs.length = P.cellsOf t)
      (hf : ∀ i, i < n → Ty P e ((cs.drop (i * P.cellsOf e)).take (P.cellsOf e))) : Ty P t cs

def laysF (P : Program) : Nat → List Field → Option Nat
  | o, [] => some o
  | o, f :: fs => if f.offset = o then laysF P (o + P.cellsOf f.type) fs else none

def plainT (P : Program) (S : List TypeId) (t : TypeId) : Bool :=
  match P.underlying t with
  | some .bool => P.cellsOf t == 1
  | some (.int _) => P.cellsOf t == 1
  | some .string => P.cellsOf t == 1
  | some (.slice e) => P.cellsOf t == 1 && (S.contains e && (decide (0 < P.bytesOf e) && decide (0 < P.cellsOf e)))
  | some (.struct fs) => (laysF P 0 fs.toList == some (P.cellsOf t)) && fs.toList.all (fun f => S.contains f.type)
  | some (.array n e) => (n * P.cellsOf e == P.cellsOf t) && S.contains e
  | _ => false

/-- These types are plain ones, and all that they are made of is among them. -/
def plainB (P : Program) (S : List TypeId) : Bool := S.all (plainT P S)

def Rel (E : Env) (vs : List Value) (cs : List C) : Prop := vs.length = cs.length ∧ ∀ (j : Nat) (c : C), cs[j]? = some c → ∃ v, vs[j]? = some v ∧ CRel E c v

theorem Rel.one {E : Env} {c : C} {v : Value} (h : CRel E c v) : Rel E [v] [c] := ⟨rfl, fun j d hj => by
  cases j with
  | zero => simp at hj; subst hj; exact ⟨v, rfl, h⟩
  | succ j => simp at hj⟩

theorem Rel.app {E : Env} {a b : List Value} {x y : List C} (h : Rel E a x) (k : Rel E b y) : Rel E (a ++ b) (x ++ y) := by
  refine ⟨by simp [h.1, k.1], fun j c hj => ?_⟩
  rcases Nat.lt_or_ge j x.length with hlt | hge
  · rw [List.getElem?_append_left hlt] at hj
    rw [List.getElem?_append_left (by rw [h.1]; exact hlt)]
    exact h.2 j c hj
  · rw [List.getElem?_append_right hge] at hj
    rw [List.getElem?_append_right (by rw [h.1]; exact hge), h.1]
    exact k.2 _ c hj

theorem fields_asm {P : Program} {E : Env} {vs : List Value} {tot : Nat} (hlen : vs.length = tot) : ∀ (fs : List Field) (o : Nat), laysF P o fs = some tot →
    (∀ f ∈ fs, ∃ p, Rel E ((vs.drop f.offset).take (P.cellsOf f.type)) p ∧ Ty P f.type p ∧ p.length = P.cellsOf f.type) →
    o ≤ tot ∧ ∃ q, Rel E (vs.drop o) q ∧ ∀ f ∈ fs, o ≤ f.offset ∧ Ty P f.type ((q.drop (f.offset - o)).take (P.cellsOf f.type))
  | [], o, h, _ => by
    simp only [laysF, Option.some.injEq] at h
    refine ⟨by omega, [], ⟨by simp; omega, by simp⟩, by simp⟩
  | f :: fs, o, h, each => by
    simp only [laysF] at h
    split at h
    · rename_i ho
      obtain ⟨hle, q, hq, hf⟩ := fields_asm hlen fs _ h (fun g hg => each g (List.mem_cons_of_mem _ hg))
      obtain ⟨p, hp, ht, hpl⟩ := each f (List.mem_cons_self ..)
      refine ⟨by omega, p ++ q, ?_, fun g hg => ?_⟩
      · have : vs.drop o = (vs.drop o).take (P.cellsOf f.type) ++ vs.drop (o + P.cellsOf f.type) := by
          rw [← List.drop_drop, List.take_append_drop]
        rw [this, ← ho]
        exact hp.app (by rw [ho]; exact hq)
      · rcases List.mem_cons.1 hg with rfl | hg
        · refine ⟨by omega, ?_⟩
          rw [ho, Nat.sub_self, List.drop_zero, ← hpl, List.take_left]
          exact ht
        · obtain ⟨h1, h2⟩ := hf g hg
          refine ⟨by omega, ?_⟩
          rw [List.drop_append, List.drop_eq_nil_of_le (by omega), List.nil_append, hpl, show g.offset - o - P.cellsOf f.type = g.offset - (o + P.cellsOf f.type) by omega]
          exact h2
    · cases h

theorem array_asm {P : Program} {E : Env} {vs : List Value} {e : TypeId} {n : Nat} (hlen : vs.length = n * P.cellsOf e)
    (each : ∀ i, i < n → ∃ p, Rel E ((vs.drop (i * P.cellsOf e)).take (P.cellsOf e)) p ∧ Ty P e p ∧ p.length = P.cellsOf e) : ∀ k, k ≤ n →
    ∃ q, Rel E (vs.take (k * P.cellsOf e)) q ∧ q.length = k * P.cellsOf e ∧ ∀ i, i < k → Ty P e ((q.drop (i * P.cellsOf e)).take (P.cellsOf e))
  | 0, _ => ⟨[], by simp [Rel], by simp, by simp⟩
  | k + 1, hk => by
    obtain ⟨q, hq, hql, hf⟩ := array_asm hlen each k (by omega)
    obtain ⟨p, hp, ht, hpl⟩ := each k (by omega)
    refine ⟨q ++ p, ?_, by simp [hql, hpl, Nat.add_mul], fun i hi => ?_⟩
    · have : vs.take ((k + 1) * P.cellsOf e) = vs.take (k * P.cellsOf e) ++ (vs.drop (k * P.cellsOf e)).take (P.cellsOf e) := by
        rw [Nat.add_mul, Nat.one_mul, List.take_add]
      rw [this]
      exact hq.app hp
    · rcases Nat.lt_or_ge i k with hlt | hge
      · have h1 : (i + 1) * P.cellsOf e ≤ k * P.cellsOf e := Nat.mul_le_mul_right _ hlt
        rw [Nat.add_mul, Nat.one_mul] at h1
        rw [List.drop_append_of_le_length (by omega), List.take_append_of_le_length (by simp; omega)]
        exact hf i hlt
      · obtain rfl : i = k := by omega
        rw [← hql, List.drop_left, ← hpl, List.take_length]
        exact ht

theorem weightsAll_mem {H : Type} {P : Program} {e : TypeId} : ∀ {l : List (DataW H)} {d : DataW H}, d ∈ l → ∀ m ∈ d.weights P e, m ∈ DataW.weightsAll P e l
  | a :: l, d, hd, m, hm => by
    simp only [DataW.weightsAll, List.mem_append]
    rcases List.mem_cons.1 hd with rfl | hd
    · exact .inl hm
    · exact .inr (weightsAll_mem hd m hm)
  | [], d, hd, m, hm => by simp at hd

theorem add_none {b off i j : Nat} : ((⟨b, off, none⟩ : Addr).add i).add j = ⟨b, off + (i + j), none⟩ := by
  simp only [Addr.add]
  split <;> split <;> simp_all [Nat.add_assoc]

theorem reach_lim : reachBytes ≤ lim := by decide

theorem enter {P : Program} {S : List TypeId} {E : Env} (hEH : E.H = []) (hEF : ∀ b, ¬ E.Fr b) (hp : plainB P S = true) {H : Type} {enc : TypeId × Value → H} {base : Nat} {sp : Nat → Bool} {held : Bool} :
    ∀ (n : Nat) (t : TypeId) (vs : List Value) (x : DataW H × List MemPlace), t ∈ S → DataW.trod enc P E.w base sp held n t vs = some x → (∀ m ∈ x.1.weights P t, m ≤ reachBytes) →
    ∃ cs, Rel E vs cs ∧ Ty P t cs ∧ cs.length = P.cellsOf t := by
  intro n
  induction n with
  | zero => intro t vs x _ h; simp [DataW.trod] at h
  | succ n ih =>
    intro t vs x ht h hw
    have hpt := List.all_eq_true.1 hp t ht
    unfold plainT at hpt
    split at hpt
    · rename_i hu
      obtain ⟨b, rfl, rfl⟩ := DataW.trod_bool hu h
      exact ⟨[.bool b], .one .bool, .bool hu, by simp at hpt; simp [hpt]⟩
    · rename_i k hu
      obtain ⟨m, rfl, rfl, hwf⟩ := DataW.trod_int hu h
      have hr : k.min ≤ m ∧ m ≤ k.max := by simpa [Lit.wf] using hwf
      exact ⟨[.int k m], .one (.int hr), .int hu hr, by simp at hpt; simp [hpt]⟩
    · rename_i hu
      obtain ⟨s, rfl, rfl, hsz⟩ := DataW.trod_string hu h
      have hl : s.data.toList.length ≤ lim := Nat.le_trans (hw _ (by simp [DataW.weights])) reach_lim
      exact ⟨[.str s.data.toList], .one (.str rfl hl), .str hu hl, by simp at hpt; simp [hpt]⟩
    · rename_i e hu
      simp only [Bool.and_eq_true, beq_iff_eq, decide_eq_true_eq, List.contains_eq_mem] at hpt
      obtain ⟨hc1, heS, hbytes, hcells⟩ := hpt
      rcases DataW.trod_slice hu h with ⟨rfl, rfl⟩ | ⟨a, len, cap, elems, rest, n', hn', rfl, rfl, _, hlc, _, hlen, hel, _, _⟩
      · refine ⟨[.sl []], .one (.sl (fun _ _ => undef) 0 rfl (by simp) (by simp) (by simp) (by simp) (by simp [at2])), .slice hu (by simp) (by simp), by simp [hc1]⟩
      · obtain rfl : n = n' := by omega
        have each : ∀ i, ∃ r : List C, i < len → (Ty P e r ∧ r.length = P.cellsOf e ∧ ∀ j c, r[j]? = some c → ∃ v, E.w.cell? ((a.add (i * P.cellsOf e)).add j) = some v ∧ CRel E c v) := by
          intro i
          by_cases hi : i < len
          · have h1 := hel i hi
            have hi' : i < elems.length := by omega
            rw [List.getElem?_eq_getElem hi', Option.bind_eq_some_iff] at h1
            obtain ⟨cs', hcs, hy⟩ := h1
            obtain ⟨_, hl', hcell⟩ := World.cells?_some hcs
            obtain ⟨cs, hrel, hty, hcl⟩ := ih e cs' _ heS hy (fun m hm => hw m (by
              simp only [DataW.weights, hu, List.mem_cons, List.mem_append]
              exact .inr (.inl (weightsAll_mem (List.mem_map.2 ⟨_, List.getElem_mem hi', rfl⟩) m hm))))
            refine ⟨cs, fun _ => ⟨hty, hcl, fun j c hj => ?_⟩⟩
            obtain ⟨v, hv, hr⟩ := hrel.2 j c hj
            have hjl : j < P.cellsOf e := by rw [← hcl]; exact (List.getElem?_eq_some_iff.1 hj).1
            exact ⟨v, by rw [hcell j hjl]; exact hv, hr⟩
          · exact ⟨[], fun h => absurd h hi⟩
        obtain ⟨f, hf'⟩ := Classical.axiomOfChoice each
        have hlenlim : len ≤ lim := by
          have := hw ((elems.length + rest.length) * P.bytesOf e) (by simp [DataW.weights, hu])
          have h2 : elems.length * 1 ≤ (elems.length + rest.length) * P.bytesOf e := Nat.mul_le_mul (by omega) hbytes
          have := reach_lim
          omega
        have hat : ∀ i j c, at2 ((List.range len).map f) i j = some c → i < len ∧ (f i)[j]? = some c := by
          intro i j c hij
          obtain ⟨r, hr, hj⟩ := at2_some.1 hij
          simp only [List.getElem?_map, Option.map_eq_some_iff] at hr
          obtain ⟨i', hi', rfl⟩ := hr
          obtain ⟨hlt, he⟩ := List.getElem?_eq_some_iff.1 hi'
          simp at hlt he
          subst he
          exact ⟨hlt, hj⟩
        refine ⟨[.sl ((List.range len).map f)], .one (.sl (fun i j => (E.w.cell? ((a.add (i * P.cellsOf e)).add j)).getD undef) (P.cellsOf e) (by simp) (by simpa using hlc) (by simpa using hlenlim) ?_ ?_ ?_), .slice hu (by simpa using hlenlim) ?_, by simp [hc1]⟩
        · intro r hr
          obtain ⟨i, hi, rfl⟩ := List.mem_map.1 hr
          exact (hf' i (by simpa using hi)).2.1
        · intro hne
          have hpos : 0 < len := by
            rcases Nat.eq_zero_or_pos len with h0 | h0
            · subst h0; simp at hne
            · exact h0
          obtain ⟨_, hl0, hc0⟩ := hf' 0 hpos
          have hj0 : (f 0)[0]? = some ((f 0)[0]'(by omega)) := List.getElem?_eq_getElem _
          obtain ⟨v, hv, _⟩ := hc0 0 _ hj0
          have ha0 : (a.add (0 * P.cellsOf e)).add 0 = a := by simp [Addr.add]
          rw [ha0] at hv
          have hsp : a.spot = none ∧ a.block < E.w.heap.size := by
            unfold World.cell? at hv
            split at hv
            · rename_i hh
              split at hv
              · cases hv
              · rename_i hs
                exact ⟨by simpa using hs, (Array.getElem?_eq_some_iff.1 hh).1⟩
            · cases hv
          obtain ⟨b, off, spot⟩ := a
          obtain ⟨rfl, hlt⟩ := hsp
          refine ⟨b, off, rfl, ⟨hlt, hEF b, ?_⟩, fun i j c hij => ?_⟩
          · rintro ⟨id, o, ho, _⟩
            simp [hEH] at ho
          · obtain ⟨hi, hj⟩ := hat i j c hij
            obtain ⟨v, hv, _⟩ := (hf' i hi).2.2 j c hj
            simp only [hv, Option.getD_some]
            rw [← add_none]
            exact hv
        · intro i j c hij
          obtain ⟨hi, hj⟩ := hat i j c hij
          obtain ⟨v, hv, hr⟩ := (hf' i hi).2.2 j c hj
          simp only [hv, Option.getD_some]
          exact hr
        · intro r hr
          obtain ⟨i, hi, rfl⟩ := List.mem_map.1 hr
          exact (hf' i (by simpa using hi)).1
    · rename_i fs hu
      simp only [Bool.and_eq_true, beq_iff_eq, List.all_eq_true, List.contains_eq_mem, decide_eq_true_eq] at hpt
      obtain ⟨hlay, hfS⟩ := hpt
      obtain ⟨xs, n', hn', rfl, hcl, hxl, hx⟩ := DataW.trod_struct hu h
      obtain rfl : n = n' := by omega
      obtain ⟨_, q, hq, hf⟩ := fields_asm (E := E) hcl fs.toList 0 hlay (by
        intro f hf
        obtain ⟨i, hi⟩ := List.getElem?_of_mem hf
        have hi2 : fs[i]? = some f := by simpa using hi
        have hil : i < xs.length := by rw [hxl]; exact (Array.getElem?_eq_some_iff.1 hi2).1
        have h1 := hx i f hi2
        rw [List.getElem?_eq_getElem hil] at h1
        exact ih f.type _ _ (hfS f hf) h1 (fun m hm => hw m (by
          simp only [DataW.weights, hu]
          exact DataW.weights_mem_each (j := i) (t := f.type) (d := (xs[i]).1) (by rw [List.getElem?_map, hi]; rfl) (by rw [List.getElem?_map, List.getElem?_eq_getElem hil]; rfl) m hm)))
      have hl : q.length = P.cellsOf t := by rw [← hq.1]; simpa using hcl
      exact ⟨q, by simpa using hq, .struct hu hl fun f hm => by simpa using (hf f hm).2, hl⟩
    · rename_i k e hu
      simp only [Bool.and_eq_true, beq_iff_eq, List.contains_eq_mem, decide_eq_true_eq] at hpt
      obtain ⟨hsz, heS⟩ := hpt
      obtain ⟨xs, n', hn', rfl, hcl, hxl, hx⟩ := DataW.trod_array hu h
      obtain rfl : n = n' := by omega
      obtain ⟨q, hq, hql, hf⟩ := array_asm (P := P) (E := E) (vs := vs) (e := e) (n := k) (by omega) (by
        intro i hi
        have hil : i < xs.length := by omega
        have h1 := hx i hi
        rw [List.getElem?_eq_getElem hil] at h1
        exact ih e _ _ heS h1 (fun m hm => hw m (by
          simp only [DataW.weights, hu]
          exact weightsAll_mem (List.mem_map.2 ⟨_, List.getElem_mem hil, rfl⟩) m hm))) k (Nat.le_refl k)
      have e1 : vs.take (k * P.cellsOf e) = vs := List.take_of_length_le (by omega)
      rw [e1] at hq
      exact ⟨q, hq, .array hu (by omega) hf, by omega⟩
    · cases hpt

/-! ### Arguments. -/

def isAggB (P : Program) (t : TypeId) : Bool :=
  match P.underlying t with
  | some (.struct _) => true
  | some (.array _ _) => true
  | _ => false

inductive TyV (P : Program) (t : TypeId) : V → Prop
  | one {c : C} (h : Ty P t [c]) (hu : isAggB P t = false) : TyV P t (.one c)
  | agg {cs : List C} (h : Ty P t cs) (hu : isAggB P t = true) : TyV P t (.agg cs)

/-- Values of these types. -/
def TysV (P : Program) : List TypeId → List V → Prop
  | [], [] => True
  | t :: ts, x :: xs => TyV P t x ∧ TysV P ts xs
  | _, _ => False

theorem cells_of_ok {P : Program} {S : List TypeId} (hp : plainB P S = true) {W : World} {base : Nat} {t : TypeId} {v : Value} (ht : t ∈ S) (hv : Value.okWide P W .any base t v) (hu : isAggB P t = false) : v.cells = #[v] := by
  have hpt := List.all_eq_true.1 hp t ht
  unfold plainT at hpt
  unfold isAggB at hu
  unfold Value.okWide at hv
  split at hpt
  case h_5 fs he => rw [he] at hu; cases hu
  case h_6 k e he => rw [he] at hu; cases hu
  case h_7 => cases hpt
  all_goals
    rename_i he
    simp only [he, Cell.okWide, Cell.ok] at hv
    cases v <;> first | rfl | (exact hv.elim) | (simp at hv)

theorem enter_one {P : Program} {S : List TypeId} {E : Env} (hEH : E.H = []) (hEF : ∀ b, ¬ E.Fr b) (hp : plainB P S = true) {H : Type} {enc : TypeId × Value → H} {base base' : Nat} {sp : Nat → Bool} {held : Bool}
    {t : TypeId} {v : Value} {d : DataW H} {ps : List MemPlace} (ht : t ∈ S) (hv : Value.okWide P E.w .any base' t v) (h : DataW.Trod enc P E.w base sp held t v d ps) (hw : ∀ m ∈ d.weights P t, m ≤ reachBytes) :
    ∃ X, VRel E X v ∧ TyV P t X := by
  obtain ⟨n, hn⟩ := h
  obtain ⟨cs, hrel, hty, hl⟩ := enter hEH hEF hp n t _ _ ht hn hw
  cases hu : isAggB P t with
  | true =>
    have : ∃ vs, v = .agg vs := by
      unfold isAggB at hu
      unfold Value.okWide at hv
      split at hu
      · rename_i he
        rw [he] at hv
        obtain ⟨vs, h, _⟩ := hv
        exact ⟨vs, h⟩
      · rename_i he
        rw [he] at hv
        obtain ⟨vs, h, _⟩ := hv
        exact ⟨vs, h⟩
      · cases hu
    obtain ⟨vs, rfl⟩ := this
    refine ⟨.agg cs, .agg ?_ fun j c hj => ?_, .agg hty hu⟩
    · simpa [Value.cells] using hrel.1
    · obtain ⟨u, hu, hr⟩ := hrel.2 j c hj
      simp only [Value.cells] at hu
      have : vs[j]? = some u := by simpa using hu
      simp only [Array.getD_eq_getD_getElem?, this, Option.getD_some]
      exact hr
  | false =>
    have hc := cells_of_ok hp ht hv hu
    rw [hc] at hrel
    have h1 : cs.length = 1 := by simpa using hrel.1.symm
    obtain ⟨c, rfl⟩ : ∃ c, cs = [c] := by
      cases cs with
      | nil => simp at h1
      | cons c r => cases r with
        | nil => exact ⟨c, rfl⟩
        | cons => simp at h1
    obtain ⟨u, hu', hr⟩ := hrel.2 0 c rfl
    simp at hu'
    subst hu'
    exact ⟨.one c, .one hr, .one hty hu⟩

theorem enter_all {P : Program} {S : List TypeId} {E : Env} (hEH : E.H = []) (hEF : ∀ b, ¬ E.Fr b) (hp : plainB P S = true) {H : Type} {enc : TypeId × Value → H} {base base' : Nat} {sp : Nat → Bool} {held : Bool} :
    ∀ (ts : List TypeId) (vs : List Value) (ds : List (DataW H)) (ps : List MemPlace), (∀ t ∈ ts, t ∈ S) → (∀ (j : Nat) t v, ts[j]? = some t → vs[j]? = some v → Value.okWide P E.w .any base' t v) →
    DataW.TrodAll enc P E.w base sp held ts vs ds ps → (∀ m ∈ DataW.weightsEach P ts ds, m ≤ reachBytes) →
    ∃ Xs, TysV P ts Xs ∧ vs.length = Xs.length ∧ ds.length = ts.length ∧ ∀ (j : Nat) (x : V), Xs[j]? = some x → ∃ v, vs[j]? = some v ∧ VRel E x v
  | [], vs, ds, ps, _, _, h, _ => by
    cases vs <;> cases ds <;> simp [DataW.TrodAll] at h
    exact ⟨[], trivial, rfl, rfl, by simp⟩
  | t :: ts, vs, ds, ps, hS, hv, h, hw => by
    cases vs with
    | nil => cases ds <;> simp [DataW.TrodAll] at h
    | cons v vs =>
      cases ds with
      | nil => simp [DataW.TrodAll] at h
      | cons d ds =>
        obtain ⟨p, q, h1, h2, _⟩ := h
        obtain ⟨X, hX, hT⟩ := enter_one hEH hEF hp (hS t (List.mem_cons_self ..)) (hv 0 t v rfl rfl) h1 (fun m hm => hw m (by simp [DataW.weightsEach, hm]))
        obtain ⟨Xs, hTs, hl, hd, hXs⟩ := enter_all hEH hEF hp ts vs ds q (fun t ht => hS t (List.mem_cons_of_mem _ ht)) (fun j t v h1 h2 => hv (j + 1) t v (by simpa using h1) (by simpa using h2)) h2
          (fun m hm => hw m (by simp [DataW.weightsEach, hm]))
        refine ⟨X :: Xs, ⟨hT, hTs⟩, by simp [hl], by simp [hd], fun j x hj => ?_⟩
        cases j with
        | zero => simp at hj; subst hj; exact ⟨v, rfl, hX⟩
        | succ j => simpa using hXs j x (by simpa using hj)

theorem trodAll_map {P : Program} {H : Type} {enc : TypeId × Value → H} {w w' : World} {base base' : Nat} {sp sp' : Nat → Bool} {held held' : Bool} :
    ∀ (ts : List TypeId) (vs : List Value) (ds : List (DataW H)) (ps : List MemPlace), (∀ t ∈ ts, ∀ v d p, DataW.Trod enc P w base sp held t v d p → DataW.Trod enc P w' base' sp' held' t v d p) →
    DataW.TrodAll enc P w base sp held ts vs ds ps → DataW.TrodAll enc P w' base' sp' held' ts vs ds ps
  | [], vs, ds, ps, _, h => by
    cases vs <;> cases ds <;> simp [DataW.TrodAll] at h ⊢
    exact h
  | t :: ts, vs, ds, ps, hm, h => by
    cases vs with
    | nil => cases ds <;> simp [DataW.TrodAll] at h
    | cons v vs =>
      cases ds with
      | nil => simp [DataW.TrodAll] at h
      | cons d ds =>
        obtain ⟨p, q, h1, h2, h3⟩ := h
        exact ⟨p, q, hm t (List.mem_cons_self ..) v d p h1, trodAll_map ts vs ds q (fun t ht => hm t (List.mem_cons_of_mem _ ht)) h2, h3⟩

theorem Trans.below {E E' : Env} (t : Trans E E') (hH : E.H = []) : Below E.w.heap.size E.w E'.w :=
  ⟨t.os, t.tape, t.output, t.size, fun k hk => t.keep k hk (by rintro ⟨id, o, ho, _⟩; simp [hH] at ho)⟩

/-- The row, out of a contract for all arguments of the types. -/
theorem lifted_of_pu {C : Checked} {os : Os} {f : FuncId} {fn : Func} {s : ChangeSpec} {conds : List PathCond} {H : Type} {enc : TypeId × Value → H} {b : TypeId} {S : List TypeId}
    (own : ownKnob C.prog.godebug = none) (started : os.Started) (noInit : C.prog.inits.idxOf? f = none) (hfn : C.prog.funcs[f]? = some fn)
    (witness : ∃ (w : World) (tape : Tape) (i : Input), w.os = os ∧ (w.forCall tape i).Shaped C.prog ∧ i.vars = [] ∧ Input.okWide C.prog (w.forCall tape i) .any w.heap.size f i ∧
      s.pre6 enc C.prog fn conds false (w.forCall tape i).memory i.args ∧ ({} : Assume).holds C.prog (lone (Frame.enter C.prog f i.args .normal) [] (w.forCall tape i)))
    (hp : plainB C.prog S = true) (hpar : fn.params.toList.all (fun t => S.contains t && C.prog.readableRec t && decide (t < C.prog.types.size)) = true) (hlaid : laidOutB C.prog = true)
    (hvars : s.vars = []) (hres : fn.resultTypes = #[b]) (hb : C.prog.underlying b = some .bool)
    (hspec : ∀ (ds : List (DataW H)), ds.length = fn.params.toList.length → s.fn H ds = { results := [.lit (.bool true)], args := ds })
    (hpu : ∀ Xs, TysV C.prog fn.params.toList Xs → conds = [] → Pu C.prog f Xs (.one (.bool true))) (hcond : conds = []) (hgt : GT = [] := by rfl) :
    ReturnsInHanded {} C os f .any (s.pre6 enc C.prog fn conds false) (s.post enc C.prog fn false true false false) := by
  refine returnsInHanded_of_change_sized own started noInit hfn witness ?_
  intro W base args ds gs before hval hW hcnd hsz _
  have hW' := hW
  obtain ⟨p, q, hA, hV, rfl, hfz, hnd⟩ := hW
  have hV' := hV
  rw [hvars] at hV'
  obtain ⟨rfl, rfl⟩ := trodVars_none hV'
  simp only [List.all_eq_true, Bool.and_eq_true, List.contains_eq_mem, decide_eq_true_eq] at hpar
  have hw : ∀ m ∈ DataW.weightsEach C.prog fn.params.toList ds, m ≤ reachBytes := by
    intro m hm
    have : m ∈ DataW.weightsEach C.prog (fn.params.toList ++ s.plain.varTypes C.prog) (ds ++ []) := by
      rw [List.append_nil]
      clear hsz hA hW' hval hcnd
      revert hm
      generalize fn.params.toList = ts
      induction ts generalizing ds with
      | nil => intro hm; simp [DataW.weightsEach] at hm
      | cons t ts ih =>
        cases ds with
        | nil => intro hm; simp [DataW.weightsEach] at hm
        | cons d ds =>
          intro hm
          simp only [DataW.weightsEach, List.cons_append, List.mem_append] at hm ⊢
          exact hm.imp id (ih ds)
    simpa using List.all_eq_true.1 hsz m this
  obtain ⟨Xs, hT, hl, hdl, hX⟩ := enter_all (E := ⟨W, fun _ => False, fun _ => ⟨0, 0, 0⟩, []⟩) rfl (fun _ h => h) hp fn.params.toList args.toList ds p (fun t ht => (hpar t ht).1.1)
    (fun j t v h1 h2 => hval j t v (by simpa using h1) (by simpa using h2)) hA hw
  refine Calls.mono ((hpu Xs hT hcond).2 ⟨W, fun _ => False, fun _ => ⟨0, 0, 0⟩, []⟩ args ⟨by simp, by simp, by simp, fun _ h => h.elim, fun p hp => by rw [hgt] at hp; cases hp⟩ rfl (by simpa using hl) (fun j x hj => ?_)) ?_
  · obtain ⟨v, hv, hr⟩ := hX j x hj
    have : args[j]? = some v := by simpa using hv
    rw [Array.getD_eq_getD_getElem?, this]
    exact hr
  · rintro e W' ⟨v, y, E', rfl, rfl, ⟨rfl, hH'⟩, hv, hh, tr⟩
    have bel := tr.below rfl
    obtain rfl : v = .bool true := by
      cases hv with
      | one h => cases h; rfl
    refine ⟨_, rfl, ds, [], p ++ [], [], p, [], hW', ?_, ?_, ?_, bel.frame _, fun h => by cases h⟩
    · rw [List.append_nil, hspec ds (by simpa using hdl), hres]
      exact trodAll_mk1 (shut_bool hb _)
    · rw [List.append_nil, hspec ds (by simpa using hdl)]
      refine trodAll_map _ _ _ _ ?_ hA
      intro t ht v d pp h
      exact Below.trod hlaid (hpar t ht).1.2 (hpar t ht).2 h bel (by obtain ⟨m, hm⟩ := h; exact DataW.trod_lt m _ _ _ hm)
    · rw [List.append_nil, hspec ds (by simpa using hdl), hvars]
      rfl

/-! ### What a value of a type is. -/
theorem Ty.int_inv {P : Program} {t : TypeId} {k : IntKind} {cs : List C} (hu : P.underlying t = some (.int k)) (h : Ty P t cs) : ∃ n, cs = [.int k n] ∧ k.min ≤ n ∧ n ≤ k.max := by
  cases h with
  | int h hn => rw [hu] at h; cases h; exact ⟨_, rfl, hn⟩
  | bool h => rw [hu] at h; cases h
  | str h => rw [hu] at h; cases h
  | slice h => rw [hu] at h; cases h
  | struct h => rw [hu] at h; cases h
  | array h => rw [hu] at h; cases h
theorem Ty.bool_inv {P : Program} {t : TypeId} {cs : List C} (hu : P.underlying t = some .bool) (h : Ty P t cs) : ∃ n, cs = [.bool n] := by
  cases h with
  | int h hn => rw [hu] at h; cases h
  | bool h => exact ⟨_, rfl⟩
  | str h => rw [hu] at h; cases h
  | slice h => rw [hu] at h; cases h
  | struct h => rw [hu] at h; cases h
  | array h => rw [hu] at h; cases h
theorem Ty.str_inv {P : Program} {t : TypeId} {cs : List C} (hu : P.underlying t = some .string) (h : Ty P t cs) : ∃ s, cs = [.str s] ∧ s.length ≤ lim := by
  cases h with
  | int h hn => rw [hu] at h; cases h
  | bool h => rw [hu] at h; cases h
  | str h hl => exact ⟨_, rfl, hl⟩
  | slice h => rw [hu] at h; cases h
  | struct h => rw [hu] at h; cases h
  | array h => rw [hu] at h; cases h
theorem Ty.slice_inv {P : Program} {t e : TypeId} {cs : List C} (hu : P.underlying t = some (.slice e)) (h : Ty P t cs) : ∃ rows, cs = [.sl rows] ∧ rows.length ≤ lim ∧ ∀ r ∈ rows, Ty P e r := by
  cases h with
  | int h hn => rw [hu] at h; cases h
  | bool h => rw [hu] at h; cases h
  | str h hl => rw [hu] at h; cases h
  | slice h hl hr => rw [hu] at h; cases h; exact ⟨_, rfl, hl, hr⟩
  | struct h => rw [hu] at h; cases h
  | array h => rw [hu] at h; cases h
theorem Ty.struct_inv {P : Program} {t : TypeId} {fs : Array Field} {cs : List C} (hu : P.underlying t = some (.struct fs)) (h : Ty P t cs) : cs.length = P.cellsOf t ∧ ∀ f ∈ fs.toList, Ty P f.type ((cs.drop f.offset).take (P.cellsOf f.type)) := by
  cases h with
  | int h hn => rw [hu] at h; cases h
  | bool h => rw [hu] at h; cases h
  | str h hl => rw [hu] at h; cases h
  | slice h => rw [hu] at h; cases h
  | struct h hl hf => rw [hu] at h; cases h; exact ⟨hl, hf⟩
  | array h => rw [hu] at h; cases h
theorem Ty.array_inv {P : Program} {t e : TypeId} {n : Nat} {cs : List C} (hu : P.underlying t = some (.array n e)) (h : Ty P t cs) : cs.length = P.cellsOf t ∧ ∀ i, i < n → Ty P e ((cs.drop (i * P.cellsOf e)).take (P.cellsOf e)) := by
  cases h with
  | int h hn => rw [hu] at h; cases h
  | bool h => rw [hu] at h; cases h
  | str h hl => rw [hu] at h; cases h
  | slice h => rw [hu] at h; cases h
  | struct h => rw [hu] at h; cases h
  | array h hl hf => rw [hu] at h; cases h; exact ⟨hl, hf⟩

theorem TyV.one_inv {P : Program} {t : TypeId} {X : V} (hu : isAggB P t = false) (h : TyV P t X) : ∃ c, X = .one c ∧ Ty P t [c] := by
  cases h with
  | one h _ => exact ⟨_, rfl, h⟩
  | agg h hu' => rw [hu] at hu'; cases hu'
theorem TyV.agg_inv {P : Program} {t : TypeId} {X : V} (hu : isAggB P t = true) (h : TyV P t X) : ∃ cs, X = .agg cs ∧ Ty P t cs := by
  cases h with
  | one h hu' => rw [hu] at hu'; cases hu'
  | agg h _ => exact ⟨_, rfl, h⟩
theorem TyV.int_inv {P : Program} {t : TypeId} {k : IntKind} {X : V} (hu : P.underlying t = some (.int k)) (h : TyV P t X) : ∃ n, X = .one (.int k n) ∧ k.min ≤ n ∧ n ≤ k.max := by
  obtain ⟨c, rfl, hc⟩ := h.one_inv (by simp [isAggB, hu])
  obtain ⟨n, e, hn⟩ := hc.int_inv hu
  cases e
  exact ⟨n, rfl, hn⟩
theorem TyV.slice_inv {P : Program} {t e : TypeId} {X : V} (hu : P.underlying t = some (.slice e)) (h : TyV P t X) : ∃ rows, X = .one (.sl rows) ∧ rows.length ≤ lim ∧ ∀ r ∈ rows, Ty P e r := by
  obtain ⟨c, rfl, hc⟩ := h.one_inv (by simp [isAggB, hu])
  obtain ⟨n, e, hn⟩ := hc.slice_inv hu
  cases e
  exact ⟨n, rfl, hn⟩

theorem TysV.nil_inv {P : Program} {Xs : List V} (h : TysV P [] Xs) : Xs = [] := by
  cases Xs with
  | nil => rfl
  | cons x xs => exact h.elim
theorem TysV.cons_inv {P : Program} {t : TypeId} {ts : List TypeId} {Xs : List V} (h : TysV P (t :: ts) Xs) : ∃ x xs, Xs = x :: xs ∧ TyV P t x ∧ TysV P ts xs := by
  cases Xs with
  | nil => exact h.elim
  | cons x xs => exact ⟨x, xs, rfl, h.1, h.2⟩

end Go.Lz
