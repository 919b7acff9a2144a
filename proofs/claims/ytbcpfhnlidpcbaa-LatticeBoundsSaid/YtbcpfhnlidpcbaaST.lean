/- ST: what values of the laws' types are, as data. -/
import Derived.Test.YtbcpfhnlidpcbaaSD
import Derived.Test.YtbcpfhnlidpcbaaLzE
namespace Go.Lz
set_option linter.unusedVariables false
set_option linter.unusedSimpArgs false
open Go.Proofs
def okI (k : IntKind) (n : Int) : Prop := k.min ≤ n ∧ n ≤ k.max
def okS (s : Str) : Prop := s.length ≤ lim
def okL {α : Type} (p : α → Prop) (xs : List α) : Prop := xs.length ≤ lim ∧ ∀ x ∈ xs, p x
theorem rows_inv {P : Program} {e : TypeId} {α : Type} {f : α → List C} {ok : α → Prop} (h : ∀ cs, Ty P e cs → ∃ x, cs = f x ∧ ok x) : ∀ rows : List (List C), (∀ r ∈ rows, Ty P e r) → ∃ xs : List α, rows = xs.map f ∧ ∀ x ∈ xs, ok x
  | [], _ => ⟨[], rfl, by simp⟩
  | r :: rows, hr => by
    obtain ⟨x, e1, o1⟩ := h r (hr r (by simp))
    obtain ⟨xs, e2, o2⟩ := rows_inv h rows (fun r' hr' => hr r' (by simp [hr']))
    exact ⟨x :: xs, by rw [e1, e2]; rfl, fun y hy => by rcases List.mem_cons.1 hy with rfl | hy; exact o1; exact o2 y hy⟩
def okA2 {α : Type} (p : α → Prop) (x : A2 α) : Prop := p x.a0 ∧ p x.a1
def okA3 {α : Type} (p : α → Prop) (x : A3 α) : Prop := p x.a0 ∧ p x.a1 ∧ p x.a2
set_option maxRecDepth 100000 in
theorem ti_3 (cs : List C) (h : Ty Try.prog 3 cs) : ∃ x : Int, cs = eI x ∧ (okI .i64) x := by
  obtain ⟨n, rfl, hn⟩ := h.int_inv Try.underlying3
  exact ⟨n, rfl, hn⟩
theorem tv_3 {X : V} (h : TyV Try.prog 3 X) : ∃ x : Int, X = .one (.int .i64 x) ∧ (okI .i64) x := by
  obtain ⟨c, rfl, h2⟩ := h.one_inv (by simp [isAggB, Try.underlying3])
  obtain ⟨x, e, o⟩ := ti_3 _ h2
  cases e
  exact ⟨x, rfl, o⟩
set_option maxRecDepth 100000 in
theorem ti_37 (cs : List C) (h : Ty Try.prog 37 cs) : ∃ x : List Int, cs = (eL eI) x ∧ (okL (okI .i64)) x := by
  obtain ⟨rows, rfl, hl, hr⟩ := h.slice_inv Try.underlying37
  obtain ⟨xs, rfl, ho⟩ := rows_inv ti_3 rows hr
  exact ⟨xs, rfl, by simpa using hl, ho⟩
theorem tv_37 {X : V} (h : TyV Try.prog 37 X) : ∃ x : List Int, X = .one (.sl (x.map eI)) ∧ (okL (okI .i64)) x := by
  obtain ⟨c, rfl, h2⟩ := h.one_inv (by simp [isAggB, Try.underlying37])
  obtain ⟨x, e, o⟩ := ti_37 _ h2
  cases e
  exact ⟨x, rfl, o⟩
set_option maxRecDepth 100000 in
theorem ti_9 (cs : List C) (h : Ty Try.prog 9 cs) : ∃ x : Str, cs = eS x ∧ okS x := by
  obtain ⟨n, rfl, hn⟩ := h.str_inv Try.underlying9
  exact ⟨n, rfl, hn⟩
theorem tv_9 {X : V} (h : TyV Try.prog 9 X) : ∃ x : Str, X = .one (.str x) ∧ okS x := by
  obtain ⟨c, rfl, h2⟩ := h.one_inv (by simp [isAggB, Try.underlying9])
  obtain ⟨x, e, o⟩ := ti_9 _ h2
  cases e
  exact ⟨x, rfl, o⟩
set_option maxRecDepth 100000 in
theorem ti_22 (cs : List C) (h : Ty Try.prog 22 cs) : ∃ x : List Str, cs = (eL eS) x ∧ (okL okS) x := by
  obtain ⟨rows, rfl, hl, hr⟩ := h.slice_inv Try.underlying22
  obtain ⟨xs, rfl, ho⟩ := rows_inv ti_9 rows hr
  exact ⟨xs, rfl, by simpa using hl, ho⟩
theorem tv_22 {X : V} (h : TyV Try.prog 22 X) : ∃ x : List Str, X = .one (.sl (x.map eS)) ∧ (okL okS) x := by
  obtain ⟨c, rfl, h2⟩ := h.one_inv (by simp [isAggB, Try.underlying22])
  obtain ⟨x, e, o⟩ := ti_22 _ h2
  cases e
  exact ⟨x, rfl, o⟩
set_option maxRecDepth 100000 in
theorem ti_71 (cs : List C) (h : Ty Try.prog 71 cs) : ∃ x : A2 Int, cs = (eA2 eI) x ∧ (okA2 (okI .i64)) x := by
  obtain ⟨hl, hf⟩ := h.array_inv Try.underlying71
  have e_ : Try.prog.cellsOf 71 = 2 := by kernel_rfl
  rw [e_] at hl
  have e_3 : Try.prog.cellsOf 3 = 1 := by kernel_rfl
  obtain ⟨c0, c1, rfl⟩ : ∃ c0 c1, cs = [c0, c1] := by
    match cs, hl with
    | [c0, c1], _ => exact ⟨c0, c1, rfl⟩
  have h0 : Ty Try.prog 3 [c0] := by
    have := hf 0 (by decide)
    simp only [e_3] at this
    exact this
  obtain ⟨x0, q0, o0⟩ := ti_3 _ h0
  have h1 : Ty Try.prog 3 [c1] := by
    have := hf 1 (by decide)
    simp only [e_3] at this
    exact this
  obtain ⟨x1, q1, o1⟩ := ti_3 _ h1
  refine ⟨⟨x0, x1⟩, ?_, ⟨o0, o1⟩⟩
  have hx : (eA2 eI) ⟨x0, x1⟩ = eI x0 ++ eI x1 := by simp [go_sem]
  rw [hx, ← q0, ← q1]; rfl
theorem tv_71 {X : V} (h : TyV Try.prog 71 X) : ∃ x : A2 Int, X = .agg ((eA2 eI) x) ∧ (okA2 (okI .i64)) x := by
  obtain ⟨cs, rfl, h2⟩ := h.agg_inv (by simp [isAggB, Try.underlying71])
  obtain ⟨x, rfl, o⟩ := ti_71 _ h2
  exact ⟨x, rfl, o⟩
set_option maxRecDepth 100000 in
theorem ti_23 (cs : List C) (h : Ty Try.prog 23 cs) : ∃ x : List (A2 Int), cs = (eL (eA2 eI)) x ∧ (okL (okA2 (okI .i64))) x := by
  obtain ⟨rows, rfl, hl, hr⟩ := h.slice_inv Try.underlying23
  obtain ⟨xs, rfl, ho⟩ := rows_inv ti_71 rows hr
  exact ⟨xs, rfl, by simpa using hl, ho⟩
theorem tv_23 {X : V} (h : TyV Try.prog 23 X) : ∃ x : List (A2 Int), X = .one (.sl (x.map (eA2 eI))) ∧ (okL (okA2 (okI .i64))) x := by
  obtain ⟨c, rfl, h2⟩ := h.one_inv (by simp [isAggB, Try.underlying23])
  obtain ⟨x, e, o⟩ := ti_23 _ h2
  cases e
  exact ⟨x, rfl, o⟩
def ok_api_Lattice (x : api_Lattice) : Prop := (okL okS) x.Names ∧ (okL (okA2 (okI .i64))) x.Below
set_option maxRecDepth 100000 in
theorem ti_25 (cs : List C) (h : Ty Try.prog 25 cs) : ∃ x : api_Lattice, cs = e_api_Lattice x ∧ ok_api_Lattice x := by
  obtain ⟨hl, hf⟩ := h.struct_inv Try.underlying25
  have e_ : Try.prog.cellsOf 25 = 2 := by kernel_rfl
  rw [e_] at hl
  have e_22 : Try.prog.cellsOf 22 = 1 := by kernel_rfl
  have e_23 : Try.prog.cellsOf 23 = 1 := by kernel_rfl
  obtain ⟨c0, c1, rfl⟩ : ∃ c0 c1, cs = [c0, c1] := by
    match cs, hl with
    | [c0, c1], _ => exact ⟨c0, c1, rfl⟩
  have h0 : Ty Try.prog 22 [c0] := by
    have := hf _ (List.mem_of_getElem? (i := 0) rfl)
    simp only [e_22] at this
    exact this
  obtain ⟨x0, q0, o0⟩ := ti_22 _ h0
  have h1 : Ty Try.prog 23 [c1] := by
    have := hf _ (List.mem_of_getElem? (i := 1) rfl)
    simp only [e_23] at this
    exact this
  obtain ⟨x1, q1, o1⟩ := ti_23 _ h1
  refine ⟨⟨x0, x1⟩, ?_, ⟨o0, o1⟩⟩
  have hx : e_api_Lattice ⟨x0, x1⟩ = (eL eS) x0 ++ (eL (eA2 eI)) x1 := by simp [go_sem]
  rw [hx, ← q0, ← q1]; rfl
theorem tv_25 {X : V} (h : TyV Try.prog 25 X) : ∃ x : api_Lattice, X = .agg (e_api_Lattice x) ∧ ok_api_Lattice x := by
  obtain ⟨cs, rfl, h2⟩ := h.agg_inv (by simp [isAggB, Try.underlying25])
  obtain ⟨x, rfl, o⟩ := ti_25 _ h2
  exact ⟨x, rfl, o⟩
set_option maxRecDepth 100000 in
theorem ti_62 (cs : List C) (h : Ty Try.prog 62 cs) : ∃ x : A3 Int, cs = (eA3 eI) x ∧ (okA3 (okI .i64)) x := by
  obtain ⟨hl, hf⟩ := h.array_inv Try.underlying62
  have e_ : Try.prog.cellsOf 62 = 3 := by kernel_rfl
  rw [e_] at hl
  have e_3 : Try.prog.cellsOf 3 = 1 := by kernel_rfl
  obtain ⟨c0, c1, c2, rfl⟩ : ∃ c0 c1 c2, cs = [c0, c1, c2] := by
    match cs, hl with
    | [c0, c1, c2], _ => exact ⟨c0, c1, c2, rfl⟩
  have h0 : Ty Try.prog 3 [c0] := by
    have := hf 0 (by decide)
    simp only [e_3] at this
    exact this
  obtain ⟨x0, q0, o0⟩ := ti_3 _ h0
  have h1 : Ty Try.prog 3 [c1] := by
    have := hf 1 (by decide)
    simp only [e_3] at this
    exact this
  obtain ⟨x1, q1, o1⟩ := ti_3 _ h1
  have h2 : Ty Try.prog 3 [c2] := by
    have := hf 2 (by decide)
    simp only [e_3] at this
    exact this
  obtain ⟨x2, q2, o2⟩ := ti_3 _ h2
  refine ⟨⟨x0, x1, x2⟩, ?_, ⟨o0, o1, o2⟩⟩
  have hx : (eA3 eI) ⟨x0, x1, x2⟩ = eI x0 ++ eI x1 ++ eI x2 := by simp [go_sem]
  rw [hx, ← q0, ← q1, ← q2]; rfl
theorem tv_62 {X : V} (h : TyV Try.prog 62 X) : ∃ x : A3 Int, X = .agg ((eA3 eI) x) ∧ (okA3 (okI .i64)) x := by
  obtain ⟨cs, rfl, h2⟩ := h.agg_inv (by simp [isAggB, Try.underlying62])
  obtain ⟨x, rfl, o⟩ := ti_62 _ h2
  exact ⟨x, rfl, o⟩
end Go.Lz

