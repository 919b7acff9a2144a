/- ST: what values of the laws' types are, as data. -/
import Derived.Test.YtakkdadfikcpoaaSD
import Derived.Test.YtakkdadfikcpoaaLzE
namespace Go.Lz
set_option linter.unusedVariables false
set_option linter.unusedSimpArgs false
open Go.Proofs
def okI (k : IntKind) (n : Int) : Prop := k.min ≤ n ∧ n ≤ k.max
def okS (s : Str) : Prop := s.length ≤ lim
def okL {α : Type} (p : α → Prop) (xs : List α) : Prop := xs.length ≤ lim ∧ ∀ x ∈ xs, p x
theorem rows_inv {P : Program} {e : TypeId} {α : Type} {f : α → List C} {ok : α → Prop} (h : ∀ cs, Ty P e cs → ∃ x, cs = f x ∧ ok x) : ∀ rows : List (List C), (∀ r ∈ rows, Ty P e r) → ∃ xs : List α, rows = xs.map f ∧ ∀ x ∈ xs, ok x
  | [], _ => ⟨[], rfl, by simp⟩
  | r :: rows, hr => by
    obtain ⟨x, e1, o1⟩ := h r (hr r (by simp))
    obtain ⟨xs, e2, o2⟩ := rows_inv h rows (fun r' hr' => hr r' (by simp [hr']))
    exact ⟨x :: xs, by rw [e1, e2]; rfl, fun y hy => by rcases List.mem_cons.1 hy with rfl | hy; exact o1; exact o2 y hy⟩
theorem rows_invB {P : Program} {e : TypeId} {α : Type} {f : α → List C} {ok : α → Prop} : ∀ rows : List (List C), (∀ r ∈ rows, Ty P e r) → (∀ r ∈ rows, Ty P e r → ∃ x, r = f x ∧ ok x) → ∃ xs : List α, rows = xs.map f ∧ ∀ x ∈ xs, ok x
  | [], _, _ => ⟨[], rfl, by simp⟩
  | r :: rows, hr, h => by
    obtain ⟨x, e1, o1⟩ := h r (by simp) (hr r (by simp))
    obtain ⟨xs, e2, o2⟩ := rows_invB rows (fun r' hr' => hr r' (by simp [hr'])) (fun r' hr' => h r' (by simp [hr']))
    exact ⟨x :: xs, by rw [e1, e2]; rfl, fun y hy => by rcases List.mem_cons.1 hy with rfl | hy; exact o1; exact o2 y hy⟩
def okA2 {α : Type} (p : α → Prop) (x : A2 α) : Prop := p x.a0 ∧ p x.a1
set_option maxRecDepth 100000 in
theorem ti_9 (cs : List C) (h : Ty Try.prog 9 cs) : ∃ x : Str, cs = eS x ∧ okS x := by
  obtain ⟨n, rfl, hn⟩ := h.str_inv Try.underlying9
  exact ⟨n, rfl, hn⟩
theorem tv_9 {X : V} (h : TyV Try.prog 9 X) : ∃ x : Str, X = .one (.str x) ∧ okS x := by
  obtain ⟨c, rfl, h2⟩ := h.one_inv (by simp [isAggB, Try.underlying9])
  obtain ⟨x, e, o⟩ := ti_9 _ h2
  cases e
  exact ⟨x, rfl, o⟩
set_option maxRecDepth 100000 in
theorem ti_22 (cs : List C) (h : Ty Try.prog 22 cs) : ∃ x : List Str, cs = (eL eS) x ∧ (okL okS) x := by
  obtain ⟨rows, rfl, hl, hr⟩ := h.slice_inv Try.underlying22
  obtain ⟨xs, rfl, ho⟩ := rows_inv ti_9 rows hr
  exact ⟨xs, rfl, by simpa using hl, ho⟩
theorem tv_22 {X : V} (h : TyV Try.prog 22 X) : ∃ x : List Str, X = .one (.sl (x.map eS)) ∧ (okL okS) x := by
  obtain ⟨c, rfl, h2⟩ := h.one_inv (by simp [isAggB, Try.underlying22])
  obtain ⟨x, e, o⟩ := ti_22 _ h2
  cases e
  exact ⟨x, rfl, o⟩
set_option maxRecDepth 100000 in
theorem ti_3 (cs : List C) (h : Ty Try.prog 3 cs) : ∃ x : Int, cs = eI x ∧ (okI .i64) x := by
  obtain ⟨n, rfl, hn⟩ := h.int_inv Try.underlying3
  exact ⟨n, rfl, hn⟩
theorem tv_3 {X : V} (h : TyV Try.prog 3 X) : ∃ x : Int, X = .one (.int .i64 x) ∧ (okI .i64) x := by
  obtain ⟨c, rfl, h2⟩ := h.one_inv (by simp [isAggB, Try.underlying3])
  obtain ⟨x, e, o⟩ := ti_3 _ h2
  cases e
  exact ⟨x, rfl, o⟩
set_option maxRecDepth 100000 in
theorem ti_55 (cs : List C) (h : Ty Try.prog 55 cs) : ∃ x : A2 Int, cs = (eA2 eI) x ∧ (okA2 (okI .i64)) x := by
  obtain ⟨hl, hf⟩ := h.array_inv Try.underlying55
  have e_ : Try.prog.cellsOf 55 = 2 := by kernel_rfl
  rw [e_] at hl
  have e_3 : Try.prog.cellsOf 3 = 1 := by kernel_rfl
  obtain ⟨c0, c1, rfl⟩ : ∃ c0 c1, cs = [c0, c1] := by
    match cs, hl with
    | [c0, c1], _ => exact ⟨c0, c1, rfl⟩
  have h0 : Ty Try.prog 3 [c0] := by
    have := hf 0 (by decide)
    simp only [e_3] at this
    exact this
  obtain ⟨x0, q0, o0⟩ := ti_3 _ h0
  have h1 : Ty Try.prog 3 [c1] := by
    have := hf 1 (by decide)
    simp only [e_3] at this
    exact this
  obtain ⟨x1, q1, o1⟩ := ti_3 _ h1
  refine ⟨⟨x0, x1⟩, ?_, ⟨o0, o1⟩⟩
  have hx : (eA2 eI) ⟨x0, x1⟩ = eI x0 ++ eI x1 := by simp [go_sem]
  rw [hx, ← q0, ← q1]; rfl
theorem tv_55 {X : V} (h : TyV Try.prog 55 X) : ∃ x : A2 Int, X = .agg ((eA2 eI) x) ∧ (okA2 (okI .i64)) x := by
  obtain ⟨cs, rfl, h2⟩ := h.agg_inv (by simp [isAggB, Try.underlying55])
  obtain ⟨x, rfl, o⟩ := ti_55 _ h2
  exact ⟨x, rfl, o⟩
set_option maxRecDepth 100000 in
theorem ti_23 (cs : List C) (h : Ty Try.prog 23 cs) : ∃ x : List (A2 Int), cs = (eL (eA2 eI)) x ∧ (okL (okA2 (okI .i64))) x := by
  obtain ⟨rows, rfl, hl, hr⟩ := h.slice_inv Try.underlying23
  obtain ⟨xs, rfl, ho⟩ := rows_inv ti_55 rows hr
  exact ⟨xs, rfl, by simpa using hl, ho⟩
theorem tv_23 {X : V} (h : TyV Try.prog 23 X) : ∃ x : List (A2 Int), X = .one (.sl (x.map (eA2 eI))) ∧ (okL (okA2 (okI .i64))) x := by
  obtain ⟨c, rfl, h2⟩ := h.one_inv (by simp [isAggB, Try.underlying23])
  obtain ⟨x, e, o⟩ := ti_23 _ h2
  cases e
  exact ⟨x, rfl, o⟩
def ok_api_Lattice (x : api_Lattice) : Prop := (okL okS) x.Names ∧ (okL (okA2 (okI .i64))) x.Below
set_option maxRecDepth 100000 in
theorem ti_25 (cs : List C) (h : Ty Try.prog 25 cs) : ∃ x : api_Lattice, cs = e_api_Lattice x ∧ ok_api_Lattice x := by
  obtain ⟨hl, hf⟩ := h.struct_inv Try.underlying25
  have e_ : Try.prog.cellsOf 25 = 2 := by kernel_rfl
  rw [e_] at hl
  have e_22 : Try.prog.cellsOf 22 = 1 := by kernel_rfl
  have e_23 : Try.prog.cellsOf 23 = 1 := by kernel_rfl
  obtain ⟨c0, c1, rfl⟩ : ∃ c0 c1, cs = [c0, c1] := by
    match cs, hl with
    | [c0, c1], _ => exact ⟨c0, c1, rfl⟩
  have h0 : Ty Try.prog 22 [c0] := by
    have := hf _ (List.mem_of_getElem? (i := 0) rfl)
    simp only [e_22] at this
    exact this
  obtain ⟨x0, q0, o0⟩ := ti_22 _ h0
  have h1 : Ty Try.prog 23 [c1] := by
    have := hf _ (List.mem_of_getElem? (i := 1) rfl)
    simp only [e_23] at this
    exact this
  obtain ⟨x1, q1, o1⟩ := ti_23 _ h1
  refine ⟨⟨x0, x1⟩, ?_, ⟨o0, o1⟩⟩
  have hx : e_api_Lattice ⟨x0, x1⟩ = (eL eS) x0 ++ (eL (eA2 eI)) x1 := by simp [go_sem]
  rw [hx, ← q0, ← q1]; rfl
theorem tv_25 {X : V} (h : TyV Try.prog 25 X) : ∃ x : api_Lattice, X = .agg (e_api_Lattice x) ∧ ok_api_Lattice x := by
  obtain ⟨cs, rfl, h2⟩ := h.agg_inv (by simp [isAggB, Try.underlying25])
  obtain ⟨x, rfl, o⟩ := ti_25 _ h2
  exact ⟨x, rfl, o⟩
def ok_api_Site (x : api_Site) : Prop := okS x.Name ∧ (okI .i64) x.From ∧ (okI .i64) x.To
set_option maxRecDepth 100000 in
theorem ti_57 (cs : List C) (h : Ty Try.prog 57 cs) : ∃ x : api_Site, cs = e_api_Site x ∧ ok_api_Site x := by
  obtain ⟨hl, hf⟩ := h.struct_inv Try.underlying57
  have e_ : Try.prog.cellsOf 57 = 3 := by kernel_rfl
  rw [e_] at hl
  have e_3 : Try.prog.cellsOf 3 = 1 := by kernel_rfl
  have e_9 : Try.prog.cellsOf 9 = 1 := by kernel_rfl
  obtain ⟨c0, c1, c2, rfl⟩ : ∃ c0 c1 c2, cs = [c0, c1, c2] := by
    match cs, hl with
    | [c0, c1, c2], _ => exact ⟨c0, c1, c2, rfl⟩
  have h0 : Ty Try.prog 9 [c0] := by
    have := hf _ (List.mem_of_getElem? (i := 0) rfl)
    simp only [e_9] at this
    exact this
  obtain ⟨x0, q0, o0⟩ := ti_9 _ h0
  have h1 : Ty Try.prog 3 [c1] := by
    have := hf _ (List.mem_of_getElem? (i := 1) rfl)
    simp only [e_3] at this
    exact this
  obtain ⟨x1, q1, o1⟩ := ti_3 _ h1
  have h2 : Ty Try.prog 3 [c2] := by
    have := hf _ (List.mem_of_getElem? (i := 2) rfl)
    simp only [e_3] at this
    exact this
  obtain ⟨x2, q2, o2⟩ := ti_3 _ h2
  refine ⟨⟨x0, x1, x2⟩, ?_, ⟨o0, o1, o2⟩⟩
  have hx : e_api_Site ⟨x0, x1, x2⟩ = eS x0 ++ eI x1 ++ eI x2 := by simp [go_sem]
  rw [hx, ← q0, ← q1, ← q2]; rfl
theorem tv_57 {X : V} (h : TyV Try.prog 57 X) : ∃ x : api_Site, X = .agg (e_api_Site x) ∧ ok_api_Site x := by
  obtain ⟨cs, rfl, h2⟩ := h.agg_inv (by simp [isAggB, Try.underlying57])
  obtain ⟨x, rfl, o⟩ := ti_57 _ h2
  exact ⟨x, rfl, o⟩
set_option maxRecDepth 100000 in
theorem ti_26 (cs : List C) (h : Ty Try.prog 26 cs) : ∃ x : List api_Site, cs = (eL e_api_Site) x ∧ (okL ok_api_Site) x := by
  obtain ⟨rows, rfl, hl, hr⟩ := h.slice_inv Try.underlying26
  obtain ⟨xs, rfl, ho⟩ := rows_inv ti_57 rows hr
  exact ⟨xs, rfl, by simpa using hl, ho⟩
theorem tv_26 {X : V} (h : TyV Try.prog 26 X) : ∃ x : List api_Site, X = .one (.sl (x.map e_api_Site)) ∧ (okL ok_api_Site) x := by
  obtain ⟨c, rfl, h2⟩ := h.one_inv (by simp [isAggB, Try.underlying26])
  obtain ⟨x, e, o⟩ := ti_26 _ h2
  cases e
  exact ⟨x, rfl, o⟩
def ok_api_Type (x : api_Type) : Prop := (okI .i64) x.Kind ∧ (okI .i64) x.Low ∧ (okI .i64) x.Len
set_option maxRecDepth 100000 in
theorem ti_59 (cs : List C) (h : Ty Try.prog 59 cs) : ∃ x : api_Type, cs = e_api_Type x ∧ ok_api_Type x := by
  obtain ⟨hl, hf⟩ := h.struct_inv Try.underlying59
  have e_ : Try.prog.cellsOf 59 = 3 := by kernel_rfl
  rw [e_] at hl
  have e_3 : Try.prog.cellsOf 3 = 1 := by kernel_rfl
  obtain ⟨c0, c1, c2, rfl⟩ : ∃ c0 c1 c2, cs = [c0, c1, c2] := by
    match cs, hl with
    | [c0, c1, c2], _ => exact ⟨c0, c1, c2, rfl⟩
  have h0 : Ty Try.prog 3 [c0] := by
    have := hf _ (List.mem_of_getElem? (i := 0) rfl)
    simp only [e_3] at this
    exact this
  obtain ⟨x0, q0, o0⟩ := ti_3 _ h0
  have h1 : Ty Try.prog 3 [c1] := by
    have := hf _ (List.mem_of_getElem? (i := 1) rfl)
    simp only [e_3] at this
    exact this
  obtain ⟨x1, q1, o1⟩ := ti_3 _ h1
  have h2 : Ty Try.prog 3 [c2] := by
    have := hf _ (List.mem_of_getElem? (i := 2) rfl)
    simp only [e_3] at this
    exact this
  obtain ⟨x2, q2, o2⟩ := ti_3 _ h2
  refine ⟨⟨x0, x1, x2⟩, ?_, ⟨o0, o1, o2⟩⟩
  have hx : e_api_Type ⟨x0, x1, x2⟩ = eI x0 ++ eI x1 ++ eI x2 := by simp [go_sem]
  rw [hx, ← q0, ← q1, ← q2]; rfl
theorem tv_59 {X : V} (h : TyV Try.prog 59 X) : ∃ x : api_Type, X = .agg (e_api_Type x) ∧ ok_api_Type x := by
  obtain ⟨cs, rfl, h2⟩ := h.agg_inv (by simp [isAggB, Try.underlying59])
  obtain ⟨x, rfl, o⟩ := ti_59 _ h2
  exact ⟨x, rfl, o⟩
def ok_api_Var (x : api_Var) : Prop := okS x.Name ∧ ok_api_Type x.Type_ ∧ (okI .i64) x.Mode ∧ (okI .i64) x.Label ∧ (okI .i64) x.Safe
set_option maxRecDepth 100000 in
theorem ti_61 (cs : List C) (h : Ty Try.prog 61 cs) : ∃ x : api_Var, cs = e_api_Var x ∧ ok_api_Var x := by
  obtain ⟨hl, hf⟩ := h.struct_inv Try.underlying61
  have e_ : Try.prog.cellsOf 61 = 7 := by kernel_rfl
  rw [e_] at hl
  have e_3 : Try.prog.cellsOf 3 = 1 := by kernel_rfl
  have e_9 : Try.prog.cellsOf 9 = 1 := by kernel_rfl
  have e_59 : Try.prog.cellsOf 59 = 3 := by kernel_rfl
  obtain ⟨c0, c1, c2, c3, c4, c5, c6, rfl⟩ : ∃ c0 c1 c2 c3 c4 c5 c6, cs = [c0, c1, c2, c3, c4, c5, c6] := by
    match cs, hl with
    | [c0, c1, c2, c3, c4, c5, c6], _ => exact ⟨c0, c1, c2, c3, c4, c5, c6, rfl⟩
  have h0 : Ty Try.prog 9 [c0] := by
    have := hf _ (List.mem_of_getElem? (i := 0) rfl)
    simp only [e_9] at this
    exact this
  obtain ⟨x0, q0, o0⟩ := ti_9 _ h0
  have h1 : Ty Try.prog 59 [c1, c2, c3] := by
    have := hf _ (List.mem_of_getElem? (i := 1) rfl)
    simp only [e_59] at this
    exact this
  obtain ⟨x1, q1, o1⟩ := ti_59 _ h1
  have h2 : Ty Try.prog 3 [c4] := by
    have := hf _ (List.mem_of_getElem? (i := 2) rfl)
    simp only [e_3] at this
    exact this
  obtain ⟨x2, q2, o2⟩ := ti_3 _ h2
  have h3 : Ty Try.prog 3 [c5] := by
    have := hf _ (List.mem_of_getElem? (i := 3) rfl)
    simp only [e_3] at this
    exact this
  obtain ⟨x3, q3, o3⟩ := ti_3 _ h3
  have h4 : Ty Try.prog 3 [c6] := by
    have := hf _ (List.mem_of_getElem? (i := 4) rfl)
    simp only [e_3] at this
    exact this
  obtain ⟨x4, q4, o4⟩ := ti_3 _ h4
  refine ⟨⟨x0, x1, x2, x3, x4⟩, ?_, ⟨o0, o1, o2, o3, o4⟩⟩
  have hx : e_api_Var ⟨x0, x1, x2, x3, x4⟩ = eS x0 ++ e_api_Type x1 ++ eI x2 ++ eI x3 ++ eI x4 := by simp [go_sem]
  rw [hx, ← q0, ← q1, ← q2, ← q3, ← q4]; rfl
theorem tv_61 {X : V} (h : TyV Try.prog 61 X) : ∃ x : api_Var, X = .agg (e_api_Var x) ∧ ok_api_Var x := by
  obtain ⟨cs, rfl, h2⟩ := h.agg_inv (by simp [isAggB, Try.underlying61])
  obtain ⟨x, rfl, o⟩ := ti_61 _ h2
  exact ⟨x, rfl, o⟩
set_option maxRecDepth 100000 in
theorem ti_27 (cs : List C) (h : Ty Try.prog 27 cs) : ∃ x : List api_Var, cs = (eL e_api_Var) x ∧ (okL ok_api_Var) x := by
  obtain ⟨rows, rfl, hl, hr⟩ := h.slice_inv Try.underlying27
  obtain ⟨xs, rfl, ho⟩ := rows_inv ti_61 rows hr
  exact ⟨xs, rfl, by simpa using hl, ho⟩
theorem tv_27 {X : V} (h : TyV Try.prog 27 X) : ∃ x : List api_Var, X = .one (.sl (x.map e_api_Var)) ∧ (okL ok_api_Var) x := by
  obtain ⟨c, rfl, h2⟩ := h.one_inv (by simp [isAggB, Try.underlying27])
  obtain ⟨x, e, o⟩ := ti_27 _ h2
  cases e
  exact ⟨x, rfl, o⟩
def ok_api_Block (x : api_Block) : Prop := okS x.Name ∧ okS x.Kind ∧ (okI .i64) x.Label
set_option maxRecDepth 100000 in
theorem ti_63 (cs : List C) (h : Ty Try.prog 63 cs) : ∃ x : api_Block, cs = e_api_Block x ∧ ok_api_Block x := by
  obtain ⟨hl, hf⟩ := h.struct_inv Try.underlying63
  have e_ : Try.prog.cellsOf 63 = 3 := by kernel_rfl
  rw [e_] at hl
  have e_3 : Try.prog.cellsOf 3 = 1 := by kernel_rfl
  have e_9 : Try.prog.cellsOf 9 = 1 := by kernel_rfl
  obtain ⟨c0, c1, c2, rfl⟩ : ∃ c0 c1 c2, cs = [c0, c1, c2] := by
    match cs, hl with
    | [c0, c1, c2], _ => exact ⟨c0, c1, c2, rfl⟩
  have h0 : Ty Try.prog 9 [c0] := by
    have := hf _ (List.mem_of_getElem? (i := 0) rfl)
    simp only [e_9] at this
    exact this
  obtain ⟨x0, q0, o0⟩ := ti_9 _ h0
  have h1 : Ty Try.prog 9 [c1] := by
    have := hf _ (List.mem_of_getElem? (i := 1) rfl)
    simp only [e_9] at this
    exact this
  obtain ⟨x1, q1, o1⟩ := ti_9 _ h1
  have h2 : Ty Try.prog 3 [c2] := by
    have := hf _ (List.mem_of_getElem? (i := 2) rfl)
    simp only [e_3] at this
    exact this
  obtain ⟨x2, q2, o2⟩ := ti_3 _ h2
  refine ⟨⟨x0, x1, x2⟩, ?_, ⟨o0, o1, o2⟩⟩
  have hx : e_api_Block ⟨x0, x1, x2⟩ = eS x0 ++ eS x1 ++ eI x2 := by simp [go_sem]
  rw [hx, ← q0, ← q1, ← q2]; rfl
theorem tv_63 {X : V} (h : TyV Try.prog 63 X) : ∃ x : api_Block, X = .agg (e_api_Block x) ∧ ok_api_Block x := by
  obtain ⟨cs, rfl, h2⟩ := h.agg_inv (by simp [isAggB, Try.underlying63])
  obtain ⟨x, rfl, o⟩ := ti_63 _ h2
  exact ⟨x, rfl, o⟩
set_option maxRecDepth 100000 in
theorem ti_28 (cs : List C) (h : Ty Try.prog 28 cs) : ∃ x : List api_Block, cs = (eL e_api_Block) x ∧ (okL ok_api_Block) x := by
  obtain ⟨rows, rfl, hl, hr⟩ := h.slice_inv Try.underlying28
  obtain ⟨xs, rfl, ho⟩ := rows_inv ti_63 rows hr
  exact ⟨xs, rfl, by simpa using hl, ho⟩
theorem tv_28 {X : V} (h : TyV Try.prog 28 X) : ∃ x : List api_Block, X = .one (.sl (x.map e_api_Block)) ∧ (okL ok_api_Block) x := by
  obtain ⟨c, rfl, h2⟩ := h.one_inv (by simp [isAggB, Try.underlying28])
  obtain ⟨x, e, o⟩ := ti_28 _ h2
  cases e
  exact ⟨x, rfl, o⟩
set_option maxRecDepth 100000 in
theorem ti_43 (cs : List C) (h : Ty Try.prog 43 cs) : ∃ x : List Int, cs = (eL eI) x ∧ (okL (okI .i64)) x := by
  obtain ⟨rows, rfl, hl, hr⟩ := h.slice_inv Try.underlying43
  obtain ⟨xs, rfl, ho⟩ := rows_inv ti_3 rows hr
  exact ⟨xs, rfl, by simpa using hl, ho⟩
theorem tv_43 {X : V} (h : TyV Try.prog 43 X) : ∃ x : List Int, X = .one (.sl (x.map eI)) ∧ (okL (okI .i64)) x := by
  obtain ⟨c, rfl, h2⟩ := h.one_inv (by simp [isAggB, Try.underlying43])
  obtain ⟨x, e, o⟩ := ti_43 _ h2
  cases e
  exact ⟨x, rfl, o⟩
inductive ok_api_Expr : api_Expr → Prop
  | mk {x : api_Expr} (h : (okI .i64) x.Op ∧ (okI .i64) x.N ∧ (okI .i64) x.Kind ∧ okS x.Name ∧ x.Args.length ≤ lim) (h0 : ∀ y ∈ x.Args, ok_api_Expr y) : ok_api_Expr x
theorem ok_api_Expr.all {x : api_Expr} (h : ok_api_Expr x) : (okI .i64) x.Op ∧ (okI .i64) x.N ∧ (okI .i64) x.Kind ∧ okS x.Name ∧ (okL ok_api_Expr) x.Args := by
  cases h with
  | mk h h0 => obtain ⟨a0, a1, a2, a3, b0⟩ := h; exact ⟨a0, a1, a2, a3, ⟨b0, h0⟩⟩
set_option maxRecDepth 100000 in
theorem tr_144 : ∀ (n : Nat) (cs : List C), SizeOf.sizeOf cs < n → Ty Try.prog 144 cs → ∃ x : api_Expr, cs = e_api_Expr x ∧ ok_api_Expr x
  | 0, cs, hs, h => by omega
  | n + 1, cs, hs, h => by
    obtain ⟨hl, hf⟩ := h.struct_inv Try.underlying144
    have e_ : Try.prog.cellsOf 144 = 5 := by kernel_rfl
    rw [e_] at hl
    have e_3 : Try.prog.cellsOf 3 = 1 := by kernel_rfl
    have e_9 : Try.prog.cellsOf 9 = 1 := by kernel_rfl
    have e_142 : Try.prog.cellsOf 142 = 1 := by kernel_rfl
    obtain ⟨c0, c1, c2, c3, c4, rfl⟩ : ∃ c0 c1 c2 c3 c4, cs = [c0, c1, c2, c3, c4] := by
      match cs, hl with
      | [c0, c1, c2, c3, c4], _ => exact ⟨c0, c1, c2, c3, c4, rfl⟩
    have h0 : Ty Try.prog 3 [c0] := by
      have := hf _ (List.mem_of_getElem? (i := 0) rfl)
      simp only [e_3] at this
      exact this
    obtain ⟨x0, q0, o0⟩ := ti_3 _ h0
    have h1 : Ty Try.prog 3 [c1] := by
      have := hf _ (List.mem_of_getElem? (i := 1) rfl)
      simp only [e_3] at this
      exact this
    obtain ⟨x1, q1, o1⟩ := ti_3 _ h1
    have h2 : Ty Try.prog 3 [c2] := by
      have := hf _ (List.mem_of_getElem? (i := 2) rfl)
      simp only [e_3] at this
      exact this
    obtain ⟨x2, q2, o2⟩ := ti_3 _ h2
    have h3 : Ty Try.prog 9 [c3] := by
      have := hf _ (List.mem_of_getElem? (i := 3) rfl)
      simp only [e_9] at this
      exact this
    obtain ⟨x3, q3, o3⟩ := ti_9 _ h3
    have h4 : Ty Try.prog 142 [c4] := by
      have := hf _ (List.mem_of_getElem? (i := 4) rfl)
      simp only [e_142] at this
      exact this
    obtain ⟨rows4, w4, l4, r4⟩ := h4.slice_inv Try.underlying142
    cases w4
    obtain ⟨x4, q4, o4⟩ := rows_invB rows4 r4 (fun r hr hy => tr_144 n r (by have := List.sizeOf_lt_of_mem hr; simp at hs; omega) hy)
    subst q4
    refine ⟨⟨x0, x1, x2, x3, x4⟩, ?_, .mk ⟨o0, o1, o2, o3, by simpa using l4⟩ o4⟩
    have hx : e_api_Expr ⟨x0, x1, x2, x3, x4⟩ = eI x0 ++ eI x1 ++ eI x2 ++ eS x3 ++ [.sl (x4.map e_api_Expr)] := by simp [go_sem]
    rw [hx, ← q0, ← q1, ← q2, ← q3]; rfl
theorem ti_144 (cs : List C) (h : Ty Try.prog 144 cs) : ∃ x : api_Expr, cs = e_api_Expr x ∧ ok_api_Expr x := tr_144 _ cs (Nat.lt_succ_self _) h
theorem tv_144 {X : V} (h : TyV Try.prog 144 X) : ∃ x : api_Expr, X = .agg (e_api_Expr x) ∧ ok_api_Expr x := by
  obtain ⟨cs, rfl, h2⟩ := h.agg_inv (by simp [isAggB, Try.underlying144])
  obtain ⟨x, rfl, o⟩ := ti_144 _ h2
  exact ⟨x, rfl, o⟩
set_option maxRecDepth 100000 in
theorem ti_142 (cs : List C) (h : Ty Try.prog 142 cs) : ∃ x : List api_Expr, cs = (eL e_api_Expr) x ∧ (okL ok_api_Expr) x := by
  obtain ⟨rows, rfl, hl, hr⟩ := h.slice_inv Try.underlying142
  obtain ⟨xs, rfl, ho⟩ := rows_inv ti_144 rows hr
  exact ⟨xs, rfl, by simpa using hl, ho⟩
theorem tv_142 {X : V} (h : TyV Try.prog 142 X) : ∃ x : List api_Expr, X = .one (.sl (x.map e_api_Expr)) ∧ (okL ok_api_Expr) x := by
  obtain ⟨c, rfl, h2⟩ := h.one_inv (by simp [isAggB, Try.underlying142])
  obtain ⟨x, e, o⟩ := ti_142 _ h2
  cases e
  exact ⟨x, rfl, o⟩
inductive ok_api_Stmt : api_Stmt → Prop
  | mk {x : api_Stmt} (h : (okI .i64) x.Kind ∧ okS x.Name ∧ ok_api_Expr x.Target ∧ ok_api_Expr x.Value ∧ (okL ok_api_Expr) x.Args ∧ x.Body.length ≤ lim ∧ x.Else.length ≤ lim) (h0 : ∀ y ∈ x.Body, ok_api_Stmt y) (h1 : ∀ y ∈ x.Else, ok_api_Stmt y) : ok_api_Stmt x
theorem ok_api_Stmt.all {x : api_Stmt} (h : ok_api_Stmt x) : (okI .i64) x.Kind ∧ okS x.Name ∧ ok_api_Expr x.Target ∧ ok_api_Expr x.Value ∧ (okL ok_api_Expr) x.Args ∧ (okL ok_api_Stmt) x.Body ∧ (okL ok_api_Stmt) x.Else := by
  cases h with
  | mk h h0 h1 => obtain ⟨a0, a1, a2, a3, a4, b0, b1⟩ := h; exact ⟨a0, a1, a2, a3, a4, ⟨b0, h0⟩, ⟨b1, h1⟩⟩
set_option maxRecDepth 100000 in
theorem tr_146 : ∀ (n : Nat) (cs : List C), SizeOf.sizeOf cs < n → Ty Try.prog 146 cs → ∃ x : api_Stmt, cs = e_api_Stmt x ∧ ok_api_Stmt x
  | 0, cs, hs, h => by omega
  | n + 1, cs, hs, h => by
    obtain ⟨hl, hf⟩ := h.struct_inv Try.underlying146
    have e_ : Try.prog.cellsOf 146 = 15 := by kernel_rfl
    rw [e_] at hl
    have e_3 : Try.prog.cellsOf 3 = 1 := by kernel_rfl
    have e_9 : Try.prog.cellsOf 9 = 1 := by kernel_rfl
    have e_44 : Try.prog.cellsOf 44 = 1 := by kernel_rfl
    have e_142 : Try.prog.cellsOf 142 = 1 := by kernel_rfl
    have e_144 : Try.prog.cellsOf 144 = 5 := by kernel_rfl
    obtain ⟨c0, c1, c2, c3, c4, c5, c6, c7, c8, c9, c10, c11, c12, c13, c14, rfl⟩ : ∃ c0 c1 c2 c3 c4 c5 c6 c7 c8 c9 c10 c11 c12 c13 c14, cs = [c0, c1, c2, c3, c4, c5, c6, c7, c8, c9, c10, c11, c12, c13, c14] := by
      match cs, hl with
      | [c0, c1, c2, c3, c4, c5, c6, c7, c8, c9, c10, c11, c12, c13, c14], _ => exact ⟨c0, c1, c2, c3, c4, c5, c6, c7, c8, c9, c10, c11, c12, c13, c14, rfl⟩
    have h0 : Ty Try.prog 3 [c0] := by
      have := hf _ (List.mem_of_getElem? (i := 0) rfl)
      simp only [e_3] at this
      exact this
    obtain ⟨x0, q0, o0⟩ := ti_3 _ h0
    have h1 : Ty Try.prog 9 [c1] := by
      have := hf _ (List.mem_of_getElem? (i := 1) rfl)
      simp only [e_9] at this
      exact this
    obtain ⟨x1, q1, o1⟩ := ti_9 _ h1
    have h2 : Ty Try.prog 144 [c2, c3, c4, c5, c6] := by
      have := hf _ (List.mem_of_getElem? (i := 2) rfl)
      simp only [e_144] at this
      exact this
    obtain ⟨x2, q2, o2⟩ := ti_144 _ h2
    have h3 : Ty Try.prog 144 [c7, c8, c9, c10, c11] := by
      have := hf _ (List.mem_of_getElem? (i := 3) rfl)
      simp only [e_144] at this
      exact this
    obtain ⟨x3, q3, o3⟩ := ti_144 _ h3
    have h4 : Ty Try.prog 142 [c12] := by
      have := hf _ (List.mem_of_getElem? (i := 4) rfl)
      simp only [e_142] at this
      exact this
    obtain ⟨x4, q4, o4⟩ := ti_142 _ h4
    have h5 : Ty Try.prog 44 [c13] := by
      have := hf _ (List.mem_of_getElem? (i := 5) rfl)
      simp only [e_44] at this
      exact this
    obtain ⟨rows5, w5, l5, r5⟩ := h5.slice_inv Try.underlying44
    cases w5
    have h6 : Ty Try.prog 44 [c14] := by
      have := hf _ (List.mem_of_getElem? (i := 6) rfl)
      simp only [e_44] at this
      exact this
    obtain ⟨rows6, w6, l6, r6⟩ := h6.slice_inv Try.underlying44
    cases w6
    obtain ⟨x5, q5, o5⟩ := rows_invB rows5 r5 (fun r hr hy => tr_146 n r (by have := List.sizeOf_lt_of_mem hr; simp at hs; omega) hy)
    obtain ⟨x6, q6, o6⟩ := rows_invB rows6 r6 (fun r hr hy => tr_146 n r (by have := List.sizeOf_lt_of_mem hr; simp at hs; omega) hy)
    subst q5 q6
    refine ⟨⟨x0, x1, x2, x3, x4, x5, x6⟩, ?_, .mk ⟨o0, o1, o2, o3, o4, by simpa using l5, by simpa using l6⟩ o5 o6⟩
    have hx : e_api_Stmt ⟨x0, x1, x2, x3, x4, x5, x6⟩ = eI x0 ++ eS x1 ++ e_api_Expr x2 ++ e_api_Expr x3 ++ (eL e_api_Expr) x4 ++ [.sl (x5.map e_api_Stmt)] ++ [.sl (x6.map e_api_Stmt)] := by simp [go_sem]
    rw [hx, ← q0, ← q1, ← q2, ← q3, ← q4]; rfl
theorem ti_146 (cs : List C) (h : Ty Try.prog 146 cs) : ∃ x : api_Stmt, cs = e_api_Stmt x ∧ ok_api_Stmt x := tr_146 _ cs (Nat.lt_succ_self _) h
theorem tv_146 {X : V} (h : TyV Try.prog 146 X) : ∃ x : api_Stmt, X = .agg (e_api_Stmt x) ∧ ok_api_Stmt x := by
  obtain ⟨cs, rfl, h2⟩ := h.agg_inv (by simp [isAggB, Try.underlying146])
  obtain ⟨x, rfl, o⟩ := ti_146 _ h2
  exact ⟨x, rfl, o⟩
set_option maxRecDepth 100000 in
theorem ti_44 (cs : List C) (h : Ty Try.prog 44 cs) : ∃ x : List api_Stmt, cs = (eL e_api_Stmt) x ∧ (okL ok_api_Stmt) x := by
  obtain ⟨rows, rfl, hl, hr⟩ := h.slice_inv Try.underlying44
  obtain ⟨xs, rfl, ho⟩ := rows_inv ti_146 rows hr
  exact ⟨xs, rfl, by simpa using hl, ho⟩
theorem tv_44 {X : V} (h : TyV Try.prog 44 X) : ∃ x : List api_Stmt, X = .one (.sl (x.map e_api_Stmt)) ∧ (okL ok_api_Stmt) x := by
  obtain ⟨c, rfl, h2⟩ := h.one_inv (by simp [isAggB, Try.underlying44])
  obtain ⟨x, e, o⟩ := ti_44 _ h2
  cases e
  exact ⟨x, rfl, o⟩
def ok_api_Task (x : api_Task) : Prop := (okI .i64) x.Every ∧ (okI .i64) x.Priority ∧ (okL (okI .i64)) x.Budget ∧ (okL ok_api_Stmt) x.Body
set_option maxRecDepth 100000 in
theorem ti_46 (cs : List C) (h : Ty Try.prog 46 cs) : ∃ x : api_Task, cs = e_api_Task x ∧ ok_api_Task x := by
  obtain ⟨hl, hf⟩ := h.struct_inv Try.underlying46
  have e_ : Try.prog.cellsOf 46 = 4 := by kernel_rfl
  rw [e_] at hl
  have e_3 : Try.prog.cellsOf 3 = 1 := by kernel_rfl
  have e_43 : Try.prog.cellsOf 43 = 1 := by kernel_rfl
  have e_44 : Try.prog.cellsOf 44 = 1 := by kernel_rfl
  obtain ⟨c0, c1, c2, c3, rfl⟩ : ∃ c0 c1 c2 c3, cs = [c0, c1, c2, c3] := by
    match cs, hl with
    | [c0, c1, c2, c3], _ => exact ⟨c0, c1, c2, c3, rfl⟩
  have h0 : Ty Try.prog 3 [c0] := by
    have := hf _ (List.mem_of_getElem? (i := 0) rfl)
    simp only [e_3] at this
    exact this
  obtain ⟨x0, q0, o0⟩ := ti_3 _ h0
  have h1 : Ty Try.prog 3 [c1] := by
    have := hf _ (List.mem_of_getElem? (i := 1) rfl)
    simp only [e_3] at this
    exact this
  obtain ⟨x1, q1, o1⟩ := ti_3 _ h1
  have h2 : Ty Try.prog 43 [c2] := by
    have := hf _ (List.mem_of_getElem? (i := 2) rfl)
    simp only [e_43] at this
    exact this
  obtain ⟨x2, q2, o2⟩ := ti_43 _ h2
  have h3 : Ty Try.prog 44 [c3] := by
    have := hf _ (List.mem_of_getElem? (i := 3) rfl)
    simp only [e_44] at this
    exact this
  obtain ⟨x3, q3, o3⟩ := ti_44 _ h3
  refine ⟨⟨x0, x1, x2, x3⟩, ?_, ⟨o0, o1, o2, o3⟩⟩
  have hx : e_api_Task ⟨x0, x1, x2, x3⟩ = eI x0 ++ eI x1 ++ (eL eI) x2 ++ (eL e_api_Stmt) x3 := by simp [go_sem]
  rw [hx, ← q0, ← q1, ← q2, ← q3]; rfl
theorem tv_46 {X : V} (h : TyV Try.prog 46 X) : ∃ x : api_Task, X = .agg (e_api_Task x) ∧ ok_api_Task x := by
  obtain ⟨cs, rfl, h2⟩ := h.agg_inv (by simp [isAggB, Try.underlying46])
  obtain ⟨x, rfl, o⟩ := ti_46 _ h2
  exact ⟨x, rfl, o⟩
set_option maxRecDepth 100000 in
theorem ti_29 (cs : List C) (h : Ty Try.prog 29 cs) : ∃ x : List api_Task, cs = (eL e_api_Task) x ∧ (okL ok_api_Task) x := by
  obtain ⟨rows, rfl, hl, hr⟩ := h.slice_inv Try.underlying29
  obtain ⟨xs, rfl, ho⟩ := rows_inv ti_46 rows hr
  exact ⟨xs, rfl, by simpa using hl, ho⟩
theorem tv_29 {X : V} (h : TyV Try.prog 29 X) : ∃ x : List api_Task, X = .one (.sl (x.map e_api_Task)) ∧ (okL ok_api_Task) x := by
  obtain ⟨c, rfl, h2⟩ := h.one_inv (by simp [isAggB, Try.underlying29])
  obtain ⟨x, e, o⟩ := ti_29 _ h2
  cases e
  exact ⟨x, rfl, o⟩
def ok_api_Ins (x : api_Ins) : Prop := (okI .i64) x.Op ∧ (okI .i64) x.A ∧ (okI .i64) x.B_ ∧ (okI .i64) x.Label
set_option maxRecDepth 100000 in
theorem ti_82 (cs : List C) (h : Ty Try.prog 82 cs) : ∃ x : api_Ins, cs = e_api_Ins x ∧ ok_api_Ins x := by
  obtain ⟨hl, hf⟩ := h.struct_inv Try.underlying82
  have e_ : Try.prog.cellsOf 82 = 4 := by kernel_rfl
  rw [e_] at hl
  have e_3 : Try.prog.cellsOf 3 = 1 := by kernel_rfl
  obtain ⟨c0, c1, c2, c3, rfl⟩ : ∃ c0 c1 c2 c3, cs = [c0, c1, c2, c3] := by
    match cs, hl with
    | [c0, c1, c2, c3], _ => exact ⟨c0, c1, c2, c3, rfl⟩
  have h0 : Ty Try.prog 3 [c0] := by
    have := hf _ (List.mem_of_getElem? (i := 0) rfl)
    simp only [e_3] at this
    exact this
  obtain ⟨x0, q0, o0⟩ := ti_3 _ h0
  have h1 : Ty Try.prog 3 [c1] := by
    have := hf _ (List.mem_of_getElem? (i := 1) rfl)
    simp only [e_3] at this
    exact this
  obtain ⟨x1, q1, o1⟩ := ti_3 _ h1
  have h2 : Ty Try.prog 3 [c2] := by
    have := hf _ (List.mem_of_getElem? (i := 2) rfl)
    simp only [e_3] at this
    exact this
  obtain ⟨x2, q2, o2⟩ := ti_3 _ h2
  have h3 : Ty Try.prog 3 [c3] := by
    have := hf _ (List.mem_of_getElem? (i := 3) rfl)
    simp only [e_3] at this
    exact this
  obtain ⟨x3, q3, o3⟩ := ti_3 _ h3
  refine ⟨⟨x0, x1, x2, x3⟩, ?_, ⟨o0, o1, o2, o3⟩⟩
  have hx : e_api_Ins ⟨x0, x1, x2, x3⟩ = eI x0 ++ eI x1 ++ eI x2 ++ eI x3 := by simp [go_sem]
  rw [hx, ← q0, ← q1, ← q2, ← q3]; rfl
theorem tv_82 {X : V} (h : TyV Try.prog 82 X) : ∃ x : api_Ins, X = .agg (e_api_Ins x) ∧ ok_api_Ins x := by
  obtain ⟨cs, rfl, h2⟩ := h.agg_inv (by simp [isAggB, Try.underlying82])
  obtain ⟨x, rfl, o⟩ := ti_82 _ h2
  exact ⟨x, rfl, o⟩
set_option maxRecDepth 100000 in
theorem ti_47 (cs : List C) (h : Ty Try.prog 47 cs) : ∃ x : List api_Ins, cs = (eL e_api_Ins) x ∧ (okL ok_api_Ins) x := by
  obtain ⟨rows, rfl, hl, hr⟩ := h.slice_inv Try.underlying47
  obtain ⟨xs, rfl, ho⟩ := rows_inv ti_82 rows hr
  exact ⟨xs, rfl, by simpa using hl, ho⟩
theorem tv_47 {X : V} (h : TyV Try.prog 47 X) : ∃ x : List api_Ins, X = .one (.sl (x.map e_api_Ins)) ∧ (okL ok_api_Ins) x := by
  obtain ⟨c, rfl, h2⟩ := h.one_inv (by simp [isAggB, Try.underlying47])
  obtain ⟨x, e, o⟩ := ti_47 _ h2
  cases e
  exact ⟨x, rfl, o⟩
set_option maxRecDepth 100000 in
theorem ti_30 (cs : List C) (h : Ty Try.prog 30 cs) : ∃ x : List (List api_Ins), cs = (eL (eL e_api_Ins)) x ∧ (okL (okL ok_api_Ins)) x := by
  obtain ⟨rows, rfl, hl, hr⟩ := h.slice_inv Try.underlying30
  obtain ⟨xs, rfl, ho⟩ := rows_inv ti_47 rows hr
  exact ⟨xs, rfl, by simpa using hl, ho⟩
theorem tv_30 {X : V} (h : TyV Try.prog 30 X) : ∃ x : List (List api_Ins), X = .one (.sl (x.map (eL e_api_Ins))) ∧ (okL (okL ok_api_Ins)) x := by
  obtain ⟨c, rfl, h2⟩ := h.one_inv (by simp [isAggB, Try.underlying30])
  obtain ⟨x, e, o⟩ := ti_30 _ h2
  cases e
  exact ⟨x, rfl, o⟩
def ok_api_Image (x : api_Image) : Prop := ok_api_Lattice x.Lattice ∧ (okL ok_api_Site) x.Sites ∧ (okL ok_api_Var) x.Vars ∧ (okL ok_api_Block) x.Blocks ∧ (okL ok_api_Task) x.Tasks ∧ (okL (okL ok_api_Ins)) x.Code
set_option maxRecDepth 100000 in
theorem ti_32 (cs : List C) (h : Ty Try.prog 32 cs) : ∃ x : api_Image, cs = e_api_Image x ∧ ok_api_Image x := by
  obtain ⟨hl, hf⟩ := h.struct_inv Try.underlying32
  have e_ : Try.prog.cellsOf 32 = 7 := by kernel_rfl
  rw [e_] at hl
  have e_25 : Try.prog.cellsOf 25 = 2 := by kernel_rfl
  have e_26 : Try.prog.cellsOf 26 = 1 := by kernel_rfl
  have e_27 : Try.prog.cellsOf 27 = 1 := by kernel_rfl
  have e_28 : Try.prog.cellsOf 28 = 1 := by kernel_rfl
  have e_29 : Try.prog.cellsOf 29 = 1 := by kernel_rfl
  have e_30 : Try.prog.cellsOf 30 = 1 := by kernel_rfl
  obtain ⟨c0, c1, c2, c3, c4, c5, c6, rfl⟩ : ∃ c0 c1 c2 c3 c4 c5 c6, cs = [c0, c1, c2, c3, c4, c5, c6] := by
    match cs, hl with
    | [c0, c1, c2, c3, c4, c5, c6], _ => exact ⟨c0, c1, c2, c3, c4, c5, c6, rfl⟩
  have h0 : Ty Try.prog 25 [c0, c1] := by
    have := hf _ (List.mem_of_getElem? (i := 0) rfl)
    simp only [e_25] at this
    exact this
  obtain ⟨x0, q0, o0⟩ := ti_25 _ h0
  have h1 : Ty Try.prog 26 [c2] := by
    have := hf _ (List.mem_of_getElem? (i := 1) rfl)
    simp only [e_26] at this
    exact this
  obtain ⟨x1, q1, o1⟩ := ti_26 _ h1
  have h2 : Ty Try.prog 27 [c3] := by
    have := hf _ (List.mem_of_getElem? (i := 2) rfl)
    simp only [e_27] at this
    exact this
  obtain ⟨x2, q2, o2⟩ := ti_27 _ h2
  have h3 : Ty Try.prog 28 [c4] := by
    have := hf _ (List.mem_of_getElem? (i := 3) rfl)
    simp only [e_28] at this
    exact this
  obtain ⟨x3, q3, o3⟩ := ti_28 _ h3
  have h4 : Ty Try.prog 29 [c5] := by
    have := hf _ (List.mem_of_getElem? (i := 4) rfl)
    simp only [e_29] at this
    exact this
  obtain ⟨x4, q4, o4⟩ := ti_29 _ h4
  have h5 : Ty Try.prog 30 [c6] := by
    have := hf _ (List.mem_of_getElem? (i := 5) rfl)
    simp only [e_30] at this
    exact this
  obtain ⟨x5, q5, o5⟩ := ti_30 _ h5
  refine ⟨⟨x0, x1, x2, x3, x4, x5⟩, ?_, ⟨o0, o1, o2, o3, o4, o5⟩⟩
  have hx : e_api_Image ⟨x0, x1, x2, x3, x4, x5⟩ = e_api_Lattice x0 ++ (eL e_api_Site) x1 ++ (eL e_api_Var) x2 ++ (eL e_api_Block) x3 ++ (eL e_api_Task) x4 ++ (eL (eL e_api_Ins)) x5 := by simp [go_sem]
  rw [hx, ← q0, ← q1, ← q2, ← q3, ← q4, ← q5]; rfl
theorem tv_32 {X : V} (h : TyV Try.prog 32 X) : ∃ x : api_Image, X = .agg (e_api_Image x) ∧ ok_api_Image x := by
  obtain ⟨cs, rfl, h2⟩ := h.agg_inv (by simp [isAggB, Try.underlying32])
  obtain ⟨x, rfl, o⟩ := ti_32 _ h2
  exact ⟨x, rfl, o⟩
end Go.Lz

