/- ST: what values of the laws' types are, as data. -/
import Derived.Test.YtakkdadfikcpoaaGreatSD
import Derived.Test.YtakkdadfikcpoaaGreatLzE
namespace Go.Lz
set_option linter.unusedVariables false
set_option linter.unusedSimpArgs false
open Go.Proofs
def okI (k : IntKind) (n : Int) : Prop := k.min ≤ n ∧ n ≤ k.max
def okS (s : Str) : Prop := s.length ≤ lim
def okL {α : Type} (p : α → Prop) (xs : List α) : Prop := xs.length ≤ lim ∧ ∀ x ∈ xs, p x
theorem rows_inv {P : Program} {e : TypeId} {α : Type} {f : α → List C} {ok : α → Prop} (h : ∀ cs, Ty P e cs → ∃ x, cs = f x ∧ ok x) : ∀ rows : List (List C), (∀ r ∈ rows, Ty P e r) → ∃ xs : List α, rows = xs.map f ∧ ∀ x ∈ xs, ok x
  | [], _ => ⟨[], rfl, by simp⟩
  | r :: rows, hr => by
    obtain ⟨x, e1, o1⟩ := h r (hr r (by simp))
    obtain ⟨xs, e2, o2⟩ := rows_inv h rows (fun r' hr' => hr r' (by simp [hr']))
    exact ⟨x :: xs, by rw [e1, e2]; rfl, fun y hy => by rcases List.mem_cons.1 hy with rfl | hy; exact o1; exact o2 y hy⟩
theorem rows_invB {P : Program} {e : TypeId} {α : Type} {f : α → List C} {ok : α → Prop} : ∀ rows : List (List C), (∀ r ∈ rows, Ty P e r) → (∀ r ∈ rows, Ty P e r → ∃ x, r = f x ∧ ok x) → ∃ xs : List α, rows = xs.map f ∧ ∀ x ∈ xs, ok x
  | [], _, _ => ⟨[], rfl, by simp⟩
  | r :: rows, hr, h => by
    obtain ⟨x, e1, o1⟩ := h r (by simp) (hr r (by simp))
    obtain ⟨xs, e2, o2⟩ := rows_invB rows (fun r' hr' => hr r' (by simp [hr'])) (fun r' hr' => h r' (by simp [hr']))
    exact ⟨x :: xs, by rw [e1, e2]; rfl, fun y hy => by rcases List.mem_cons.1 hy with rfl | hy; exact o1; exact o2 y hy⟩
def okA2 {α : Type} (p : α → Prop) (x : A2 α) : Prop := p x.a0 ∧ p x.a1
set_option maxRecDepth 100000 in
theorem ti_9 (cs : List C) (h : Ty Tryz.prog 9 cs) : ∃ x : Str, cs = eS x ∧ okS x := by
  obtain ⟨n, rfl, hn⟩ := h.str_inv Tryz.underlying9
  exact ⟨n, rfl, hn⟩
theorem tv_9 {X : V} (h : TyV Tryz.prog 9 X) : ∃ x : Str, X = .one (.str x) ∧ okS x := by
  obtain ⟨c, rfl, h2⟩ := h.one_inv (by simp [isAggB, Tryz.underlying9])
  obtain ⟨x, e, o⟩ := ti_9 _ h2
  cases e
  exact ⟨x, rfl, o⟩
set_option maxRecDepth 100000 in
theorem ti_22 (cs : List C) (h : Ty Tryz.prog 22 cs) : ∃ x : List Str, cs = (eL eS) x ∧ (okL okS) x := by
  obtain ⟨rows, rfl, hl, hr⟩ := h.slice_inv Tryz.underlying22
  obtain ⟨xs, rfl, ho⟩ := rows_inv ti_9 rows hr
  exact ⟨xs, rfl, by simpa using hl, ho⟩
theorem tv_22 {X : V} (h : TyV Tryz.prog 22 X) : ∃ x : List Str, X = .one (.sl (x.map eS)) ∧ (okL okS) x := by
  obtain ⟨c, rfl, h2⟩ := h.one_inv (by simp [isAggB, Tryz.underlying22])
  obtain ⟨x, e, o⟩ := ti_22 _ h2
  cases e
  exact ⟨x, rfl, o⟩
set_option maxRecDepth 100000 in
theorem ti_3 (cs : List C) (h : Ty Tryz.prog 3 cs) : ∃ x : Int, cs = eI x ∧ (okI .i64) x := by
  obtain ⟨n, rfl, hn⟩ := h.int_inv Tryz.underlying3
  exact ⟨n, rfl, hn⟩
theorem tv_3 {X : V} (h : TyV Tryz.prog 3 X) : ∃ x : Int, X = .one (.int .i64 x) ∧ (okI .i64) x := by
  obtain ⟨c, rfl, h2⟩ := h.one_inv (by simp [isAggB, Tryz.underlying3])
  obtain ⟨x, e, o⟩ := ti_3 _ h2
  cases e
  exact ⟨x, rfl, o⟩
set_option maxRecDepth 100000 in
theorem ti_59 (cs : List C) (h : Ty Tryz.prog 59 cs) : ∃ x : A2 Int, cs = (eA2 eI) x ∧ (okA2 (okI .i64)) x := by
  obtain ⟨hl, hf⟩ := h.array_inv Tryz.underlying59
  have e_ : Tryz.prog.cellsOf 59 = 2 := by kernel_rfl
  rw [e_] at hl
  have e_3 : Tryz.prog.cellsOf 3 = 1 := by kernel_rfl
  obtain ⟨c0, c1, rfl⟩ : ∃ c0 c1, cs = [c0, c1] := by
    match cs, hl with
    | [c0, c1], _ => exact ⟨c0, c1, rfl⟩
  have h0 : Ty Tryz.prog 3 [c0] := by
    have := hf 0 (by decide)
    simp only [e_3] at this
    exact this
  obtain ⟨x0, q0, o0⟩ := ti_3 _ h0
  have h1 : Ty Tryz.prog 3 [c1] := by
    have := hf 1 (by decide)
    simp only [e_3] at this
    exact this
  obtain ⟨x1, q1, o1⟩ := ti_3 _ h1
  refine ⟨⟨x0, x1⟩, ?_, ⟨o0, o1⟩⟩
  have hx : (eA2 eI) ⟨x0, x1⟩ = eI x0 ++ eI x1 := by simp [go_sem]
  rw [hx, ← q0, ← q1]; rfl
theorem tv_59 {X : V} (h : TyV Tryz.prog 59 X) : ∃ x : A2 Int, X = .agg ((eA2 eI) x) ∧ (okA2 (okI .i64)) x := by
  obtain ⟨cs, rfl, h2⟩ := h.agg_inv (by simp [isAggB, Tryz.underlying59])
  obtain ⟨x, rfl, o⟩ := ti_59 _ h2
  exact ⟨x, rfl, o⟩
set_option maxRecDepth 100000 in
theorem ti_23 (cs : List C) (h : Ty Tryz.prog 23 cs) : ∃ x : List (A2 Int), cs = (eL (eA2 eI)) x ∧ (okL (okA2 (okI .i64))) x := by
  obtain ⟨rows, rfl, hl, hr⟩ := h.slice_inv Tryz.underlying23
  obtain ⟨xs, rfl, ho⟩ := rows_inv ti_59 rows hr
  exact ⟨xs, rfl, by simpa using hl, ho⟩
theorem tv_23 {X : V} (h : TyV Tryz.prog 23 X) : ∃ x : List (A2 Int), X = .one (.sl (x.map (eA2 eI))) ∧ (okL (okA2 (okI .i64))) x := by
  obtain ⟨c, rfl, h2⟩ := h.one_inv (by simp [isAggB, Tryz.underlying23])
  obtain ⟨x, e, o⟩ := ti_23 _ h2
  cases e
  exact ⟨x, rfl, o⟩
def ok_api_Lattice (x : api_Lattice) : Prop := (okL okS) x.Names ∧ (okL (okA2 (okI .i64))) x.Below
set_option maxRecDepth 100000 in
theorem ti_25 (cs : List C) (h : Ty Tryz.prog 25 cs) : ∃ x : api_Lattice, cs = e_api_Lattice x ∧ ok_api_Lattice x := by
  obtain ⟨hl, hf⟩ := h.struct_inv Tryz.underlying25
  have e_ : Tryz.prog.cellsOf 25 = 2 := by kernel_rfl
  rw [e_] at hl
  have e_22 : Tryz.prog.cellsOf 22 = 1 := by kernel_rfl
  have e_23 : Tryz.prog.cellsOf 23 = 1 := by kernel_rfl
  obtain ⟨c0, c1, rfl⟩ : ∃ c0 c1, cs = [c0, c1] := by
    match cs, hl with
    | [c0, c1], _ => exact ⟨c0, c1, rfl⟩
  have h0 : Ty Tryz.prog 22 [c0] := by
    have := hf _ (List.mem_of_getElem? (i := 0) rfl)
    simp only [e_22] at this
    exact this
  obtain ⟨x0, q0, o0⟩ := ti_22 _ h0
  have h1 : Ty Tryz.prog 23 [c1] := by
    have := hf _ (List.mem_of_getElem? (i := 1) rfl)
    simp only [e_23] at this
    exact this
  obtain ⟨x1, q1, o1⟩ := ti_23 _ h1
  refine ⟨⟨x0, x1⟩, ?_, ⟨o0, o1⟩⟩
  have hx : e_api_Lattice ⟨x0, x1⟩ = (eL eS) x0 ++ (eL (eA2 eI)) x1 := by simp [go_sem]
  rw [hx, ← q0, ← q1]; rfl
theorem tv_25 {X : V} (h : TyV Tryz.prog 25 X) : ∃ x : api_Lattice, X = .agg (e_api_Lattice x) ∧ ok_api_Lattice x := by
  obtain ⟨cs, rfl, h2⟩ := h.agg_inv (by simp [isAggB, Tryz.underlying25])
  obtain ⟨x, rfl, o⟩ := ti_25 _ h2
  exact ⟨x, rfl, o⟩
def ok_api_Site (x : api_Site) : Prop := okS x.Name ∧ (okI .i64) x.From ∧ (okI .i64) x.To
set_option maxRecDepth 100000 in
theorem ti_61 (cs : List C) (h : Ty Tryz.prog 61 cs) : ∃ x : api_Site, cs = e_api_Site x ∧ ok_api_Site x := by
  obtain ⟨hl, hf⟩ := h.struct_inv Tryz.underlying61
  have e_ : Tryz.prog.cellsOf 61 = 3 := by kernel_rfl
  rw [e_] at hl
  have e_3 : Tryz.prog.cellsOf 3 = 1 := by kernel_rfl
  have e_9 : Tryz.prog.cellsOf 9 = 1 := by kernel_rfl
  obtain ⟨c0, c1, c2, rfl⟩ : ∃ c0 c1 c2, cs = [c0, c1, c2] := by
    match cs, hl with
    | [c0, c1, c2], _ => exact ⟨c0, c1, c2, rfl⟩
  have h0 : Ty Tryz.prog 9 [c0] := by
    have := hf _ (List.mem_of_getElem? (i := 0) rfl)
    simp only [e_9] at this
    exact this
  obtain ⟨x0, q0, o0⟩ := ti_9 _ h0
  have h1 : Ty Tryz.prog 3 [c1] := by
    have := hf _ (List.mem_of_getElem? (i := 1) rfl)
    simp only [e_3] at this
    exact this
  obtain ⟨x1, q1, o1⟩ := ti_3 _ h1
  have h2 : Ty Tryz.prog 3 [c2] := by
    have := hf _ (List.mem_of_getElem? (i := 2) rfl)
    simp only [e_3] at this
    exact this
  obtain ⟨x2, q2, o2⟩ := ti_3 _ h2
  refine ⟨⟨x0, x1, x2⟩, ?_, ⟨o0, o1, o2⟩⟩
  have hx : e_api_Site ⟨x0, x1, x2⟩ = eS x0 ++ eI x1 ++ eI x2 := by simp [go_sem]
  rw [hx, ← q0, ← q1, ← q2]; rfl
theorem tv_61 {X : V} (h : TyV Tryz.prog 61 X) : ∃ x : api_Site, X = .agg (e_api_Site x) ∧ ok_api_Site x := by
  obtain ⟨cs, rfl, h2⟩ := h.agg_inv (by simp [isAggB, Tryz.underlying61])
  obtain ⟨x, rfl, o⟩ := ti_61 _ h2
  exact ⟨x, rfl, o⟩
set_option maxRecDepth 100000 in
theorem ti_26 (cs : List C) (h : Ty Tryz.prog 26 cs) : ∃ x : List api_Site, cs = (eL e_api_Site) x ∧ (okL ok_api_Site) x := by
  obtain ⟨rows, rfl, hl, hr⟩ := h.slice_inv Tryz.underlying26
  obtain ⟨xs, rfl, ho⟩ := rows_inv ti_61 rows hr
  exact ⟨xs, rfl, by simpa using hl, ho⟩
theorem tv_26 {X : V} (h : TyV Tryz.prog 26 X) : ∃ x : List api_Site, X = .one (.sl (x.map e_api_Site)) ∧ (okL ok_api_Site) x := by
  obtain ⟨c, rfl, h2⟩ := h.one_inv (by simp [isAggB, Tryz.underlying26])
  obtain ⟨x, e, o⟩ := ti_26 _ h2
  cases e
  exact ⟨x, rfl, o⟩
def ok_api_Type (x : api_Type) : Prop := (okI .i64) x.Kind ∧ (okI .i64) x.Low ∧ (okI .i64) x.Len
set_option maxRecDepth 100000 in
theorem ti_63 (cs : List C) (h : Ty Tryz.prog 63 cs) : ∃ x : api_Type, cs = e_api_Type x ∧ ok_api_Type x := by
  obtain ⟨hl, hf⟩ := h.struct_inv Tryz.underlying63
  have e_ : Tryz.prog.cellsOf 63 = 3 := by kernel_rfl
  rw [e_] at hl
  have e_3 : Tryz.prog.cellsOf 3 = 1 := by kernel_rfl
  obtain ⟨c0, c1, c2, rfl⟩ : ∃ c0 c1 c2, cs = [c0, c1, c2] := by
    match cs, hl with
    | [c0, c1, c2], _ => exact ⟨c0, c1, c2, rfl⟩
  have h0 : Ty Tryz.prog 3 [c0] := by
    have := hf _ (List.mem_of_getElem? (i := 0) rfl)
    simp only [e_3] at this
    exact this
  obtain ⟨x0, q0, o0⟩ := ti_3 _ h0
  have h1 : Ty Tryz.prog 3 [c1] := by
    have := hf _ (List.mem_of_getElem? (i := 1) rfl)
    simp only [e_3] at this
    exact this
  obtain ⟨x1, q1, o1⟩ := ti_3 _ h1
  have h2 : Ty Tryz.prog 3 [c2] := by
    have := hf _ (List.mem_of_getElem? (i := 2) rfl)
    simp only [e_3] at this
    exact this
  obtain ⟨x2, q2, o2⟩ := ti_3 _ h2
  refine ⟨⟨x0, x1, x2⟩, ?_, ⟨o0, o1, o2⟩⟩
  have hx : e_api_Type ⟨x0, x1, x2⟩ = eI x0 ++ eI x1 ++ eI x2 := by simp [go_sem]
  rw [hx, ← q0, ← q1, ← q2]; rfl
theorem tv_63 {X : V} (h : TyV Tryz.prog 63 X) : ∃ x : api_Type, X = .agg (e_api_Type x) ∧ ok_api_Type x := by
  obtain ⟨cs, rfl, h2⟩ := h.agg_inv (by simp [isAggB, Tryz.underlying63])
  obtain ⟨x, rfl, o⟩ := ti_63 _ h2
  exact ⟨x, rfl, o⟩
def ok_api_Var (x : api_Var) : Prop := okS x.Name ∧ ok_api_Type x.Type_ ∧ (okI .i64) x.Mode ∧ (okI .i64) x.Label ∧ (okI .i64) x.Safe
set_option maxRecDepth 100000 in
theorem ti_65 (cs : List C) (h : Ty Tryz.prog 65 cs) : ∃ x : api_Var, cs = e_api_Var x ∧ ok_api_Var x := by
  obtain ⟨hl, hf⟩ := h.struct_inv Tryz.underlying65
  have e_ : Tryz.prog.cellsOf 65 = 7 := by kernel_rfl
  rw [e_] at hl
  have e_3 : Tryz.prog.cellsOf 3 = 1 := by kernel_rfl
  have e_9 : Tryz.prog.cellsOf 9 = 1 := by kernel_rfl
  have e_63 : Tryz.prog.cellsOf 63 = 3 := by kernel_rfl
  obtain ⟨c0, c1, c2, c3, c4, c5, c6, rfl⟩ : ∃ c0 c1 c2 c3 c4 c5 c6, cs = [c0, c1, c2, c3, c4, c5, c6] := by
    match cs, hl with
    | [c0, c1, c2, c3, c4, c5, c6], _ => exact ⟨c0, c1, c2, c3, c4, c5, c6, rfl⟩
  have h0 : Ty Tryz.prog 9 [c0] := by
    have := hf _ (List.mem_of_getElem? (i := 0) rfl)
    simp only [e_9] at this
    exact this
  obtain ⟨x0, q0, o0⟩ := ti_9 _ h0
  have h1 : Ty Tryz.prog 63 [c1, c2, c3] := by
    have := hf _ (List.mem_of_getElem? (i := 1) rfl)
    simp only [e_63] at this
    exact this
  obtain ⟨x1, q1, o1⟩ := ti_63 _ h1
  have h2 : Ty Tryz.prog 3 [c4] := by
    have := hf _ (List.mem_of_getElem? (i := 2) rfl)
    simp only [e_3] at this
    exact this
  obtain ⟨x2, q2, o2⟩ := ti_3 _ h2
  have h3 : Ty Tryz.prog 3 [c5] := by
    have := hf _ (List.mem_of_getElem? (i := 3) rfl)
    simp only [e_3] at this
    exact this
  obtain ⟨x3, q3, o3⟩ := ti_3 _ h3
  have h4 : Ty Tryz.prog 3 [c6] := by
    have := hf _ (List.mem_of_getElem? (i := 4) rfl)
    simp only [e_3] at this
    exact this
  obtain ⟨x4, q4, o4⟩ := ti_3 _ h4
  refine ⟨⟨x0, x1, x2, x3, x4⟩, ?_, ⟨o0, o1, o2, o3, o4⟩⟩
  have hx : e_api_Var ⟨x0, x1, x2, x3, x4⟩ = eS x0 ++ e_api_Type x1 ++ eI x2 ++ eI x3 ++ eI x4 := by simp [go_sem]
  rw [hx, ← q0, ← q1, ← q2, ← q3, ← q4]; rfl
theorem tv_65 {X : V} (h : TyV Tryz.prog 65 X) : ∃ x : api_Var, X = .agg (e_api_Var x) ∧ ok_api_Var x := by
  obtain ⟨cs, rfl, h2⟩ := h.agg_inv (by simp [isAggB, Tryz.underlying65])
  obtain ⟨x, rfl, o⟩ := ti_65 _ h2
  exact ⟨x, rfl, o⟩
set_option maxRecDepth 100000 in
theorem ti_27 (cs : List C) (h : Ty Tryz.prog 27 cs) : ∃ x : List api_Var, cs = (eL e_api_Var) x ∧ (okL ok_api_Var) x := by
  obtain ⟨rows, rfl, hl, hr⟩ := h.slice_inv Tryz.underlying27
  obtain ⟨xs, rfl, ho⟩ := rows_inv ti_65 rows hr
  exact ⟨xs, rfl, by simpa using hl, ho⟩
theorem tv_27 {X : V} (h : TyV Tryz.prog 27 X) : ∃ x : List api_Var, X = .one (.sl (x.map e_api_Var)) ∧ (okL ok_api_Var) x := by
  obtain ⟨c, rfl, h2⟩ := h.one_inv (by simp [isAggB, Tryz.underlying27])
  obtain ⟨x, e, o⟩ := ti_27 _ h2
  cases e
  exact ⟨x, rfl, o⟩
def ok_api_Block (x : api_Block) : Prop := okS x.Name ∧ okS x.Kind ∧ (okI .i64) x.Label
set_option maxRecDepth 100000 in
theorem ti_67 (cs : List C) (h : Ty Tryz.prog 67 cs) : ∃ x : api_Block, cs = e_api_Block x ∧ ok_api_Block x := by
  obtain ⟨hl, hf⟩ := h.struct_inv Tryz.underlying67
  have e_ : Tryz.prog.cellsOf 67 = 3 := by kernel_rfl
  rw [e_] at hl
  have e_3 : Tryz.prog.cellsOf 3 = 1 := by kernel_rfl
  have e_9 : Tryz.prog.cellsOf 9 = 1 := by kernel_rfl
  obtain ⟨c0, c1, c2, rfl⟩ : ∃ c0 c1 c2, cs = [c0, c1, c2] := by
    match cs, hl with
    | [c0, c1, c2], _ => exact ⟨c0, c1, c2, rfl⟩
  have h0 : Ty Tryz.prog 9 [c0] := by
    have := hf _ (List.mem_of_getElem? (i := 0) rfl)
    simp only [e_9] at this
    exact this
  obtain ⟨x0, q0, o0⟩ := ti_9 _ h0
  have h1 : Ty Tryz.prog 9 [c1] := by
    have := hf _ (List.mem_of_getElem? (i := 1) rfl)
    simp only [e_9] at this
    exact this
  obtain ⟨x1, q1, o1⟩ := ti_9 _ h1
  have h2 : Ty Tryz.prog 3 [c2] := by
    have := hf _ (List.mem_of_getElem? (i := 2) rfl)
    simp only [e_3] at this
    exact this
  obtain ⟨x2, q2, o2⟩ := ti_3 _ h2
  refine ⟨⟨x0, x1, x2⟩, ?_, ⟨o0, o1, o2⟩⟩
  have hx : e_api_Block ⟨x0, x1, x2⟩ = eS x0 ++ eS x1 ++ eI x2 := by simp [go_sem]
  rw [hx, ← q0, ← q1, ← q2]; rfl
theorem tv_67 {X : V} (h : TyV Tryz.prog 67 X) : ∃ x : api_Block, X = .agg (e_api_Block x) ∧ ok_api_Block x := by
  obtain ⟨cs, rfl, h2⟩ := h.agg_inv (by simp [isAggB, Tryz.underlying67])
  obtain ⟨x, rfl, o⟩ := ti_67 _ h2
  exact ⟨x, rfl, o⟩
set_option maxRecDepth 100000 in
theorem ti_28 (cs : List C) (h : Ty Tryz.prog 28 cs) : ∃ x : List api_Block, cs = (eL e_api_Block) x ∧ (okL ok_api_Block) x := by
  obtain ⟨rows, rfl, hl, hr⟩ := h.slice_inv Tryz.underlying28
  obtain ⟨xs, rfl, ho⟩ := rows_inv ti_67 rows hr
  exact ⟨xs, rfl, by simpa using hl, ho⟩
theorem tv_28 {X : V} (h : TyV Tryz.prog 28 X) : ∃ x : List api_Block, X = .one (.sl (x.map e_api_Block)) ∧ (okL ok_api_Block) x := by
  obtain ⟨c, rfl, h2⟩ := h.one_inv (by simp [isAggB, Tryz.underlying28])
  obtain ⟨x, e, o⟩ := ti_28 _ h2
  cases e
  exact ⟨x, rfl, o⟩
set_option maxRecDepth 100000 in
theorem ti_48 (cs : List C) (h : Ty Tryz.prog 48 cs) : ∃ x : List Int, cs = (eL eI) x ∧ (okL (okI .i64)) x := by
  obtain ⟨rows, rfl, hl, hr⟩ := h.slice_inv Tryz.underlying48
  obtain ⟨xs, rfl, ho⟩ := rows_inv ti_3 rows hr
  exact ⟨xs, rfl, by simpa using hl, ho⟩
theorem tv_48 {X : V} (h : TyV Tryz.prog 48 X) : ∃ x : List Int, X = .one (.sl (x.map eI)) ∧ (okL (okI .i64)) x := by
  obtain ⟨c, rfl, h2⟩ := h.one_inv (by simp [isAggB, Tryz.underlying48])
  obtain ⟨x, e, o⟩ := ti_48 _ h2
  cases e
  exact ⟨x, rfl, o⟩
inductive ok_api_Expr : api_Expr → Prop
  | mk {x : api_Expr} (h : (okI .i64) x.Op ∧ (okI .i64) x.N ∧ (okI .i64) x.Kind ∧ okS x.Name ∧ x.Args.length ≤ lim) (h0 : ∀ y ∈ x.Args, ok_api_Expr y) : ok_api_Expr x
theorem ok_api_Expr.all {x : api_Expr} (h : ok_api_Expr x) : (okI .i64) x.Op ∧ (okI .i64) x.N ∧ (okI .i64) x.Kind ∧ okS x.Name ∧ (okL ok_api_Expr) x.Args := by
  cases h with
  | mk h h0 => obtain ⟨a0, a1, a2, a3, b0⟩ := h; exact ⟨a0, a1, a2, a3, ⟨b0, h0⟩⟩
set_option maxRecDepth 100000 in
theorem tr_163 : ∀ (n : Nat) (cs : List C), SizeOf.sizeOf cs < n → Ty Tryz.prog 163 cs → ∃ x : api_Expr, cs = e_api_Expr x ∧ ok_api_Expr x
  | 0, cs, hs, h => by omega
  | n + 1, cs, hs, h => by
    obtain ⟨hl, hf⟩ := h.struct_inv Tryz.underlying163
    have e_ : Tryz.prog.cellsOf 163 = 5 := by kernel_rfl
    rw [e_] at hl
    have e_3 : Tryz.prog.cellsOf 3 = 1 := by kernel_rfl
    have e_9 : Tryz.prog.cellsOf 9 = 1 := by kernel_rfl
    have e_161 : Tryz.prog.cellsOf 161 = 1 := by kernel_rfl
    obtain ⟨c0, c1, c2, c3, c4, rfl⟩ : ∃ c0 c1 c2 c3 c4, cs = [c0, c1, c2, c3, c4] := by
      match cs, hl with
      | [c0, c1, c2, c3, c4], _ => exact ⟨c0, c1, c2, c3, c4, rfl⟩
    have h0 : Ty Tryz.prog 3 [c0] := by
      have := hf _ (List.mem_of_getElem? (i := 0) rfl)
      simp only [e_3] at this
      exact this
    obtain ⟨x0, q0, o0⟩ := ti_3 _ h0
    have h1 : Ty Tryz.prog 3 [c1] := by
      have := hf _ (List.mem_of_getElem? (i := 1) rfl)
      simp only [e_3] at this
      exact this
    obtain ⟨x1, q1, o1⟩ := ti_3 _ h1
    have h2 : Ty Tryz.prog 3 [c2] := by
      have := hf _ (List.mem_of_getElem? (i := 2) rfl)
      simp only [e_3] at this
      exact this
    obtain ⟨x2, q2, o2⟩ := ti_3 _ h2
    have h3 : Ty Tryz.prog 9 [c3] := by
      have := hf _ (List.mem_of_getElem? (i := 3) rfl)
      simp only [e_9] at this
      exact this
    obtain ⟨x3, q3, o3⟩ := ti_9 _ h3
    have h4 : Ty Tryz.prog 161 [c4] := by
      have := hf _ (List.mem_of_getElem? (i := 4) rfl)
      simp only [e_161] at this
      exact this
    obtain ⟨rows4, w4, l4, r4⟩ := h4.slice_inv Tryz.underlying161
    cases w4
    obtain ⟨x4, q4, o4⟩ := rows_invB rows4 r4 (fun r hr hy => tr_163 n r (by have := List.sizeOf_lt_of_mem hr; simp at hs; omega) hy)
    subst q4
    refine ⟨⟨x0, x1, x2, x3, x4⟩, ?_, .mk ⟨o0, o1, o2, o3, by simpa using l4⟩ o4⟩
    have hx : e_api_Expr ⟨x0, x1, x2, x3, x4⟩ = eI x0 ++ eI x1 ++ eI x2 ++ eS x3 ++ [.sl (x4.map e_api_Expr)] := by simp [go_sem]
    rw [hx, ← q0, ← q1, ← q2, ← q3]; rfl
theorem ti_163 (cs : List C) (h : Ty Tryz.prog 163 cs) : ∃ x : api_Expr, cs = e_api_Expr x ∧ ok_api_Expr x := tr_163 _ cs (Nat.lt_succ_self _) h
theorem tv_163 {X : V} (h : TyV Tryz.prog 163 X) : ∃ x : api_Expr, X = .agg (e_api_Expr x) ∧ ok_api_Expr x := by
  obtain ⟨cs, rfl, h2⟩ := h.agg_inv (by simp [isAggB, Tryz.underlying163])
  obtain ⟨x, rfl, o⟩ := ti_163 _ h2
  exact ⟨x, rfl, o⟩
set_option maxRecDepth 100000 in
theorem ti_161 (cs : List C) (h : Ty Tryz.prog 161 cs) : ∃ x : List api_Expr, cs = (eL e_api_Expr) x ∧ (okL ok_api_Expr) x := by
  obtain ⟨rows, rfl, hl, hr⟩ := h.slice_inv Tryz.underlying161
  obtain ⟨xs, rfl, ho⟩ := rows_inv ti_163 rows hr
  exact ⟨xs, rfl, by simpa using hl, ho⟩
theorem tv_161 {X : V} (h : TyV Tryz.prog 161 X) : ∃ x : List api_Expr, X = .one (.sl (x.map e_api_Expr)) ∧ (okL ok_api_Expr) x := by
  obtain ⟨c, rfl, h2⟩ := h.one_inv (by simp [isAggB, Tryz.underlying161])
  obtain ⟨x, e, o⟩ := ti_161 _ h2
  cases e
  exact ⟨x, rfl, o⟩
inductive ok_api_Stmt : api_Stmt → Prop
  | mk {x : api_Stmt} (h : (okI .i64) x.Kind ∧ okS x.Name ∧ ok_api_Expr x.Target ∧ ok_api_Expr x.Value ∧ (okL ok_api_Expr) x.Args ∧ x.Body.length ≤ lim ∧ x.Else.length ≤ lim) (h0 : ∀ y ∈ x.Body, ok_api_Stmt y) (h1 : ∀ y ∈ x.Else, ok_api_Stmt y) : ok_api_Stmt x
theorem ok_api_Stmt.all {x : api_Stmt} (h : ok_api_Stmt x) : (okI .i64) x.Kind ∧ okS x.Name ∧ ok_api_Expr x.Target ∧ ok_api_Expr x.Value ∧ (okL ok_api_Expr) x.Args ∧ (okL ok_api_Stmt) x.Body ∧ (okL ok_api_Stmt) x.Else := by
  cases h with
  | mk h h0 h1 => obtain ⟨a0, a1, a2, a3, a4, b0, b1⟩ := h; exact ⟨a0, a1, a2, a3, a4, ⟨b0, h0⟩, ⟨b1, h1⟩⟩
set_option maxRecDepth 100000 in
theorem tr_165 : ∀ (n : Nat) (cs : List C), SizeOf.sizeOf cs < n → Ty Tryz.prog 165 cs → ∃ x : api_Stmt, cs = e_api_Stmt x ∧ ok_api_Stmt x
  | 0, cs, hs, h => by omega
  | n + 1, cs, hs, h => by
    obtain ⟨hl, hf⟩ := h.struct_inv Tryz.underlying165
    have e_ : Tryz.prog.cellsOf 165 = 15 := by kernel_rfl
    rw [e_] at hl
    have e_3 : Tryz.prog.cellsOf 3 = 1 := by kernel_rfl
    have e_9 : Tryz.prog.cellsOf 9 = 1 := by kernel_rfl
    have e_49 : Tryz.prog.cellsOf 49 = 1 := by kernel_rfl
    have e_161 : Tryz.prog.cellsOf 161 = 1 := by kernel_rfl
    have e_163 : Tryz.prog.cellsOf 163 = 5 := by kernel_rfl
    obtain ⟨c0, c1, c2, c3, c4, c5, c6, c7, c8, c9, c10, c11, c12, c13, c14, rfl⟩ : ∃ c0 c1 c2 c3 c4 c5 c6 c7 c8 c9 c10 c11 c12 c13 c14, cs = [c0, c1, c2, c3, c4, c5, c6, c7, c8, c9, c10, c11, c12, c13, c14] := by
      match cs, hl with
      | [c0, c1, c2, c3, c4, c5, c6, c7, c8, c9, c10, c11, c12, c13, c14], _ => exact ⟨c0, c1, c2, c3, c4, c5, c6, c7, c8, c9, c10, c11, c12, c13, c14, rfl⟩
    have h0 : Ty Tryz.prog 3 [c0] := by
      have := hf _ (List.mem_of_getElem? (i := 0) rfl)
      simp only [e_3] at this
      exact this
    obtain ⟨x0, q0, o0⟩ := ti_3 _ h0
    have h1 : Ty Tryz.prog 9 [c1] := by
      have := hf _ (List.mem_of_getElem? (i := 1) rfl)
      simp only [e_9] at this
      exact this
    obtain ⟨x1, q1, o1⟩ := ti_9 _ h1
    have h2 : Ty Tryz.prog 163 [c2, c3, c4, c5, c6] := by
      have := hf _ (List.mem_of_getElem? (i := 2) rfl)
      simp only [e_163] at this
      exact this
    obtain ⟨x2, q2, o2⟩ := ti_163 _ h2
    have h3 : Ty Tryz.prog 163 [c7, c8, c9, c10, c11] := by
      have := hf _ (List.mem_of_getElem? (i := 3) rfl)
      simp only [e_163] at this
      exact this
    obtain ⟨x3, q3, o3⟩ := ti_163 _ h3
    have h4 : Ty Tryz.prog 161 [c12] := by
      have := hf _ (List.mem_of_getElem? (i := 4) rfl)
      simp only [e_161] at this
      exact this
    obtain ⟨x4, q4, o4⟩ := ti_161 _ h4
    have h5 : Ty Tryz.prog 49 [c13] := by
      have := hf _ (List.mem_of_getElem? (i := 5) rfl)
      simp only [e_49] at this
      exact this
    obtain ⟨rows5, w5, l5, r5⟩ := h5.slice_inv Tryz.underlying49
    cases w5
    have h6 : Ty Tryz.prog 49 [c14] := by
      have := hf _ (List.mem_of_getElem? (i := 6) rfl)
      simp only [e_49] at this
      exact this
    obtain ⟨rows6, w6, l6, r6⟩ := h6.slice_inv Tryz.underlying49
    cases w6
    obtain ⟨x5, q5, o5⟩ := rows_invB rows5 r5 (fun r hr hy => tr_165 n r (by have := List.sizeOf_lt_of_mem hr; simp at hs; omega) hy)
    obtain ⟨x6, q6, o6⟩ := rows_invB rows6 r6 (fun r hr hy => tr_165 n r (by have := List.sizeOf_lt_of_mem hr; simp at hs; omega) hy)
    subst q5 q6
    refine ⟨⟨x0, x1, x2, x3, x4, x5, x6⟩, ?_, .mk ⟨o0, o1, o2, o3, o4, by simpa using l5, by simpa using l6⟩ o5 o6⟩
    have hx : e_api_Stmt ⟨x0, x1, x2, x3, x4, x5, x6⟩ = eI x0 ++ eS x1 ++ e_api_Expr x2 ++ e_api_Expr x3 ++ (eL e_api_Expr) x4 ++ [.sl (x5.map e_api_Stmt)] ++ [.sl (x6.map e_api_Stmt)] := by simp [go_sem]
    rw [hx, ← q0, ← q1, ← q2, ← q3, ← q4]; rfl
theorem ti_165 (cs : List C) (h : Ty Tryz.prog 165 cs) : ∃ x : api_Stmt, cs = e_api_Stmt x ∧ ok_api_Stmt x := tr_165 _ cs (Nat.lt_succ_self _) h
theorem tv_165 {X : V} (h : TyV Tryz.prog 165 X) : ∃ x : api_Stmt, X = .agg (e_api_Stmt x) ∧ ok_api_Stmt x := by
  obtain ⟨cs, rfl, h2⟩ := h.agg_inv (by simp [isAggB, Tryz.underlying165])
  obtain ⟨x, rfl, o⟩ := ti_165 _ h2
  exact ⟨x, rfl, o⟩
set_option maxRecDepth 100000 in
theorem ti_49 (cs : List C) (h : Ty Tryz.prog 49 cs) : ∃ x : List api_Stmt, cs = (eL e_api_Stmt) x ∧ (okL ok_api_Stmt) x := by
  obtain ⟨rows, rfl, hl, hr⟩ := h.slice_inv Tryz.underlying49
  obtain ⟨xs, rfl, ho⟩ := rows_inv ti_165 rows hr
  exact ⟨xs, rfl, by simpa using hl, ho⟩
theorem tv_49 {X : V} (h : TyV Tryz.prog 49 X) : ∃ x : List api_Stmt, X = .one (.sl (x.map e_api_Stmt)) ∧ (okL ok_api_Stmt) x := by
  obtain ⟨c, rfl, h2⟩ := h.one_inv (by simp [isAggB, Tryz.underlying49])
  obtain ⟨x, e, o⟩ := ti_49 _ h2
  cases e
  exact ⟨x, rfl, o⟩
def ok_api_Task (x : api_Task) : Prop := (okI .i64) x.Every ∧ (okI .i64) x.Priority ∧ (okL (okI .i64)) x.Budget ∧ (okL ok_api_Stmt) x.Body
set_option maxRecDepth 100000 in
theorem ti_51 (cs : List C) (h : Ty Tryz.prog 51 cs) : ∃ x : api_Task, cs = e_api_Task x ∧ ok_api_Task x := by
  obtain ⟨hl, hf⟩ := h.struct_inv Tryz.underlying51
  have e_ : Tryz.prog.cellsOf 51 = 4 := by kernel_rfl
  rw [e_] at hl
  have e_3 : Tryz.prog.cellsOf 3 = 1 := by kernel_rfl
  have e_48 : Tryz.prog.cellsOf 48 = 1 := by kernel_rfl
  have e_49 : Tryz.prog.cellsOf 49 = 1 := by kernel_rfl
  obtain ⟨c0, c1, c2, c3, rfl⟩ : ∃ c0 c1 c2 c3, cs = [c0, c1, c2, c3] := by
    match cs, hl with
    | [c0, c1, c2, c3], _ => exact ⟨c0, c1, c2, c3, rfl⟩
  have h0 : Ty Tryz.prog 3 [c0] := by
    have := hf _ (List.mem_of_getElem? (i := 0) rfl)
    simp only [e_3] at this
    exact this
  obtain ⟨x0, q0, o0⟩ := ti_3 _ h0
  have h1 : Ty Tryz.prog 3 [c1] := by
    have := hf _ (List.mem_of_getElem? (i := 1) rfl)
    simp only [e_3] at this
    exact this
  obtain ⟨x1, q1, o1⟩ := ti_3 _ h1
  have h2 : Ty Tryz.prog 48 [c2] := by
    have := hf _ (List.mem_of_getElem? (i := 2) rfl)
    simp only [e_48] at this
    exact this
  obtain ⟨x2, q2, o2⟩ := ti_48 _ h2
  have h3 : Ty Tryz.prog 49 [c3] := by
    have := hf _ (List.mem_of_getElem? (i := 3) rfl)
    simp only [e_49] at this
    exact this
  obtain ⟨x3, q3, o3⟩ := ti_49 _ h3
  refine ⟨⟨x0, x1, x2, x3⟩, ?_, ⟨o0, o1, o2, o3⟩⟩
  have hx : e_api_Task ⟨x0, x1, x2, x3⟩ = eI x0 ++ eI x1 ++ (eL eI) x2 ++ (eL e_api_Stmt) x3 := by simp [go_sem]
  rw [hx, ← q0, ← q1, ← q2, ← q3]; rfl
theorem tv_51 {X : V} (h : TyV Tryz.prog 51 X) : ∃ x : api_Task, X = .agg (e_api_Task x) ∧ ok_api_Task x := by
  obtain ⟨cs, rfl, h2⟩ := h.agg_inv (by simp [isAggB, Tryz.underlying51])
  obtain ⟨x, rfl, o⟩ := ti_51 _ h2
  exact ⟨x, rfl, o⟩
set_option maxRecDepth 100000 in
theorem ti_29 (cs : List C) (h : Ty Tryz.prog 29 cs) : ∃ x : List api_Task, cs = (eL e_api_Task) x ∧ (okL ok_api_Task) x := by
  obtain ⟨rows, rfl, hl, hr⟩ := h.slice_inv Tryz.underlying29
  obtain ⟨xs, rfl, ho⟩ := rows_inv ti_51 rows hr
  exact ⟨xs, rfl, by simpa using hl, ho⟩
theorem tv_29 {X : V} (h : TyV Tryz.prog 29 X) : ∃ x : List api_Task, X = .one (.sl (x.map e_api_Task)) ∧ (okL ok_api_Task) x := by
  obtain ⟨c, rfl, h2⟩ := h.one_inv (by simp [isAggB, Tryz.underlying29])
  obtain ⟨x, e, o⟩ := ti_29 _ h2
  cases e
  exact ⟨x, rfl, o⟩
def ok_api_Ins (x : api_Ins) : Prop := (okI .i64) x.Op ∧ (okI .i64) x.A ∧ (okI .i64) x.B_ ∧ (okI .i64) x.Label
set_option maxRecDepth 100000 in
theorem ti_91 (cs : List C) (h : Ty Tryz.prog 91 cs) : ∃ x : api_Ins, cs = e_api_Ins x ∧ ok_api_Ins x := by
  obtain ⟨hl, hf⟩ := h.struct_inv Tryz.underlying91
  have e_ : Tryz.prog.cellsOf 91 = 4 := by kernel_rfl
  rw [e_] at hl
  have e_3 : Tryz.prog.cellsOf 3 = 1 := by kernel_rfl
  obtain ⟨c0, c1, c2, c3, rfl⟩ : ∃ c0 c1 c2 c3, cs = [c0, c1, c2, c3] := by
    match cs, hl with
    | [c0, c1, c2, c3], _ => exact ⟨c0, c1, c2, c3, rfl⟩
  have h0 : Ty Tryz.prog 3 [c0] := by
    have := hf _ (List.mem_of_getElem? (i := 0) rfl)
    simp only [e_3] at this
    exact this
  obtain ⟨x0, q0, o0⟩ := ti_3 _ h0
  have h1 : Ty Tryz.prog 3 [c1] := by
    have := hf _ (List.mem_of_getElem? (i := 1) rfl)
    simp only [e_3] at this
    exact this
  obtain ⟨x1, q1, o1⟩ := ti_3 _ h1
  have h2 : Ty Tryz.prog 3 [c2] := by
    have := hf _ (List.mem_of_getElem? (i := 2) rfl)
    simp only [e_3] at this
    exact this
  obtain ⟨x2, q2, o2⟩ := ti_3 _ h2
  have h3 : Ty Tryz.prog 3 [c3] := by
    have := hf _ (List.mem_of_getElem? (i := 3) rfl)
    simp only [e_3] at this
    exact this
  obtain ⟨x3, q3, o3⟩ := ti_3 _ h3
  refine ⟨⟨x0, x1, x2, x3⟩, ?_, ⟨o0, o1, o2, o3⟩⟩
  have hx : e_api_Ins ⟨x0, x1, x2, x3⟩ = eI x0 ++ eI x1 ++ eI x2 ++ eI x3 := by simp [go_sem]
  rw [hx, ← q0, ← q1, ← q2, ← q3]; rfl
theorem tv_91 {X : V} (h : TyV Tryz.prog 91 X) : ∃ x : api_Ins, X = .agg (e_api_Ins x) ∧ ok_api_Ins x := by
  obtain ⟨cs, rfl, h2⟩ := h.agg_inv (by simp [isAggB, Tryz.underlying91])
  obtain ⟨x, rfl, o⟩ := ti_91 _ h2
  exact ⟨x, rfl, o⟩
set_option maxRecDepth 100000 in
theorem ti_52 (cs : List C) (h : Ty Tryz.prog 52 cs) : ∃ x : List api_Ins, cs = (eL e_api_Ins) x ∧ (okL ok_api_Ins) x := by
  obtain ⟨rows, rfl, hl, hr⟩ := h.slice_inv Tryz.underlying52
  obtain ⟨xs, rfl, ho⟩ := rows_inv ti_91 rows hr
  exact ⟨xs, rfl, by simpa using hl, ho⟩
theorem tv_52 {X : V} (h : TyV Tryz.prog 52 X) : ∃ x : List api_Ins, X = .one (.sl (x.map e_api_Ins)) ∧ (okL ok_api_Ins) x := by
  obtain ⟨c, rfl, h2⟩ := h.one_inv (by simp [isAggB, Tryz.underlying52])
  obtain ⟨x, e, o⟩ := ti_52 _ h2
  cases e
  exact ⟨x, rfl, o⟩
set_option maxRecDepth 100000 in
theorem ti_30 (cs : List C) (h : Ty Tryz.prog 30 cs) : ∃ x : List (List api_Ins), cs = (eL (eL e_api_Ins)) x ∧ (okL (okL ok_api_Ins)) x := by
  obtain ⟨rows, rfl, hl, hr⟩ := h.slice_inv Tryz.underlying30
  obtain ⟨xs, rfl, ho⟩ := rows_inv ti_52 rows hr
  exact ⟨xs, rfl, by simpa using hl, ho⟩
theorem tv_30 {X : V} (h : TyV Tryz.prog 30 X) : ∃ x : List (List api_Ins), X = .one (.sl (x.map (eL e_api_Ins))) ∧ (okL (okL ok_api_Ins)) x := by
  obtain ⟨c, rfl, h2⟩ := h.one_inv (by simp [isAggB, Tryz.underlying30])
  obtain ⟨x, e, o⟩ := ti_30 _ h2
  cases e
  exact ⟨x, rfl, o⟩
def ok_api_Image (x : api_Image) : Prop := ok_api_Lattice x.Lattice ∧ (okL ok_api_Site) x.Sites ∧ (okL ok_api_Var) x.Vars ∧ (okL ok_api_Block) x.Blocks ∧ (okL ok_api_Task) x.Tasks ∧ (okL (okL ok_api_Ins)) x.Code
set_option maxRecDepth 100000 in
theorem ti_32 (cs : List C) (h : Ty Tryz.prog 32 cs) : ∃ x : api_Image, cs = e_api_Image x ∧ ok_api_Image x := by
  obtain ⟨hl, hf⟩ := h.struct_inv Tryz.underlying32
  have e_ : Tryz.prog.cellsOf 32 = 7 := by kernel_rfl
  rw [e_] at hl
  have e_25 : Tryz.prog.cellsOf 25 = 2 := by kernel_rfl
  have e_26 : Tryz.prog.cellsOf 26 = 1 := by kernel_rfl
  have e_27 : Tryz.prog.cellsOf 27 = 1 := by kernel_rfl
  have e_28 : Tryz.prog.cellsOf 28 = 1 := by kernel_rfl
  have e_29 : Tryz.prog.cellsOf 29 = 1 := by kernel_rfl
  have e_30 : Tryz.prog.cellsOf 30 = 1 := by kernel_rfl
  obtain ⟨c0, c1, c2, c3, c4, c5, c6, rfl⟩ : ∃ c0 c1 c2 c3 c4 c5 c6, cs = [c0, c1, c2, c3, c4, c5, c6] := by
    match cs, hl with
    | [c0, c1, c2, c3, c4, c5, c6], _ => exact ⟨c0, c1, c2, c3, c4, c5, c6, rfl⟩
  have h0 : Ty Tryz.prog 25 [c0, c1] := by
    have := hf _ (List.mem_of_getElem? (i := 0) rfl)
    simp only [e_25] at this
    exact this
  obtain ⟨x0, q0, o0⟩ := ti_25 _ h0
  have h1 : Ty Tryz.prog 26 [c2] := by
    have := hf _ (List.mem_of_getElem? (i := 1) rfl)
    simp only [e_26] at this
    exact this
  obtain ⟨x1, q1, o1⟩ := ti_26 _ h1
  have h2 : Ty Tryz.prog 27 [c3] := by
    have := hf _ (List.mem_of_getElem? (i := 2) rfl)
    simp only [e_27] at this
    exact this
  obtain ⟨x2, q2, o2⟩ := ti_27 _ h2
  have h3 : Ty Tryz.prog 28 [c4] := by
    have := hf _ (List.mem_of_getElem? (i := 3) rfl)
    simp only [e_28] at this
    exact this
  obtain ⟨x3, q3, o3⟩ := ti_28 _ h3
  have h4 : Ty Tryz.prog 29 [c5] := by
    have := hf _ (List.mem_of_getElem? (i := 4) rfl)
    simp only [e_29] at this
    exact this
  obtain ⟨x4, q4, o4⟩ := ti_29 _ h4
  have h5 : Ty Tryz.prog 30 [c6] := by
    have := hf _ (List.mem_of_getElem? (i := 5) rfl)
    simp only [e_30] at this
    exact this
  obtain ⟨x5, q5, o5⟩ := ti_30 _ h5
  refine ⟨⟨x0, x1, x2, x3, x4, x5⟩, ?_, ⟨o0, o1, o2, o3, o4, o5⟩⟩
  have hx : e_api_Image ⟨x0, x1, x2, x3, x4, x5⟩ = e_api_Lattice x0 ++ (eL e_api_Site) x1 ++ (eL e_api_Var) x2 ++ (eL e_api_Block) x3 ++ (eL e_api_Task) x4 ++ (eL (eL e_api_Ins)) x5 := by simp [go_sem]
  rw [hx, ← q0, ← q1, ← q2, ← q3, ← q4, ← q5]; rfl
theorem tv_32 {X : V} (h : TyV Tryz.prog 32 X) : ∃ x : api_Image, X = .agg (e_api_Image x) ∧ ok_api_Image x := by
  obtain ⟨cs, rfl, h2⟩ := h.agg_inv (by simp [isAggB, Tryz.underlying32])
  obtain ⟨x, rfl, o⟩ := ti_32 _ h2
  exact ⟨x, rfl, o⟩
end Go.Lz

