/- ST: what values of the laws' types are, as data. -/
import Derived.Test.YtefnllpnodnimaaSD
import Derived.Test.YtefnllpnodnimaaLzE
namespace Go.Lz
set_option linter.unusedVariables false
set_option linter.unusedSimpArgs false
open Go.Proofs
def okI (k : IntKind) (n : Int) : Prop := k.min ≤ n ∧ n ≤ k.max
def okS (s : Str) : Prop := s.length ≤ lim
def okL {α : Type} (p : α → Prop) (xs : List α) : Prop := xs.length ≤ lim ∧ ∀ x ∈ xs, p x
theorem rows_inv {P : Program} {e : TypeId} {α : Type} {f : α → List C} {ok : α → Prop} (h : ∀ cs, Ty P e cs → ∃ x, cs = f x ∧ ok x) : ∀ rows : List (List C), (∀ r ∈ rows, Ty P e r) → ∃ xs : List α, rows = xs.map f ∧ ∀ x ∈ xs, ok x
  | [], _ => ⟨[], rfl, by simp⟩
  | r :: rows, hr => by
    obtain ⟨x, e1, o1⟩ := h r (hr r (by simp))
    obtain ⟨xs, e2, o2⟩ := rows_inv h rows (fun r' hr' => hr r' (by simp [hr']))
    exact ⟨x :: xs, by rw [e1, e2]; rfl, fun y hy => by rcases List.mem_cons.1 hy with rfl | hy; exact o1; exact o2 y hy⟩
theorem rows_invB {P : Program} {e : TypeId} {α : Type} {f : α → List C} {ok : α → Prop} : ∀ rows : List (List C), (∀ r ∈ rows, Ty P e r) → (∀ r ∈ rows, Ty P e r → ∃ x, r = f x ∧ ok x) → ∃ xs : List α, rows = xs.map f ∧ ∀ x ∈ xs, ok x
  | [], _, _ => ⟨[], rfl, by simp⟩
  | r :: rows, hr, h => by
    obtain ⟨x, e1, o1⟩ := h r (by simp) (hr r (by simp))
    obtain ⟨xs, e2, o2⟩ := rows_invB rows (fun r' hr' => hr r' (by simp [hr'])) (fun r' hr' => h r' (by simp [hr']))
    exact ⟨x :: xs, by rw [e1, e2]; rfl, fun y hy => by rcases List.mem_cons.1 hy with rfl | hy; exact o1; exact o2 y hy⟩
def okA2 {α : Type} (p : α → Prop) (x : A2 α) : Prop := p x.a0 ∧ p x.a1
def okA3 {α : Type} (p : α → Prop) (x : A3 α) : Prop := p x.a0 ∧ p x.a1 ∧ p x.a2
def okA5 {α : Type} (p : α → Prop) (x : A5 α) : Prop := p x.a0 ∧ p x.a1 ∧ p x.a2 ∧ p x.a3 ∧ p x.a4
set_option maxRecDepth 100000 in
theorem ti_3 (cs : List C) (h : Ty Try.prog 3 cs) : ∃ x : Int, cs = eI x ∧ (okI .i64) x := by
  obtain ⟨n, rfl, hn⟩ := h.int_inv Try.underlying3
  exact ⟨n, rfl, hn⟩
theorem tv_3 {X : V} (h : TyV Try.prog 3 X) : ∃ x : Int, X = .one (.int .i64 x) ∧ (okI .i64) x := by
  obtain ⟨c, rfl, h2⟩ := h.one_inv (by simp [isAggB, Try.underlying3])
  obtain ⟨x, e, o⟩ := ti_3 _ h2
  cases e
  exact ⟨x, rfl, o⟩
def ok_api_Type (x : api_Type) : Prop := (okI .i64) x.Kind ∧ (okI .i64) x.Low ∧ (okI .i64) x.Len
set_option maxRecDepth 100000 in
theorem ti_23 (cs : List C) (h : Ty Try.prog 23 cs) : ∃ x : api_Type, cs = e_api_Type x ∧ ok_api_Type x := by
  obtain ⟨hl, hf⟩ := h.struct_inv Try.underlying23
  have e_ : Try.prog.cellsOf 23 = 3 := by kernel_rfl
  rw [e_] at hl
  have e_3 : Try.prog.cellsOf 3 = 1 := by kernel_rfl
  obtain ⟨c0, c1, c2, rfl⟩ : ∃ c0 c1 c2, cs = [c0, c1, c2] := by
    match cs, hl with
    | [c0, c1, c2], _ => exact ⟨c0, c1, c2, rfl⟩
  have h0 : Ty Try.prog 3 [c0] := by
    have := hf _ (List.mem_of_getElem? (i := 0) rfl)
    simp only [e_3] at this
    exact this
  obtain ⟨x0, q0, o0⟩ := ti_3 _ h0
  have h1 : Ty Try.prog 3 [c1] := by
    have := hf _ (List.mem_of_getElem? (i := 1) rfl)
    simp only [e_3] at this
    exact this
  obtain ⟨x1, q1, o1⟩ := ti_3 _ h1
  have h2 : Ty Try.prog 3 [c2] := by
    have := hf _ (List.mem_of_getElem? (i := 2) rfl)
    simp only [e_3] at this
    exact this
  obtain ⟨x2, q2, o2⟩ := ti_3 _ h2
  refine ⟨⟨x0, x1, x2⟩, ?_, ⟨o0, o1, o2⟩⟩
  have hx : e_api_Type ⟨x0, x1, x2⟩ = eI x0 ++ eI x1 ++ eI x2 := by simp [go_sem]
  rw [hx, ← q0, ← q1, ← q2]; rfl
theorem tv_23 {X : V} (h : TyV Try.prog 23 X) : ∃ x : api_Type, X = .agg (e_api_Type x) ∧ ok_api_Type x := by
  obtain ⟨cs, rfl, h2⟩ := h.agg_inv (by simp [isAggB, Try.underlying23])
  obtain ⟨x, rfl, o⟩ := ti_23 _ h2
  exact ⟨x, rfl, o⟩
set_option maxRecDepth 100000 in
theorem ti_28 (cs : List C) (h : Ty Try.prog 28 cs) : ∃ x : List Int, cs = (eL eI) x ∧ (okL (okI .i64)) x := by
  obtain ⟨rows, rfl, hl, hr⟩ := h.slice_inv Try.underlying28
  obtain ⟨xs, rfl, ho⟩ := rows_inv ti_3 rows hr
  exact ⟨xs, rfl, by simpa using hl, ho⟩
theorem tv_28 {X : V} (h : TyV Try.prog 28 X) : ∃ x : List Int, X = .one (.sl (x.map eI)) ∧ (okL (okI .i64)) x := by
  obtain ⟨c, rfl, h2⟩ := h.one_inv (by simp [isAggB, Try.underlying28])
  obtain ⟨x, e, o⟩ := ti_28 _ h2
  cases e
  exact ⟨x, rfl, o⟩
set_option maxRecDepth 100000 in
theorem ti_35 (cs : List C) (h : Ty Try.prog 35 cs) : ∃ x : A2 Int, cs = (eA2 eI) x ∧ (okA2 (okI .i64)) x := by
  obtain ⟨hl, hf⟩ := h.array_inv Try.underlying35
  have e_ : Try.prog.cellsOf 35 = 2 := by kernel_rfl
  rw [e_] at hl
  have e_3 : Try.prog.cellsOf 3 = 1 := by kernel_rfl
  obtain ⟨c0, c1, rfl⟩ : ∃ c0 c1, cs = [c0, c1] := by
    match cs, hl with
    | [c0, c1], _ => exact ⟨c0, c1, rfl⟩
  have h0 : Ty Try.prog 3 [c0] := by
    have := hf 0 (by decide)
    simp only [e_3] at this
    exact this
  obtain ⟨x0, q0, o0⟩ := ti_3 _ h0
  have h1 : Ty Try.prog 3 [c1] := by
    have := hf 1 (by decide)
    simp only [e_3] at this
    exact this
  obtain ⟨x1, q1, o1⟩ := ti_3 _ h1
  refine ⟨⟨x0, x1⟩, ?_, ⟨o0, o1⟩⟩
  have hx : (eA2 eI) ⟨x0, x1⟩ = eI x0 ++ eI x1 := by simp [go_sem]
  rw [hx, ← q0, ← q1]; rfl
theorem tv_35 {X : V} (h : TyV Try.prog 35 X) : ∃ x : A2 Int, X = .agg ((eA2 eI) x) ∧ (okA2 (okI .i64)) x := by
  obtain ⟨cs, rfl, h2⟩ := h.agg_inv (by simp [isAggB, Try.underlying35])
  obtain ⟨x, rfl, o⟩ := ti_35 _ h2
  exact ⟨x, rfl, o⟩
set_option maxRecDepth 100000 in
theorem ti_39 (cs : List C) (h : Ty Try.prog 39 cs) : ∃ x : A3 Int, cs = (eA3 eI) x ∧ (okA3 (okI .i64)) x := by
  obtain ⟨hl, hf⟩ := h.array_inv Try.underlying39
  have e_ : Try.prog.cellsOf 39 = 3 := by kernel_rfl
  rw [e_] at hl
  have e_3 : Try.prog.cellsOf 3 = 1 := by kernel_rfl
  obtain ⟨c0, c1, c2, rfl⟩ : ∃ c0 c1 c2, cs = [c0, c1, c2] := by
    match cs, hl with
    | [c0, c1, c2], _ => exact ⟨c0, c1, c2, rfl⟩
  have h0 : Ty Try.prog 3 [c0] := by
    have := hf 0 (by decide)
    simp only [e_3] at this
    exact this
  obtain ⟨x0, q0, o0⟩ := ti_3 _ h0
  have h1 : Ty Try.prog 3 [c1] := by
    have := hf 1 (by decide)
    simp only [e_3] at this
    exact this
  obtain ⟨x1, q1, o1⟩ := ti_3 _ h1
  have h2 : Ty Try.prog 3 [c2] := by
    have := hf 2 (by decide)
    simp only [e_3] at this
    exact this
  obtain ⟨x2, q2, o2⟩ := ti_3 _ h2
  refine ⟨⟨x0, x1, x2⟩, ?_, ⟨o0, o1, o2⟩⟩
  have hx : (eA3 eI) ⟨x0, x1, x2⟩ = eI x0 ++ eI x1 ++ eI x2 := by simp [go_sem]
  rw [hx, ← q0, ← q1, ← q2]; rfl
theorem tv_39 {X : V} (h : TyV Try.prog 39 X) : ∃ x : A3 Int, X = .agg ((eA3 eI) x) ∧ (okA3 (okI .i64)) x := by
  obtain ⟨cs, rfl, h2⟩ := h.agg_inv (by simp [isAggB, Try.underlying39])
  obtain ⟨x, rfl, o⟩ := ti_39 _ h2
  exact ⟨x, rfl, o⟩
set_option maxRecDepth 100000 in
theorem ti_9 (cs : List C) (h : Ty Try.prog 9 cs) : ∃ x : Str, cs = eS x ∧ okS x := by
  obtain ⟨n, rfl, hn⟩ := h.str_inv Try.underlying9
  exact ⟨n, rfl, hn⟩
theorem tv_9 {X : V} (h : TyV Try.prog 9 X) : ∃ x : Str, X = .one (.str x) ∧ okS x := by
  obtain ⟨c, rfl, h2⟩ := h.one_inv (by simp [isAggB, Try.underlying9])
  obtain ⟨x, e, o⟩ := ti_9 _ h2
  cases e
  exact ⟨x, rfl, o⟩
set_option maxRecDepth 100000 in
theorem ti_42 (cs : List C) (h : Ty Try.prog 42 cs) : ∃ x : List Str, cs = (eL eS) x ∧ (okL okS) x := by
  obtain ⟨rows, rfl, hl, hr⟩ := h.slice_inv Try.underlying42
  obtain ⟨xs, rfl, ho⟩ := rows_inv ti_9 rows hr
  exact ⟨xs, rfl, by simpa using hl, ho⟩
theorem tv_42 {X : V} (h : TyV Try.prog 42 X) : ∃ x : List Str, X = .one (.sl (x.map eS)) ∧ (okL okS) x := by
  obtain ⟨c, rfl, h2⟩ := h.one_inv (by simp [isAggB, Try.underlying42])
  obtain ⟨x, e, o⟩ := ti_42 _ h2
  cases e
  exact ⟨x, rfl, o⟩
set_option maxRecDepth 100000 in
theorem ti_43 (cs : List C) (h : Ty Try.prog 43 cs) : ∃ x : List (A2 Int), cs = (eL (eA2 eI)) x ∧ (okL (okA2 (okI .i64))) x := by
  obtain ⟨rows, rfl, hl, hr⟩ := h.slice_inv Try.underlying43
  obtain ⟨xs, rfl, ho⟩ := rows_inv ti_35 rows hr
  exact ⟨xs, rfl, by simpa using hl, ho⟩
theorem tv_43 {X : V} (h : TyV Try.prog 43 X) : ∃ x : List (A2 Int), X = .one (.sl (x.map (eA2 eI))) ∧ (okL (okA2 (okI .i64))) x := by
  obtain ⟨c, rfl, h2⟩ := h.one_inv (by simp [isAggB, Try.underlying43])
  obtain ⟨x, e, o⟩ := ti_43 _ h2
  cases e
  exact ⟨x, rfl, o⟩
def ok_api_Lattice (x : api_Lattice) : Prop := (okL okS) x.Names ∧ (okL (okA2 (okI .i64))) x.Below
set_option maxRecDepth 100000 in
theorem ti_45 (cs : List C) (h : Ty Try.prog 45 cs) : ∃ x : api_Lattice, cs = e_api_Lattice x ∧ ok_api_Lattice x := by
  obtain ⟨hl, hf⟩ := h.struct_inv Try.underlying45
  have e_ : Try.prog.cellsOf 45 = 2 := by kernel_rfl
  rw [e_] at hl
  have e_42 : Try.prog.cellsOf 42 = 1 := by kernel_rfl
  have e_43 : Try.prog.cellsOf 43 = 1 := by kernel_rfl
  obtain ⟨c0, c1, rfl⟩ : ∃ c0 c1, cs = [c0, c1] := by
    match cs, hl with
    | [c0, c1], _ => exact ⟨c0, c1, rfl⟩
  have h0 : Ty Try.prog 42 [c0] := by
    have := hf _ (List.mem_of_getElem? (i := 0) rfl)
    simp only [e_42] at this
    exact this
  obtain ⟨x0, q0, o0⟩ := ti_42 _ h0
  have h1 : Ty Try.prog 43 [c1] := by
    have := hf _ (List.mem_of_getElem? (i := 1) rfl)
    simp only [e_43] at this
    exact this
  obtain ⟨x1, q1, o1⟩ := ti_43 _ h1
  refine ⟨⟨x0, x1⟩, ?_, ⟨o0, o1⟩⟩
  have hx : e_api_Lattice ⟨x0, x1⟩ = (eL eS) x0 ++ (eL (eA2 eI)) x1 := by simp [go_sem]
  rw [hx, ← q0, ← q1]; rfl
theorem tv_45 {X : V} (h : TyV Try.prog 45 X) : ∃ x : api_Lattice, X = .agg (e_api_Lattice x) ∧ ok_api_Lattice x := by
  obtain ⟨cs, rfl, h2⟩ := h.agg_inv (by simp [isAggB, Try.underlying45])
  obtain ⟨x, rfl, o⟩ := ti_45 _ h2
  exact ⟨x, rfl, o⟩
set_option maxRecDepth 100000 in
theorem ti_69 (cs : List C) (h : Ty Try.prog 69 cs) : ∃ x : A5 Int, cs = (eA5 eI) x ∧ (okA5 (okI .i64)) x := by
  obtain ⟨hl, hf⟩ := h.array_inv Try.underlying69
  have e_ : Try.prog.cellsOf 69 = 5 := by kernel_rfl
  rw [e_] at hl
  have e_3 : Try.prog.cellsOf 3 = 1 := by kernel_rfl
  obtain ⟨c0, c1, c2, c3, c4, rfl⟩ : ∃ c0 c1 c2 c3 c4, cs = [c0, c1, c2, c3, c4] := by
    match cs, hl with
    | [c0, c1, c2, c3, c4], _ => exact ⟨c0, c1, c2, c3, c4, rfl⟩
  have h0 : Ty Try.prog 3 [c0] := by
    have := hf 0 (by decide)
    simp only [e_3] at this
    exact this
  obtain ⟨x0, q0, o0⟩ := ti_3 _ h0
  have h1 : Ty Try.prog 3 [c1] := by
    have := hf 1 (by decide)
    simp only [e_3] at this
    exact this
  obtain ⟨x1, q1, o1⟩ := ti_3 _ h1
  have h2 : Ty Try.prog 3 [c2] := by
    have := hf 2 (by decide)
    simp only [e_3] at this
    exact this
  obtain ⟨x2, q2, o2⟩ := ti_3 _ h2
  have h3 : Ty Try.prog 3 [c3] := by
    have := hf 3 (by decide)
    simp only [e_3] at this
    exact this
  obtain ⟨x3, q3, o3⟩ := ti_3 _ h3
  have h4 : Ty Try.prog 3 [c4] := by
    have := hf 4 (by decide)
    simp only [e_3] at this
    exact this
  obtain ⟨x4, q4, o4⟩ := ti_3 _ h4
  refine ⟨⟨x0, x1, x2, x3, x4⟩, ?_, ⟨o0, o1, o2, o3, o4⟩⟩
  have hx : (eA5 eI) ⟨x0, x1, x2, x3, x4⟩ = eI x0 ++ eI x1 ++ eI x2 ++ eI x3 ++ eI x4 := by simp [go_sem]
  rw [hx, ← q0, ← q1, ← q2, ← q3, ← q4]; rfl
theorem tv_69 {X : V} (h : TyV Try.prog 69 X) : ∃ x : A5 Int, X = .agg ((eA5 eI) x) ∧ (okA5 (okI .i64)) x := by
  obtain ⟨cs, rfl, h2⟩ := h.agg_inv (by simp [isAggB, Try.underlying69])
  obtain ⟨x, rfl, o⟩ := ti_69 _ h2
  exact ⟨x, rfl, o⟩
def ok_lazarettolaw11_Call (x : lazarettolaw11_Call) : Prop := (okI .i64) x.Later ∧ (okA5 (okI .i64)) x.In
set_option maxRecDepth 100000 in
theorem ti_71 (cs : List C) (h : Ty Try.prog 71 cs) : ∃ x : lazarettolaw11_Call, cs = e_lazarettolaw11_Call x ∧ ok_lazarettolaw11_Call x := by
  obtain ⟨hl, hf⟩ := h.struct_inv Try.underlying71
  have e_ : Try.prog.cellsOf 71 = 6 := by kernel_rfl
  rw [e_] at hl
  have e_3 : Try.prog.cellsOf 3 = 1 := by kernel_rfl
  have e_69 : Try.prog.cellsOf 69 = 5 := by kernel_rfl
  obtain ⟨c0, c1, c2, c3, c4, c5, rfl⟩ : ∃ c0 c1 c2 c3 c4 c5, cs = [c0, c1, c2, c3, c4, c5] := by
    match cs, hl with
    | [c0, c1, c2, c3, c4, c5], _ => exact ⟨c0, c1, c2, c3, c4, c5, rfl⟩
  have h0 : Ty Try.prog 3 [c0] := by
    have := hf _ (List.mem_of_getElem? (i := 0) rfl)
    simp only [e_3] at this
    exact this
  obtain ⟨x0, q0, o0⟩ := ti_3 _ h0
  have h1 : Ty Try.prog 69 [c1, c2, c3, c4, c5] := by
    have := hf _ (List.mem_of_getElem? (i := 1) rfl)
    simp only [e_69] at this
    exact this
  obtain ⟨x1, q1, o1⟩ := ti_69 _ h1
  refine ⟨⟨x0, x1⟩, ?_, ⟨o0, o1⟩⟩
  have hx : e_lazarettolaw11_Call ⟨x0, x1⟩ = eI x0 ++ (eA5 eI) x1 := by simp [go_sem]
  rw [hx, ← q0, ← q1]; rfl
theorem tv_71 {X : V} (h : TyV Try.prog 71 X) : ∃ x : lazarettolaw11_Call, X = .agg (e_lazarettolaw11_Call x) ∧ ok_lazarettolaw11_Call x := by
  obtain ⟨cs, rfl, h2⟩ := h.agg_inv (by simp [isAggB, Try.underlying71])
  obtain ⟨x, rfl, o⟩ := ti_71 _ h2
  exact ⟨x, rfl, o⟩
set_option maxRecDepth 100000 in
theorem ti_60 (cs : List C) (h : Ty Try.prog 60 cs) : ∃ x : List lazarettolaw11_Call, cs = (eL e_lazarettolaw11_Call) x ∧ (okL ok_lazarettolaw11_Call) x := by
  obtain ⟨rows, rfl, hl, hr⟩ := h.slice_inv Try.underlying60
  obtain ⟨xs, rfl, ho⟩ := rows_inv ti_71 rows hr
  exact ⟨xs, rfl, by simpa using hl, ho⟩
theorem tv_60 {X : V} (h : TyV Try.prog 60 X) : ∃ x : List lazarettolaw11_Call, X = .one (.sl (x.map e_lazarettolaw11_Call)) ∧ (okL ok_lazarettolaw11_Call) x := by
  obtain ⟨c, rfl, h2⟩ := h.one_inv (by simp [isAggB, Try.underlying60])
  obtain ⟨x, e, o⟩ := ti_60 _ h2
  cases e
  exact ⟨x, rfl, o⟩
end Go.Lz

