/- ST: what values of the laws' types are, as data. -/
import Derived.Test.YtakkdadfikcpoaaDoorSD
import Derived.Test.YtakkdadfikcpoaaDoorLzE
namespace Go.Lz
set_option linter.unusedVariables false
set_option linter.unusedSimpArgs false
open Go.Proofs
def okI (k : IntKind) (n : Int) : Prop := k.min ≤ n ∧ n ≤ k.max
def okS (s : Str) : Prop := s.length ≤ lim
def okL {α : Type} (p : α → Prop) (xs : List α) : Prop := xs.length ≤ lim ∧ ∀ x ∈ xs, p x
theorem rows_inv {P : Program} {e : TypeId} {α : Type} {f : α → List C} {ok : α → Prop} (h : ∀ cs, Ty P e cs → ∃ x, cs = f x ∧ ok x) : ∀ rows : List (List C), (∀ r ∈ rows, Ty P e r) → ∃ xs : List α, rows = xs.map f ∧ ∀ x ∈ xs, ok x
  | [], _ => ⟨[], rfl, by simp⟩
  | r :: rows, hr => by
    obtain ⟨x, e1, o1⟩ := h r (hr r (by simp))
    obtain ⟨xs, e2, o2⟩ := rows_inv h rows (fun r' hr' => hr r' (by simp [hr']))
    exact ⟨x :: xs, by rw [e1, e2]; rfl, fun y hy => by rcases List.mem_cons.1 hy with rfl | hy; exact o1; exact o2 y hy⟩
theorem rows_invB {P : Program} {e : TypeId} {α : Type} {f : α → List C} {ok : α → Prop} : ∀ rows : List (List C), (∀ r ∈ rows, Ty P e r) → (∀ r ∈ rows, Ty P e r → ∃ x, r = f x ∧ ok x) → ∃ xs : List α, rows = xs.map f ∧ ∀ x ∈ xs, ok x
  | [], _, _ => ⟨[], rfl, by simp⟩
  | r :: rows, hr, h => by
    obtain ⟨x, e1, o1⟩ := h r (by simp) (hr r (by simp))
    obtain ⟨xs, e2, o2⟩ := rows_invB rows (fun r' hr' => hr r' (by simp [hr'])) (fun r' hr' => h r' (by simp [hr']))
    exact ⟨x :: xs, by rw [e1, e2]; rfl, fun y hy => by rcases List.mem_cons.1 hy with rfl | hy; exact o1; exact o2 y hy⟩
set_option maxRecDepth 100000 in
theorem ti_3 (cs : List C) (h : Ty Tryd.prog 3 cs) : ∃ x : Int, cs = eI x ∧ (okI .i64) x := by
  obtain ⟨n, rfl, hn⟩ := h.int_inv Tryd.underlying3
  exact ⟨n, rfl, hn⟩
theorem tv_3 {X : V} (h : TyV Tryd.prog 3 X) : ∃ x : Int, X = .one (.int .i64 x) ∧ (okI .i64) x := by
  obtain ⟨c, rfl, h2⟩ := h.one_inv (by simp [isAggB, Tryd.underlying3])
  obtain ⟨x, e, o⟩ := ti_3 _ h2
  cases e
  exact ⟨x, rfl, o⟩
def ok_api_Ins (x : api_Ins) : Prop := (okI .i64) x.Op ∧ (okI .i64) x.A ∧ (okI .i64) x.B_ ∧ (okI .i64) x.Label
set_option maxRecDepth 100000 in
theorem ti_36 (cs : List C) (h : Ty Tryd.prog 36 cs) : ∃ x : api_Ins, cs = e_api_Ins x ∧ ok_api_Ins x := by
  obtain ⟨hl, hf⟩ := h.struct_inv Tryd.underlying36
  have e_ : Tryd.prog.cellsOf 36 = 4 := by kernel_rfl
  rw [e_] at hl
  have e_3 : Tryd.prog.cellsOf 3 = 1 := by kernel_rfl
  obtain ⟨c0, c1, c2, c3, rfl⟩ : ∃ c0 c1 c2 c3, cs = [c0, c1, c2, c3] := by
    match cs, hl with
    | [c0, c1, c2, c3], _ => exact ⟨c0, c1, c2, c3, rfl⟩
  have h0 : Ty Tryd.prog 3 [c0] := by
    have := hf _ (List.mem_of_getElem? (i := 0) rfl)
    simp only [e_3] at this
    exact this
  obtain ⟨x0, q0, o0⟩ := ti_3 _ h0
  have h1 : Ty Tryd.prog 3 [c1] := by
    have := hf _ (List.mem_of_getElem? (i := 1) rfl)
    simp only [e_3] at this
    exact this
  obtain ⟨x1, q1, o1⟩ := ti_3 _ h1
  have h2 : Ty Tryd.prog 3 [c2] := by
    have := hf _ (List.mem_of_getElem? (i := 2) rfl)
    simp only [e_3] at this
    exact this
  obtain ⟨x2, q2, o2⟩ := ti_3 _ h2
  have h3 : Ty Tryd.prog 3 [c3] := by
    have := hf _ (List.mem_of_getElem? (i := 3) rfl)
    simp only [e_3] at this
    exact this
  obtain ⟨x3, q3, o3⟩ := ti_3 _ h3
  refine ⟨⟨x0, x1, x2, x3⟩, ?_, ⟨o0, o1, o2, o3⟩⟩
  have hx : e_api_Ins ⟨x0, x1, x2, x3⟩ = eI x0 ++ eI x1 ++ eI x2 ++ eI x3 := by simp [go_sem]
  rw [hx, ← q0, ← q1, ← q2, ← q3]; rfl
theorem tv_36 {X : V} (h : TyV Tryd.prog 36 X) : ∃ x : api_Ins, X = .agg (e_api_Ins x) ∧ ok_api_Ins x := by
  obtain ⟨cs, rfl, h2⟩ := h.agg_inv (by simp [isAggB, Tryd.underlying36])
  obtain ⟨x, rfl, o⟩ := ti_36 _ h2
  exact ⟨x, rfl, o⟩
set_option maxRecDepth 100000 in
theorem ti_22 (cs : List C) (h : Ty Tryd.prog 22 cs) : ∃ x : List api_Ins, cs = (eL e_api_Ins) x ∧ (okL ok_api_Ins) x := by
  obtain ⟨rows, rfl, hl, hr⟩ := h.slice_inv Tryd.underlying22
  obtain ⟨xs, rfl, ho⟩ := rows_inv ti_36 rows hr
  exact ⟨xs, rfl, by simpa using hl, ho⟩
theorem tv_22 {X : V} (h : TyV Tryd.prog 22 X) : ∃ x : List api_Ins, X = .one (.sl (x.map e_api_Ins)) ∧ (okL ok_api_Ins) x := by
  obtain ⟨c, rfl, h2⟩ := h.one_inv (by simp [isAggB, Tryd.underlying22])
  obtain ⟨x, e, o⟩ := ti_22 _ h2
  cases e
  exact ⟨x, rfl, o⟩
set_option maxRecDepth 100000 in
theorem ti_9 (cs : List C) (h : Ty Tryd.prog 9 cs) : ∃ x : Str, cs = eS x ∧ okS x := by
  obtain ⟨n, rfl, hn⟩ := h.str_inv Tryd.underlying9
  exact ⟨n, rfl, hn⟩
theorem tv_9 {X : V} (h : TyV Tryd.prog 9 X) : ∃ x : Str, X = .one (.str x) ∧ okS x := by
  obtain ⟨c, rfl, h2⟩ := h.one_inv (by simp [isAggB, Tryd.underlying9])
  obtain ⟨x, e, o⟩ := ti_9 _ h2
  cases e
  exact ⟨x, rfl, o⟩
end Go.Lz

