/- The parts of a proof: V15f, Lp2, Lp3, P15z, V08, V07, V06, V05, Pt, P05, Pd, P06, P07, P08, P10, P10b, P12s, P12, PLeq, PLat, P01, P01b, P01c, P02, P02b, P02c, P13, P13b, P13c, P14, P14b, P14c, P15f, LzF -/
import Derived.Test.YtcceddpmmgabjaaGreatQ6
import Derived.RangeFuncFrom
import Derived.RangeFuncLeaves
section
/- V15f -/
namespace Go.Lz
set_option linter.unusedVariables false
set_option linter.unusedSimpArgs false
open Go.Proofs
attribute [-go_sem] q_cond g_b gd_b
set_option maxRecDepth 100000
set_option maxHeartbeats 4000000
noncomputable section
def lazarettoref04_Size (t : api_Type) : Option Int :=
  (lazarettoref04_Check t).bind fun r_1 => if r_1 = 0 then (some (maxI t.Len 1)) else (some 0)
def ints_Bits (kind : Int) : Option Int :=
  if kind = 1 then (some 1) else (if kind = 2 then (some 16) else (if kind = 3 then (some 32) else (if kind = 4 then (some 32) else (some 0))))
def cells_Check (t : api_Type) : Option Int :=
  if (-32768) ≤ t.Low then ((ints_Bits t.Kind).bind fun r_1 => if r_1 = 0 then (some 6) else (if t.Len < 0 then (some 6) else (if 32 < t.Len then (some 6) else (if t.Low < 32768 then (if t.Len = 0 then (if t.Low = 0 then (some 0) else (some 6)) else (some 0)) else (some 6))))) else ((ints_Bits t.Kind).bind fun r_2 => if r_2 = 0 then (some 6) else (if t.Len < 0 then (some 6) else (if 32 < t.Len then (some 6) else (some 6))))
def cells_Size (t : api_Type) : Option Int :=
  (cells_Check t).bind fun r_1 => if r_1 = 0 then (some (maxI t.Len 1)) else (some 0)
def cells_Zero (t : api_Type) : Option (List Int) :=
  (cells_Size t).bind fun r_1 => need (0 ≤ r_1 ∧ 8 * r_1 ≤ 140737488355328) (some (List.replicate (List.replicate r_1.toNat 0).length 0))
def eval_Zero_L1 (vars : List api_Var) : ((List (List Int)) × Nat) → Option (((List (List Int)) × Nat) ⊕ (List (List Int)))
  | (xs_3, x_4) => if (x_4 : Int) < (vars.length : Int) then ((vars[x_4]?).bind fun x_7 => (cells_Zero x_7.Type_).bind fun r_8 => need ((xs_3.length + 1) * 24 ≤ 140737488355328) (some (.inl ((xs_3 ++ [r_8]), (x_4 + 1))))) else (some (.inr (xs_3)))
def eval_Zero (vars : List api_Var) (n : Int) : Option api_Memory :=
  need (0 ≤ n ∧ 32 * n ≤ 140737488355328) ((loop (eval_Zero_L1 vars) ([], 0)).bind (fun e_5 => some (⟨e_5, (List.replicate n.toNat (⟨0, 0, 0, 0⟩ : A4 Int))⟩ : api_Memory)))
def eval_Fresh (p : api_Program) (now : Int) : Option api_Run :=
  (eval_Zero p.Vars (p.Blocks.length : Int)).bind fun r_1 => need (0 ≤ (p.Lattice.Names.length : Int) ∧ 8 * (p.Lattice.Names.length : Int) ≤ 140737488355328) (need (0 ≤ (p.Lattice.Names.length : Int) ∧ 8 * (p.Lattice.Names.length : Int) ≤ 140737488355328) (some (⟨r_1, (List.replicate p.Lattice.Names.length 0), (List.replicate p.Lattice.Names.length 0), [], now⟩ : api_Run)))
def lazarettoref15_Memory_L2 (a : api_Memory) (b : api_Memory) : Nat → Option ((Nat) ⊕ (Bool ⊕ Unit))
  | i_8 => if (i_8 : Int) < (a.Blocks.length : Int) then ((a.Blocks[i_8]?).bind fun x_11 => (b.Blocks[i_8]?).bind fun x_12 => if x_11.a0 = x_12.a0 ∧ x_11.a1 = x_12.a1 ∧ x_11.a2 = x_12.a2 ∧ x_11.a3 = x_12.a3 then (some (.inl (i_8 + 1))) else (some (.inr (.inl (false))))) else (some (.inr (.inr (()))))
def lazarettoref15_Memory_L1 (a : api_Memory) (b : api_Memory) : Nat → Option ((Nat) ⊕ (Bool ⊕ Unit))
  | i_1 => if (i_1 : Int) < (a.Cells.length : Int) then ((a.Cells[i_1]?).bind fun x_4 => (b.Cells[i_1]?).bind fun x_5 => (lazarettoref04_Ints x_4 x_5).bind fun r_6 => if r_6 = true then (some (.inl (i_1 + 1))) else (some (.inr (.inl (false))))) else (some (.inr (.inr (()))))
def lazarettoref15_Memory (a : api_Memory) (b : api_Memory) : Option Bool :=
  if (a.Cells.length : Int) = (b.Cells.length : Int) then (if (a.Blocks.length : Int) = (b.Blocks.length : Int) then ((loop (lazarettoref15_Memory_L1 a b) 0).bind (fun e__ => match e__ with | (.inl e_7) => some e_7 | (.inr ()) => (loop (lazarettoref15_Memory_L2 a b) 0).bind (fun e__ => match e__ with | (.inl e_13) => some e_13 | (.inr ()) => some true))) else (some false)) else (some false)
def lazarettoref15_Events_L1 (a : List api_Event) (b : List api_Event) : Nat → Option ((Nat) ⊕ (Bool ⊕ Unit))
  | i_1 => if (i_1 : Int) < (a.length : Int) then ((a[i_1]?).bind fun x_4 => (b[i_1]?).bind fun x_5 => if x_4.Site = x_5.Site ∧ x_4.Value = x_5.Value then (some (.inl (i_1 + 1))) else (some (.inr (.inl (false))))) else (some (.inr (.inr (()))))
def lazarettoref15_Events (a : List api_Event) (b : List api_Event) : Option Bool :=
  if (a.length : Int) = (b.length : Int) then ((loop (lazarettoref15_Events_L1 a b) 0).bind (fun e__ => match e__ with | (.inl e_6) => some e_6 | (.inr ()) => some true)) else (some false)
def lazarettoref15_Same (a : api_Run) (b : api_Run) : Option Bool :=
  (lazarettoref15_Memory a.Memory b.Memory).bind fun r_1 => if r_1 = true then ((lazarettoref04_Ints a.Left b.Left).bind fun r_2 => if r_2 = true then ((lazarettoref04_Ints a.Latches b.Latches).bind fun r_3 => if r_3 = true then ((lazarettoref15_Events a.Events b.Events).bind fun r_4 => if r_4 = true then (some (decide (a.Now = b.Now))) else (some false)) else (some false)) else (some false)) else (some false)
def lazarettoref04_Zero (t : api_Type) : Option (List Int) :=
  (lazarettoref04_Size t).bind fun r_1 => need (0 ≤ r_1 ∧ 8 * r_1 ≤ 140737488355328) (some (List.replicate r_1.toNat 0))
def lazarettoref15_Zero_L1 (vars : List api_Var) : ((List (List Int)) × Nat) → Option (((List (List Int)) × Nat) ⊕ (List (List Int)))
  | (xs_2, i_3) => if (i_3 : Int) < (vars.length : Int) then ((vars[i_3]?).bind fun x_6 => (lazarettoref04_Zero x_6.Type_).bind fun r_7 => need ((xs_2.length + 1) * 24 ≤ 140737488355328) (some (.inl ((xs_2 ++ [r_7]), (i_3 + 1))))) else (some (.inr (xs_2)))
def lazarettoref15_Zero (vars : List api_Var) (blocks : Int) : Option api_Memory :=
  (loop (lazarettoref15_Zero_L1 vars) ([], 0)).bind (fun e_4 => need (0 ≤ blocks ∧ 32 * blocks ≤ 140737488355328) (some (⟨e_4, (List.replicate blocks.toNat (⟨0, 0, 0, 0⟩ : A4 Int))⟩ : api_Memory)))
def lazarettoref15_Fresh (p : api_Program) (now : Int) : Option api_Run :=
  (lazarettoref15_Zero p.Vars (p.Blocks.length : Int)).bind fun r_1 => need (0 ≤ (p.Lattice.Names.length : Int) ∧ 8 * (p.Lattice.Names.length : Int) ≤ 140737488355328) (need (0 ≤ (p.Lattice.Names.length : Int) ∧ 8 * (p.Lattice.Names.length : Int) ≤ 140737488355328) (some (⟨r_1, (List.replicate p.Lattice.Names.length 0), (List.replicate p.Lattice.Names.length 0), [], now⟩ : api_Run)))
end
theorem lazarettoref04_Size_ok {t : api_Type} {r : Int} (h : lazarettoref04_Size t = some r) :
    Pu Tryz.prog 27 [.agg (e_api_Type t)] (.one (.int .i64 r)) := by
  have F := trivial; have R := trivial
  refine pA Tryz.func27 ?_
  simp only [Tryz.f27]
  unfold lazarettoref04_Size at h
  refine bi h fun r_1 h hr_1 => ?_
  refine tr ?_
  intros
  refine cS (lazarettoref04_Check_ok hr_1) ?_
  refine fi h F ?_ ?_ <;> intro h _ F
  cases h; exact fin
  cases h; exact fin
theorem ints_Bits_ok {kind : Int} {r : Int} (h : ints_Bits kind = some r) :
    Pu Tryz.prog 140 [.one (.int .i64 kind)] (.one (.int .i64 r)) := by
  have F := trivial; have R := trivial
  refine pA Tryz.func140 ?_
  simp only [Tryz.f140]
  unfold ints_Bits at h
  refine fi h F ?_ ?_ <;> intro h _ F
  cases h; exact fin
  refine fi h F ?_ ?_ <;> intro h _ F
  cases h; exact fin
  refine tt ?_
  refine fi h F ?_ ?_ <;> intro h _ F
  cases h; exact fin
  refine fi h F ?_ ?_ <;> intro h _ F
  cases h; exact fin
  cases h; exact fin
theorem cells_Check_ok {t : api_Type} {r : Int} (h : cells_Check t = some r) :
    Pu Tryz.prog 126 [.agg (e_api_Type t)] (.one (.int .i64 r)) := by
  have F := trivial; have R := trivial
  refine pA Tryz.func126 ?_
  simp only [Tryz.f126]
  unfold cells_Check at h
  refine fi h F ?_ ?_ <;> intro h _ F
  refine bi h fun r_1 h hr_1 => ?_
  refine tr ?_
  intros
  refine cS (ints_Bits_ok hr_1) ?_
  refine fi h F ?_ ?_ <;> intro h _ F
  cases h; exact fin
  refine tt ?_
  refine fi h F ?_ ?_ <;> intro h _ F
  cases h; exact fin
  refine fi h F ?_ ?_ <;> intro h _ F
  cases h; exact fin
  refine tt ?_
  refine fi h F ?_ ?_ <;> intro h _ F
  refine fi h F ?_ ?_ <;> intro h _ F
  refine tt ?_
  refine fi h F ?_ ?_ <;> intro h _ F
  cases h; exact fin
  cases h; exact fin
  cases h; exact fin
  cases h; exact fin
  refine bi h fun r_2 h hr_2 => ?_
  refine tr ?_
  intros
  refine cS (ints_Bits_ok hr_2) ?_
  refine fi h F ?_ ?_ <;> intro h _ F
  cases h; exact fin
  refine tt ?_
  refine fi h F ?_ ?_ <;> intro h _ F
  cases h; exact fin
  refine fi h F ?_ ?_ <;> intro h _ F
  cases h; exact fin
  cases h; exact fin
theorem cells_Size_ok {t : api_Type} {r : Int} (h : cells_Size t = some r) :
    Pu Tryz.prog 123 [.agg (e_api_Type t)] (.one (.int .i64 r)) := by
  have F := trivial; have R := trivial
  refine pA Tryz.func123 ?_
  simp only [Tryz.f123]
  unfold cells_Size at h
  refine bi h fun r_1 h hr_1 => ?_
  refine tr ?_
  intros
  refine cS (cells_Check_ok hr_1) ?_
  refine fi h F ?_ ?_ <;> intro h _ F
  cases h; exact fin
  cases h; exact fin
theorem cells_Zero_ok {t : api_Type} {r : List Int} (h : cells_Zero t = some r) :
    Pu Tryz.prog 85 [.agg (e_api_Type t)] (.one (.sl (r.map eI))) := by
  have F := trivial; have R := trivial
  refine pA Tryz.func85 ?_
  simp only [Tryz.f85]
  unfold cells_Zero at h
  refine bi h fun r_1 h hr_1 => ?_
  refine tr ?_
  intros
  refine cS (cells_Size_ok hr_1) ?_
  refine nd h F fun h F => ?_
  have R := And.intro (show List.replicate r_1.toNat [.int .i64 0] = List.map eI (List.replicate r_1.toNat 0) by simp [go_sem]) R
  have R := And.intro (show splice (List.map eI (List.replicate r_1.toNat 0)) 0 (List.replicate (List.replicate r_1.toNat 0).length [.int .i64 0]) = List.map eI (List.replicate (List.replicate r_1.toNat 0).length 0) by simp [splice, go_sem]) R
  cases h; exact fin
theorem eval_Zero_ok {vars : List api_Var} {n : Int} {r : api_Memory} (h : eval_Zero vars n = some r) :
    Pu Tryz.prog 40 [.one (.sl (vars.map e_api_Var)), .one (.int .i64 n)] (.agg (e_api_Memory r)) := by
  have F := trivial; have R := trivial
  refine pA Tryz.func40 ?_
  simp only [Tryz.f40]
  unfold eval_Zero at h
  refine nd h F fun h F => ?_
  have R := And.intro (show List.replicate n.toNat [.int .i64 0, .int .i64 0, .int .i64 0, .int .i64 0] = List.map (eA4 eI) (List.replicate n.toNat (⟨0, 0, 0, 0⟩ : A4 Int)) by simp [go_sem]) R
  refine bi h fun e_5 h he_5 => ?_
  refine tr ?_
  intros
  refine seed_C 2 0 1 (by rfl) (by rfl) ?_
  refine lE (fun (s__ : (List (List Int)) × Nat) (a__ : Nat) => match s__, a__ with | (xs_3, x_4), v_2 => ⟨[(4, .one (.ref 0 0 0 0)), (5, .one (.ref 2 0 0 0)), (11, .one (.sl (vars.map e_api_Var))), (12, .one (.int .i64 (vars.length : Int))), (13, .one (.int .i64 (x_4 : Int)))], [.cells 0 2 [[.slf [], .slf []]], .cells 0 4 ((List.replicate n.toNat (⟨0, 0, 0, 0⟩ : A4 Int)).map (eA4 eI)), .cells 0 2 [[.msl 3 v_2 0 xs_3.length, .msl 1 0 0 (List.replicate n.toNat (⟨0, 0, 0, 0⟩ : A4 Int)).length]], .cells v_2 1 (xs_3.map (eL eI))]⟩) (fun (e__ : List (List Int)) (b__ : Nat) => match e__, b__ with | e_5, b6 => ⟨[(4, .one (.ref 0 0 0 0)), (5, .one (.ref 2 0 0 0))], [.cells 0 2 [[.slf [], .slf []]], .cells 0 4 ((List.replicate n.toNat (⟨0, 0, 0, 0⟩ : A4 Int)).map (eA4 eI)), .cells 0 2 [[.msl 3 b6 0 e_5.length, .msl 1 0 0 (List.replicate n.toNat (⟨0, 0, 0, 0⟩ : A4 Int)).length]], .cells b6 1 (e_5.map (eL eI))]⟩) (fun (_ : List (List Int)) => some 0) 0 he_5 ?_ ?_
  intro i6 b6 hi6
  obtain rfl := Option.some.inj hi6
  dsimp only at h ⊢
  cases h; exact fin
  intro af6 m6 s6 v_2 o6 hf6 ho6 ih6
  obtain ⟨xs_3, x_4⟩ := s6
  dsimp only [eval_Zero_L1] at hf6 ⊢
  refine fl hf6 F ?_ ?_ <;> intro hf6 _ F
  refine bx hf6 F fun x_7 hf6 hx_7 F => ?_
  refine bi hf6 fun r_8 hf6 hr_8 => ?_
  refine tr ?_
  intros
  refine cD (cells_Zero_ok hr_8) ?_
  refine nd hf6 F fun hf6 F => ?_
  cases hf6
  refine tr ?_
  intros
  refine wn x_4 F fun F => ?_
  exact bk ih6 ho6 (v_2 + 1)
  cases hf6
  refine tt ?_
  exact xt ho6 af6 v_2
theorem eval_Fresh_ok {p : api_Program} {now : Int} {r : api_Run} (h : eval_Fresh p now = some r) :
    Pu Tryz.prog 15 [.agg (e_api_Program p), .one (.int .i64 now)] (.agg (e_api_Run r)) := by
  have F := trivial; have R := trivial
  refine pA Tryz.func15 ?_
  simp only [Tryz.f15]
  unfold eval_Fresh at h
  refine bi h fun r_1 h hr_1 => ?_
  refine tr ?_
  intros
  refine cD (eval_Zero_ok hr_1) ?_
  refine nd h F fun h F => ?_
  have R := And.intro (show List.replicate p.Lattice.Names.length [.int .i64 0] = List.map eI (List.replicate p.Lattice.Names.length 0) by simp [go_sem]) R
  refine nd h F fun h F => ?_
  have R := And.intro (show List.replicate p.Lattice.Names.length [.int .i64 0] = List.map eI (List.replicate p.Lattice.Names.length 0) by simp [go_sem]) R
  cases h; exact fin
theorem lazarettoref15_Memory_ok {a : api_Memory} {b : api_Memory} {r : Bool} (h : lazarettoref15_Memory a b = some r) :
    Pu Tryz.prog 19 [.agg (e_api_Memory a), .agg (e_api_Memory b)] (.one (.bool r)) := by
  have F := trivial; have R := trivial
  refine pA Tryz.func19 ?_
  simp only [Tryz.f19]
  unfold lazarettoref15_Memory at h
  refine tr ?_
  intros
  refine fi h F ?_ ?_ <;> intro h _ F
  refine tr ?_
  intros
  refine fi h F ?_ ?_ <;> intro h _ F
  refine bi h fun e_2 h he_2 => ?_
  refine tt ?_
  refine lX he_2 (fun | i_1, _ => ⟨[(2, .one (.ref 0 0 0 0)), (3, .one (.ref 1 0 0 0)), (5, .one (.int .i64 (i_1 : Int)))], [.cells 0 2 [[.sl (a.Cells.map (eL eI)), .sl (a.Blocks.map (eA4 eI))]], .cells 0 2 [[.sl (b.Cells.map (eL eI)), .sl (b.Blocks.map (eA4 eI))]]]⟩) (fun | (.inl e_7), _ => ⟨[], []⟩ | (.inr ()), _ => ⟨[(2, .one (.ref 0 0 0 0)), (3, .one (.ref 1 0 0 0))], [.cells 0 2 [[.sl (a.Cells.map (eL eI)), .sl (a.Blocks.map (eA4 eI))]], .cells 0 2 [[.sl (b.Cells.map (eL eI)), .sl (b.Blocks.map (eA4 eI))]]]⟩) (fun | (.inl _) => none | (.inr _) => some 0) ?_ ?_
  intro i3 b3 hi3
  rcases e_2 with e_case | ⟨⟩
  cases hi3
  obtain rfl := Option.some.inj hi3
  obtain ⟨⟩ := b3
  dsimp only at h ⊢
  refine bi h fun e_9 h he_9 => ?_
  refine tt ?_
  refine lX he_9 (fun | i_8, _ => ⟨[(2, .one (.ref 0 0 0 0)), (3, .one (.ref 1 0 0 0)), (6, .one (.int .i64 (i_8 : Int)))], [.cells 0 2 [[.sl (a.Cells.map (eL eI)), .sl (a.Blocks.map (eA4 eI))]], .cells 0 2 [[.sl (b.Cells.map (eL eI)), .sl (b.Blocks.map (eA4 eI))]]]⟩) (fun | (.inl e_13), _ => ⟨[], []⟩ | (.inr ()), _ => ⟨[], [.cells 0 2 [[.sl (a.Cells.map (eL eI)), .sl (a.Blocks.map (eA4 eI))]], .cells 0 2 [[.sl (b.Cells.map (eL eI)), .sl (b.Blocks.map (eA4 eI))]]]⟩) (fun | (.inl _) => none | (.inr _) => some 2) ?_ ?_
  intro i10 b10 hi10
  rcases e_9 with e_case | ⟨⟩
  cases hi10
  obtain rfl := Option.some.inj hi10
  obtain ⟨⟩ := b10
  dsimp only at h ⊢
  cases h; exact fin
  intro af10 m10 i_8 a10 o10 hf10 ho10 ih10
  obtain ⟨⟩ := a10
  dsimp only [lazarettoref15_Memory_L2] at hf10 ⊢
  refine tr ?_
  intros
  refine fl hf10 F ?_ ?_ <;> intro hf10 _ F
  refine bx hf10 F fun x_11 hf10 hx_11 F => ?_
  refine bx hf10 F fun x_12 hf10 hx_12 F => ?_
  refine tr ?_
  intros
  refine fi hf10 F ?_ ?_ <;> intro hf10 _ F
  cases hf10
  refine tt ?_
  refine wn i_8 F fun F => ?_
  exact bk ih10 ho10 ()
  cases hf10
  obtain rfl := sr ho10
  try dsimp only at h
  cases h
  exact fin
  cases hf10
  refine tt ?_
  exact xt ho10 af10 ()
  intro af3 m3 i_1 a3 o3 hf3 ho3 ih3
  obtain ⟨⟩ := a3
  dsimp only [lazarettoref15_Memory_L1] at hf3 ⊢
  refine tr ?_
  intros
  refine fl hf3 F ?_ ?_ <;> intro hf3 _ F
  refine bx hf3 F fun x_4 hf3 hx_4 F => ?_
  refine bx hf3 F fun x_5 hf3 hx_5 F => ?_
  refine bi hf3 fun r_6 hf3 hr_6 => ?_
  refine tr ?_
  intros
  refine cD (lazarettoref04_Ints_ok hr_6) ?_
  refine tr ?_
  intros
  refine fv hf3 F ?_ ?_ <;> intro hf3 _ F
  cases hf3
  refine tt ?_
  refine wn i_1 F fun F => ?_
  exact bk ih3 ho3 ()
  cases hf3
  obtain rfl := sr ho3
  try dsimp only at h
  cases h
  exact fin
  cases hf3
  refine tt ?_
  exact xt ho3 af3 ()
  cases h; exact fin
  cases h; exact fin
theorem lazarettoref15_Events_ok {a : List api_Event} {b : List api_Event} {r : Bool} (h : lazarettoref15_Events a b = some r) :
    Pu Tryz.prog 36 [.one (.sl (a.map e_api_Event)), .one (.sl (b.map e_api_Event))] (.one (.bool r)) := by
  have F := trivial; have R := trivial
  refine pA Tryz.func36 ?_
  simp only [Tryz.f36]
  unfold lazarettoref15_Events at h
  refine tr ?_
  intros
  refine fi h F ?_ ?_ <;> intro h _ F
  refine bi h fun e_2 h he_2 => ?_
  refine tt ?_
  refine lX he_2 (fun | i_1, _ => ⟨[(0, .one (.sl (a.map e_api_Event))), (1, .one (.sl (b.map e_api_Event))), (5, .one (.int .i64 (i_1 : Int)))], []⟩) (fun | (.inl e_6), _ => ⟨[], []⟩ | (.inr ()), _ => ⟨[], []⟩) (fun | (.inl _) => none | (.inr _) => some 0) ?_ ?_
  intro i3 b3 hi3
  rcases e_2 with e_case | ⟨⟩
  cases hi3
  obtain rfl := Option.some.inj hi3
  obtain ⟨⟩ := b3
  dsimp only at h ⊢
  cases h; exact fin
  intro af3 m3 i_1 a3 o3 hf3 ho3 ih3
  obtain ⟨⟩ := a3
  dsimp only [lazarettoref15_Events_L1] at hf3 ⊢
  refine tr ?_
  intros
  refine fl hf3 F ?_ ?_ <;> intro hf3 _ F
  refine bx hf3 F fun x_4 hf3 hx_4 F => ?_
  refine bx hf3 F fun x_5 hf3 hx_5 F => ?_
  refine tr ?_
  intros
  refine fi hf3 F ?_ ?_ <;> intro hf3 _ F
  cases hf3
  refine tt ?_
  refine wn i_1 F fun F => ?_
  exact bk ih3 ho3 ()
  cases hf3
  obtain rfl := sr ho3
  try dsimp only at h
  cases h
  exact fin
  cases hf3
  refine tt ?_
  exact xt ho3 af3 ()
  cases h; exact fin
theorem lazarettoref15_Same_ok {a : api_Run} {b : api_Run} {r : Bool} (h : lazarettoref15_Same a b = some r) :
    Pu Tryz.prog 12 [.agg (e_api_Run a), .agg (e_api_Run b)] (.one (.bool r)) := by
  have F := trivial; have R := trivial
  refine pA Tryz.func12 ?_
  simp only [Tryz.f12]
  unfold lazarettoref15_Same at h
  refine bi h fun r_1 h hr_1 => ?_
  refine tr ?_
  intros
  refine cS (lazarettoref15_Memory_ok hr_1) ?_
  refine fv h F ?_ ?_ <;> intro h _ F
  refine bi h fun r_2 h hr_2 => ?_
  refine tr ?_
  intros
  refine cS (lazarettoref04_Ints_ok hr_2) ?_
  refine fv h F ?_ ?_ <;> intro h _ F
  refine bi h fun r_3 h hr_3 => ?_
  refine tr ?_
  intros
  refine cS (lazarettoref04_Ints_ok hr_3) ?_
  refine fv h F ?_ ?_ <;> intro h _ F
  refine bi h fun r_4 h hr_4 => ?_
  refine tr ?_
  intros
  refine cS (lazarettoref15_Events_ok hr_4) ?_
  refine fv h F ?_ ?_ <;> intro h _ F
  cases h; exact fin
  cases h; exact fin
  cases h; exact fin
  cases h; exact fin
  cases h; exact fin
theorem lazarettoref04_Zero_ok {t : api_Type} {r : List Int} (h : lazarettoref04_Zero t = some r) :
    Pu Tryz.prog 86 [.agg (e_api_Type t)] (.one (.sl (r.map eI))) := by
  have F := trivial; have R := trivial
  refine pA Tryz.func86 ?_
  simp only [Tryz.f86]
  unfold lazarettoref04_Zero at h
  refine bi h fun r_1 h hr_1 => ?_
  refine tr ?_
  intros
  refine cS (lazarettoref04_Size_ok hr_1) ?_
  refine nd h F fun h F => ?_
  have R := And.intro (show List.replicate r_1.toNat [.int .i64 0] = List.map eI (List.replicate r_1.toNat 0) by simp [go_sem]) R
  cases h; exact fin
theorem lazarettoref15_Zero_ok {vars : List api_Var} {blocks : Int} {r : api_Memory} (h : lazarettoref15_Zero vars blocks = some r) :
    Pu Tryz.prog 41 [.one (.sl (vars.map e_api_Var)), .one (.int .i64 blocks)] (.agg (e_api_Memory r)) := by
  have F := trivial; have R := trivial
  refine pA Tryz.func41 ?_
  simp only [Tryz.f41]
  unfold lazarettoref15_Zero at h
  refine bi h fun e_4 h he_4 => ?_
  refine tt ?_
  refine seed_C 1 0 1 (by rfl) (by rfl) ?_
  refine lE (fun (s__ : (List (List Int)) × Nat) (a__ : Nat) => match s__, a__ with | (xs_2, i_3), v_1 => ⟨[(0, .one (.sl (vars.map e_api_Var))), (1, .one (.int .i64 blocks)), (4, .one (.ref 0 0 0 0)), (5, .one (.ref 1 0 0 0)), (6, .one (.int .i64 (i_3 : Int)))], [.cells 0 2 [[.slf [], .slf []]], .cells 0 2 [[.msl 2 v_1 0 xs_2.length, .slf []]], .cells v_1 1 (xs_2.map (eL eI))]⟩) (fun (e__ : List (List Int)) (b__ : Nat) => match e__, b__ with | e_4, b5 => ⟨[(1, .one (.int .i64 blocks)), (4, .one (.ref 0 0 0 0)), (5, .one (.ref 1 0 0 0))], [.cells 0 2 [[.slf [], .slf []]], .cells 0 2 [[.msl 2 b5 0 e_4.length, .slf []]], .cells b5 1 (e_4.map (eL eI))]⟩) (fun (_ : List (List Int)) => some 0) 0 he_4 ?_ ?_
  intro i5 b5 hi5
  obtain rfl := Option.some.inj hi5
  dsimp only at h ⊢
  refine nd h F fun h F => ?_
  have R := And.intro (show List.replicate blocks.toNat [.int .i64 0, .int .i64 0, .int .i64 0, .int .i64 0] = List.map (eA4 eI) (List.replicate blocks.toNat (⟨0, 0, 0, 0⟩ : A4 Int)) by simp [go_sem]) R
  cases h; exact fin
  intro af5 m5 s5 v_1 o5 hf5 ho5 ih5
  obtain ⟨xs_2, i_3⟩ := s5
  dsimp only [lazarettoref15_Zero_L1] at hf5 ⊢
  refine tr ?_
  intros
  refine fl hf5 F ?_ ?_ <;> intro hf5 _ F
  refine bx hf5 F fun x_6 hf5 hx_6 F => ?_
  refine bi hf5 fun r_7 hf5 hr_7 => ?_
  refine tr ?_
  intros
  refine cD (lazarettoref04_Zero_ok hr_7) ?_
  refine nd hf5 F fun hf5 F => ?_
  cases hf5
  refine tr ?_
  intros
  refine wn i_3 F fun F => ?_
  exact bk ih5 ho5 (v_1 + 1)
  cases hf5
  refine tt ?_
  exact xt ho5 af5 v_1
theorem lazarettoref15_Fresh_ok {p : api_Program} {now : Int} {r : api_Run} (h : lazarettoref15_Fresh p now = some r) :
    Pu Tryz.prog 16 [.agg (e_api_Program p), .one (.int .i64 now)] (.agg (e_api_Run r)) := by
  have F := trivial; have R := trivial
  refine pA Tryz.func16 ?_
  simp only [Tryz.f16]
  unfold lazarettoref15_Fresh at h
  refine bi h fun r_1 h hr_1 => ?_
  refine tr ?_
  intros
  refine cD (lazarettoref15_Zero_ok hr_1) ?_
  refine nd h F fun h F => ?_
  have R := And.intro (show List.replicate p.Lattice.Names.length [.int .i64 0] = List.map eI (List.replicate p.Lattice.Names.length 0) by simp [go_sem]) R
  refine nd h F fun h F => ?_
  have R := And.intro (show List.replicate p.Lattice.Names.length [.int .i64 0] = List.map eI (List.replicate p.Lattice.Names.length 0) by simp [go_sem]) R
  cases h; exact fin
end Go.Lz

end
section
/- Lp2: loops in plain words: rounds that are known, an invariant with a measure; counting. -/
namespace Go.Lz
set_option linter.unusedVariables false
set_option linter.unusedSimpArgs false
section
variable {σ ρ : Type} {f : σ → Option (σ ⊕ ρ)}
/-- A loop whose rounds are known up to a point. -/
theorem loop_upto (S : Nat → σ) (n : Nat) (step : ∀ i, i < n → f (S i) = some (.inl (S (i + 1)))) : ∀ k, k ≤ n → loop f (S 0) = loop f (S k)
  | 0, _ => rfl
  | k + 1, h => by rw [loop_upto S n step k (by omega), loop_inl (step k (by omega))]
theorem loop_for (S : Nat → σ) (n : Nat) (r : ρ) (step : ∀ i, i < n → f (S i) = some (.inl (S (i + 1)))) (last : f (S n) = some (.inr r)) : loop f (S 0) = some r := by
  rw [loop_upto S n step n (Nat.le_refl n), loop_inr last]
/-- A loop with an invariant and a measure. -/
theorem loop_inv (I : σ → Prop) (R : ρ → Prop) (μ : σ → Nat) (step : ∀ s, I s → (∃ s', f s = some (.inl s') ∧ I s' ∧ μ s' < μ s) ∨ (∃ r, f s = some (.inr r) ∧ R r)) (s : σ) (h : I s) : ∃ r, loop f s = some r ∧ R r := by
  induction hm : μ s using Nat.strongRecOn generalizing s with
  | ind m ih =>
    subst hm
    rcases step s h with ⟨s', e, hi, hl⟩ | ⟨r, e, hr⟩
    · obtain ⟨r, e2, hr⟩ := ih (μ s') hl s' hi rfl
      exact ⟨r, by rw [loop_inl e, e2], hr⟩
    · exact ⟨r, loop_inr e, hr⟩
/-- A search: round by round until one ends it. -/
theorem loop_find {ρ : Type} {f : Nat → Option (Nat ⊕ ρ)} (n : Nat) (g : Nat → Option ρ) (d : ρ) (step : ∀ i, i < n → f i = some (match g i with | some r => .inr r | none => .inl (i + 1))) (last : f n = some (.inr d)) :
    loop f 0 = some (((List.range n).findSome? g).getD d) := by
  have key : ∀ k, k ≤ n → loop f (n - k) = some ((((List.range n).drop (n - k)).findSome? g).getD d) := by
    intro k
    induction k with
    | zero =>
      intro _
      rw [Nat.sub_zero, loop_inr last, List.drop_eq_nil_of_le (by simp)]; rfl
    | succ k ih =>
      intro hk
      have hd : (List.range n).drop (n - (k + 1)) = (n - (k + 1)) :: (List.range n).drop (n - k) := by
        rw [List.drop_eq_getElem_cons (by simp; omega)]
        congr 1
        · simp
        · congr 1; omega
      rw [hd, List.findSome?_cons]
      have hs := step (n - (k + 1)) (by omega)
      cases hg : g (n - (k + 1)) with
      | some r => rw [hg] at hs; rw [loop_inr hs]; rfl
      | none =>
        rw [hg] at hs
        rw [loop_inl hs, show n - (k + 1) + 1 = n - k by omega, ih (by omega)]
  have := key n (Nat.le_refl n)
  simpa using this
end
/-- A search for the first place of which p holds. -/
theorem loop_first {ρ : Type} {f : Nat → Option (Nat ⊕ ρ)} (n : Nat) (p : Nat → Bool) (v : Nat → ρ) (d : ρ) (step : ∀ i, i < n → f i = some (if p i then .inr (v i) else .inl (i + 1))) (last : f n = some (.inr d)) :
    loop f 0 = some (((List.range n).find? p).elim d v) := by
  rw [loop_find n (fun i => if p i then some (v i) else none) d (fun i hi => by rw [step i hi]; cases p i <;> rfl) last]
  congr 1
  induction List.range n with
  | nil => rfl
  | cons x xs ih =>
    rw [List.findSome?_cons, List.find?_cons]
    cases p x with
    | true => rfl
    | false => simpa using ih
/-- A loop that goes on while a flag holds. -/
theorem loop_flag {f : Bool × Nat → Option ((Bool × Nat) ⊕ Bool)} (n : Nat) (p : Nat → Bool) (h1 : ∀ d, d < n → f (true, d) = some (.inl (p d, d + 1))) (h2 : ∀ d, d < n → f (false, d) = some (.inr false)) (h3 : ∀ b, f (b, n) = some (.inr b)) (ok : Bool) :
    loop f (ok, 0) = some (ok && (List.range n).all p) := by
  have key : ∀ k, k ≤ n → ∀ b, loop f (b, n - k) = some (b && ((List.range n).drop (n - k)).all p) := by
    intro k
    induction k with
    | zero => intro _ b; rw [Nat.sub_zero, loop_inr (h3 b), List.drop_eq_nil_of_le (by simp)]; simp
    | succ k ih =>
      intro hk b
      have hd : (List.range n).drop (n - (k + 1)) = (n - (k + 1)) :: (List.range n).drop (n - k) := by
        rw [List.drop_eq_getElem_cons (by simp; omega)]
        congr 1
        · simp
        · congr 1; omega
      cases b with
      | false => rw [loop_inr (h2 _ (by omega))]; simp
      | true =>
        rw [loop_inl (h1 _ (by omega)), show n - (k + 1) + 1 = n - k by omega, ih (by omega), hd, List.all_cons]
        simp
  have := key n (Nat.le_refl n) ok
  simpa using this
theorem range_snoc {α : Type} {g : Nat → α} {i : Nat} : (List.range i).map g ++ [g i] = (List.range (i + 1)).map g := by simp [List.range_succ]
theorem count_set : ∀ {xs : List Bool} {i : Nat}, xs[i]? = some false → (xs.set i true).count false + 1 = xs.count false
  | [], i, h => by simp at h
  | x :: xs, 0, h => by simp at h; subst h; simp
  | x :: xs, i + 1, h => by
    simp at h
    have := count_set (xs := xs) (i := i) (by simpa using h)
    simp only [List.set_cons_succ, List.count_cons]
    omega
end Go.Lz

end
section
/- Lp3: loops over a list's elements, in plain words. -/
namespace Go.Lz
set_option linter.unusedVariables false
set_option linter.unusedSimpArgs false
theorem drop_cons {α : Type} {xs : List α} {i : Nat} (h : i < xs.length) : xs.drop i = xs[i] :: xs.drop (i + 1) := List.drop_eq_getElem_cons h
/-- A search over a list. -/
theorem loop_list {α ρ : Type} {xs : List α} {g : α → Option ρ} {d : ρ} {f : Nat → Option (Nat ⊕ ρ)} (step : ∀ i (h : i < xs.length), f i = some (match g xs[i] with | some r => .inr r | none => .inl (i + 1))) (last : f xs.length = some (.inr d)) :
    loop f 0 = some ((xs.findSome? g).getD d) := by
  have key : ∀ k i, xs.length - i = k → i ≤ xs.length → loop f i = some (((xs.drop i).findSome? g).getD d) := by
    intro k
    induction k with
    | zero =>
      intro i hk hi
      have : i = xs.length := by omega
      subst this
      rw [loop_inr last, List.drop_length]; rfl
    | succ k ih =>
      intro i hk hi
      have hi' : i < xs.length := by omega
      have hs := step i hi'
      rw [drop_cons hi', List.findSome?_cons]
      cases hg : g xs[i] with
      | some r => rw [hg] at hs; rw [loop_inr hs]; rfl
      | none => rw [hg] at hs; rw [loop_inl hs, ih (i + 1) (by omega) (by omega)]
  exact key _ 0 rfl (Nat.zero_le _)
/-- Whether all are so: else an end with an answer. -/
theorem loop_all {α ρ : Type} {xs : List α} {p : α → Bool} {a b : ρ} {f : Nat → Option (Nat ⊕ ρ)} (step : ∀ i (h : i < xs.length), f i = some (if p xs[i] then .inl (i + 1) else .inr a)) (last : f xs.length = some (.inr b)) :
    loop f 0 = some (if xs.all p then b else a) := by
  rw [loop_list (g := fun x => if p x then none else some a) (d := b) (fun i h => by rw [step i h]; cases p xs[i] <;> rfl) last]
  congr 1
  clear step last
  induction xs with
  | nil => rfl
  | cons x xs ih =>
    rw [List.findSome?_cons, List.all_cons]
    cases p x with
    | true => simpa using ih
    | false => rfl
end Go.Lz

end
section
/- P15z: cells of zeros (from the plain laws of chapter 04). -/
namespace Go.Lz
set_option linter.unusedVariables false
set_option linter.unusedSimpArgs false
theorem zip_all {a b : List Int} (h : a.length = b.length) : (a.zip b).all (fun p => decide (p.1 = p.2)) = decide (a = b) := by
  induction a generalizing b with
  | nil => cases b with
    | nil => rfl
    | cons y b => simp at h
  | cons x a ih => cases b with
    | nil => simp at h
    | cons y b =>
      rw [List.zip_cons_cons, List.all_cons, ih (by simpa using h), Bool.eq_iff_iff]
      simp
theorem intsEq (a b : List Int) : lazarettoref04_Ints a b = some (decide (a = b)) := by
  unfold lazarettoref04_Ints
  by_cases h : a.length = b.length
  · have hz : (a.zip b).length = a.length := by simp [h]
    rw [if_pos (by omega), loop_all (xs := a.zip b) (p := fun p => decide (p.1 = p.2)) (a := .inl false) (b := .inr ()) (fun i hi => by
      have h1 : i < a.length := by omega
      have h2 : i < b.length := by omega
      by_cases e : a[i] = b[i] <;> simp [lazarettoref04_Ints_L1, h1, h2, e]) (by simp [lazarettoref04_Ints_L1, hz, h]), zip_all h]
    by_cases e : a = b <;> simp [e]
  · rw [if_neg (by omega)]
    have : a ≠ b := fun e => h (by rw [e])
    simp [this]
/-- May a type be? -/
def tOk (t : api_Type) : Prop := (1 ≤ t.Kind ∧ t.Kind ≤ 4) ∧ 0 ≤ t.Len ∧ t.Len ≤ 32 ∧ -32768 ≤ t.Low ∧ t.Low ≤ 32767 ∧ (t.Len = 0 → t.Low = 0)
instance (t : api_Type) : Decidable (tOk t) := by unfold tOk; exact inferInstance
theorem intsBits (k : Int) : ints_Bits k = some (if k = 1 then 1 else if k = 2 then 16 else if k = 3 then 32 else if k = 4 then 32 else 0) := by
  unfold ints_Bits; repeat' split
  all_goals rfl
theorem refBits (k : Int) : lazarettoref03_Bits k = some (if k = 1 then 1 else if k = 2 then 16 else if k = 3 then 32 else if k = 4 then 32 else 0) := by
  unfold lazarettoref03_Bits; repeat' split
  all_goals rfl
theorem cellsCheck (t : api_Type) : cells_Check t = some (if tOk t then 0 else 6) := by
  have hb : (if t.Kind = 1 then (1 : Int) else if t.Kind = 2 then 16 else if t.Kind = 3 then 32 else if t.Kind = 4 then 32 else 0) = 0 ↔ ¬ (1 ≤ t.Kind ∧ t.Kind ≤ 4) := by
    repeat' split
    all_goals omega
  unfold cells_Check
  simp only [intsBits, Option.bind_some]
  generalize (if t.Kind = 1 then (1 : Int) else if t.Kind = 2 then 16 else if t.Kind = 3 then 32 else if t.Kind = 4 then 32 else 0) = b at hb ⊢
  by_cases h : tOk t
  · unfold tOk at h
    rw [if_pos (show tOk t from h)]
    repeat' split
    all_goals first | rfl | (exfalso; omega)
  · rw [if_neg h]
    unfold tOk at h
    repeat' split
    all_goals first | rfl | (exfalso; omega)
theorem refCheck04 (t : api_Type) : lazarettoref04_Check t = some (if tOk t then 0 else 6) := by
  have hb : (if t.Kind = 1 then (1 : Int) else if t.Kind = 2 then 16 else if t.Kind = 3 then 32 else if t.Kind = 4 then 32 else 0) = 0 ↔ ¬ (1 ≤ t.Kind ∧ t.Kind ≤ 4) := by
    repeat' split
    all_goals omega
  unfold lazarettoref04_Check
  simp only [refBits, Option.bind_some]
  generalize (if t.Kind = 1 then (1 : Int) else if t.Kind = 2 then 16 else if t.Kind = 3 then 32 else if t.Kind = 4 then 32 else 0) = b at hb ⊢
  by_cases h : tOk t
  · unfold tOk at h
    rw [if_pos (show tOk t from h)]
    repeat' split
    all_goals first | rfl | (exfalso; omega)
  · rw [if_neg h]
    unfold tOk at h
    repeat' split
    all_goals first | rfl | (exfalso; omega)
/-- How many cells. -/
def sizeN (t : api_Type) : Nat := if tOk t then max t.Len.toNat 1 else 0
theorem cellsSize (t : api_Type) : cells_Size t = some (sizeN t : Int) := by
  unfold cells_Size sizeN
  rw [cellsCheck, Option.bind_some]
  by_cases h : tOk t
  · have := h.2.1
    simp only [h, if_true]; congr 1; simp only [maxI]; repeat' split
    all_goals omega
  · simp [h]
theorem refSize (t : api_Type) : lazarettoref04_Size t = some (sizeN t : Int) := by
  unfold lazarettoref04_Size sizeN
  rw [refCheck04, Option.bind_some]
  by_cases h : tOk t
  · have := h.2.1
    simp only [h, if_true]; congr 1; simp only [maxI]; repeat' split
    all_goals omega
  · simp [h]
theorem sizeN_le (t : api_Type) : sizeN t ≤ 32 := by
  unfold sizeN
  split
  · rename_i h; have := h.2.2.1; have := h.2.1; omega
  · omega
theorem cellsZero (t : api_Type) : cells_Zero t = some (List.replicate (sizeN t) 0) := by
  unfold cells_Zero
  have := sizeN_le t
  rw [cellsSize, Option.bind_some, need_of (by omega)]
  simp
theorem refZero (t : api_Type) : lazarettoref04_Zero t = some (List.replicate (sizeN t) 0) := by
  unfold lazarettoref04_Zero
  have := sizeN_le t
  rw [refSize, Option.bind_some, need_of (by omega)]
  simp
end Go.Lz

end
section

end
section

end
section

end
section

end
section
/- Pt: that something is answered, and what is true of it; in small steps. -/
namespace Go.Lz
set_option linter.unusedVariables false
set_option linter.unusedSimpArgs false
def Tot {α : Type} (x : Option α) (Q : α → Prop) : Prop := ∃ r, x = some r ∧ Q r
section
variable {α β : Type} {x : Option α} {Q : α → Prop} {f : α → Option β} {R : β → Prop}
theorem Tot.bind (h : Tot x Q) (k : ∀ a, Q a → Tot (f a) R) : Tot (x.bind f) R := by
  obtain ⟨a, rfl, hq⟩ := h
  exact k a hq
theorem Tot.need {p : Prop} [Decidable p] (h : p) (k : Tot x Q) : Tot (need p x) Q := by rw [need_of h]; exact k
theorem Tot.ite {c : Prop} [Decidable c] {y : Option α} (a : c → Tot x Q) (b : ¬c → Tot y Q) : Tot (if c then x else y) Q := by
  by_cases h : c
  · rw [if_pos h]; exact a h
  · rw [if_neg h]; exact b h
theorem Tot.mk {a : α} (h : Q a) : Tot (some a) Q := ⟨a, rfl, h⟩
theorem Tot.imp {Q' : α → Prop} (h : Tot x Q) (k : ∀ a, Q a → Q' a) : Tot x Q' := by
  obtain ⟨a, rfl, hq⟩ := h
  exact ⟨a, rfl, k a hq⟩
theorem Tot.get {xs : List α} {i : Nat} (h : i < xs.length) : Tot xs[i]? (fun a => a ∈ xs ∧ a = xs[i]) := ⟨xs[i], List.getElem?_eq_getElem h, List.getElem_mem h, rfl⟩
theorem Tot.idx {xs : List α} {i : Int} (h0 : 0 ≤ i) (h : i < xs.length) : Tot (idx xs i) (fun a => a ∈ xs) := by
  have : i.toNat < xs.length := by omega
  exact ⟨xs[i.toNat], by unfold Lz.idx; rw [if_pos h0]; exact List.getElem?_eq_getElem this, List.getElem_mem this⟩
end
section
variable {σ ρ : Type} {f : σ → Option (σ ⊕ ρ)}
/-- A round of a loop. -/
def Rd (I : σ → Prop) (R : ρ → Prop) (μ : σ → Nat) (m : Nat) : σ ⊕ ρ → Prop
  | .inl s => I s ∧ μ s < m
  | .inr r => R r
theorem Tot.loop (I : σ → Prop) {R : ρ → Prop} (μ : σ → Nat) {s : σ} (h : I s) (step : ∀ s, I s → Tot (f s) (Rd I R μ (μ s))) : Tot (loop f s) R := by
  refine loop_inv I R μ (fun s hs => ?_) s h
  obtain ⟨o, ho, hq⟩ := step s hs
  cases o with
  | inl s' => exact .inl ⟨s', ho, hq⟩
  | inr r => exact .inr ⟨r, ho, hq⟩
end
theorem w64_id {n : Int} (h1 : -9223372036854775808 ≤ n) (h2 : n ≤ 9223372036854775807) : w64 n = n := by rw [w64_eq]; omega
end Go.Lz

end
section
/- P05: names, words, digits: each is answered, and how long the answers are. -/
namespace Go.Lz
set_option linter.unusedVariables false
set_option linter.unusedSimpArgs false
theorem letter_t (c : Int) : Tot (lazarettoref05_letter c) fun _ => True := by
  unfold lazarettoref05_letter
  repeat' (first | exact Tot.mk trivial | refine Tot.ite (fun _ => ?_) (fun _ => ?_))
theorem digit_t (c : Int) : Tot (lazarettoref05_digit c) fun _ => True := by
  unfold lazarettoref05_digit
  repeat' (first | exact Tot.mk trivial | refine Tot.ite (fun _ => ?_) (fun _ => ?_))
theorem run_t (s : Str) : Tot (lazarettoref05_run s) fun _ => True := by
  unfold lazarettoref05_run
  refine Tot.ite (fun _ => Tot.mk trivial) fun hs => ?_
  have hl : 0 < s.length := by cases s with | nil => exact (hs rfl).elim | cons a b => simp
  refine (Tot.get hl).bind fun c _ => (letter_t _).bind fun b _ => Tot.ite (fun _ => ?_) (fun _ => Tot.mk trivial)
  refine Tot.bind (Tot.loop (fun i => i ≤ s.length) (R := fun _ => True) (fun i => s.length - i) (by omega) fun i hi => ?_) fun _ _ => Tot.mk trivial
  unfold lazarettoref05_run_L1
  refine Tot.ite (fun h => ?_) fun _ => Tot.mk trivial
  have h' : i < s.length := by omega
  refine (Tot.get h').bind fun c _ => (letter_t _).bind fun b _ => Tot.ite (fun _ => Tot.mk ⟨h', by simp only; omega⟩) fun _ => (digit_t _).bind fun b _ => Tot.ite (fun _ => Tot.mk ⟨h', by simp only; omega⟩) fun _ => Tot.mk trivial
theorem among_t (s names : Str) (hn : names.length ≤ 1000000) : Tot (lazarettoref05_Among s names) fun b => b = true → s.length ≤ names.length := by
  unfold lazarettoref05_Among
  refine Tot.bind (Tot.loop (fun x => 0 ≤ x.1 ∧ x.1 ≤ (x.2 : Int) ∧ x.2 ≤ names.length + 1) (R := fun r => match r with | .inl b => b = true → s.length ≤ names.length | .inr () => True) (fun x => names.length + 1 - x.2) ⟨by simp, by simp, by simp⟩ fun ⟨k, i⟩ ⟨h0, h1, h2⟩ => ?_) fun r hr => by
    cases r with
    | inl r => exact Tot.mk hr
    | inr r => exact Tot.mk (by simp)
  simp only at h0 h1 h2
  unfold lazarettoref05_Among_L1
  refine Tot.ite (fun h => ?_) fun _ => Tot.mk trivial
  have e : w64 ((i : Int) + 1) = (i : Int) + 1 := w64_id (by omega) (by omega)
  have go : Tot (some (Sum.inl (w64 ((i : Int) + 1), i + 1)) : Option ((Int × Nat) ⊕ (Bool ⊕ Unit))) (Rd (fun x => 0 ≤ x.1 ∧ x.1 ≤ (x.2 : Int) ∧ x.2 ≤ names.length + 1) (fun r => match r with | .inl b => b = true → s.length ≤ names.length | .inr () => True) (fun x => names.length + 1 - x.2) (names.length + 1 - i)) :=
    Tot.mk ⟨⟨by rw [e]; simp only; omega, by rw [e]; simp only; omega, by simp only; omega⟩, by simp only; omega⟩
  have st : Tot (if k < (i : Int) then need (0 ≤ k ∧ k ≤ (i : Int) ∧ (i : Int) ≤ names.length) (if ((names.take i).drop k.toNat) = s then (some (Sum.inr (Sum.inl (true)))) else (some (Sum.inl ((w64 ((i : Int) + 1)), (i + 1))))) else (some (Sum.inl ((w64 ((i : Int) + 1)), (i + 1)))) : Option ((Int × Nat) ⊕ (Bool ⊕ Unit))) (Rd (fun x => 0 ≤ x.1 ∧ x.1 ≤ (x.2 : Int) ∧ x.2 ≤ names.length + 1) (fun r => match r with | .inl b => b = true → s.length ≤ names.length | .inr () => True) (fun x => names.length + 1 - x.2) (names.length + 1 - i)) :=
    Tot.ite (fun _ => Tot.need ⟨h0, h1, h⟩ (Tot.ite (fun hs => Tot.mk fun _ => by rw [← hs]; simp only [List.length_drop, List.length_take]; omega) fun _ => go)) fun _ => go
  refine Tot.ite (fun _ => st) fun hne => ?_
  refine (Tot.get (by omega)).bind fun c _ => Tot.ite (fun _ => st) fun _ => Tot.mk ⟨⟨h0, by simp only; omega, by simp only; omega⟩, by simp only; omega⟩
set_option maxRecDepth 20000 in
theorem word_t (s : Str) : Tot (lazarettoref05_Word s) fun _ => True := by
  unfold lazarettoref05_Word
  exact (among_t s _ (Nat.le_of_ble_eq_true rfl)).bind fun _ _ => Tot.mk trivial
theorem upper_t (s : Str) : Tot (lazarettoref05_upper s) fun _ => True := by
  unfold lazarettoref05_upper
  refine Tot.bind (Tot.loop (fun x => x.2 ≤ x.1.length) (R := fun _ => True) (fun x => x.1.length - x.2) (Nat.zero_le _) fun ⟨b, i⟩ h => ?_) fun _ _ => Tot.mk trivial
  simp only at h
  unfold lazarettoref05_upper_L1
  refine Tot.ite (fun h' => ?_) fun _ => Tot.mk trivial
  have h'' : i < b.length := by omega
  exact (Tot.get h'').bind fun x _ => Tot.ite (fun _ => Tot.ite (fun _ => Tot.mk ⟨by simp only [List.length_set]; omega, by simp only [List.length_set]; omega⟩) fun _ => Tot.mk ⟨h'', by simp only; omega⟩) fun _ => Tot.mk ⟨h'', by simp only; omega⟩
theorem name_t (s : Str) : Tot (lazarettoref05_Name s) fun b => b = true → s.length ≤ 32 ∧ s ≠ [] := by
  unfold lazarettoref05_Name
  refine Tot.ite (fun _ => Tot.mk fun h => by cases h) fun h1 => Tot.ite (fun h2 => ?_) fun _ => Tot.mk fun h => by cases h
  exact (run_t s).bind fun _ _ => Tot.ite (fun _ => (upper_t s).bind fun _ _ => (word_t _).bind fun _ _ => Tot.mk fun _ => ⟨by omega, h1⟩) fun _ => Tot.mk fun h => by cases h
/-- The digits of a number that is not below 0. -/
theorem digits_t (n : Int) (h0 : 0 ≤ n) (h1 : n < 10000000000) : Tot (lazarettoref05_Digits n) fun r => r.length ≤ 11 := by
  unfold lazarettoref05_Digits
  have one : ∀ (m : Nat), m < 10 → ((([48, 49, 50, 51, 52, 53, 54, 55, 56, 57] : Str).take (m + 1)).drop m).length = 1 := by decide
  refine Tot.bind (Tot.loop (fun x => 0 ≤ x.1 ∧ x.1.toNat * 10 ^ x.2.length < 10000000000 ∧ x.2.length ≤ 10) (R := fun x => 0 ≤ x.1 ∧ x.1 < 10 ∧ x.2.length ≤ 10) (fun x => x.1.toNat) ⟨h0, by simp; omega, by simp⟩ fun ⟨n, s⟩ ⟨a0, a1, a2⟩ => ?_) fun ⟨n, s⟩ ⟨a0, a1, a2⟩ => ?_
  · simp only at a0 a1 a2
    unfold lazarettoref05_Digits_L1
    refine Tot.ite (fun h => ?_) fun h => Tot.mk ?_
    · obtain ⟨m, rfl⟩ : ∃ m : Nat, n = m := ⟨n.toNat, by omega⟩
      have hs : s.length < 10 := by
        have : 10 * 10 ^ s.length ≤ m * 10 ^ s.length := Nat.mul_le_mul_right _ (by omega)
        have : 10 ^ s.length < 10 ^ 10 := by simp only [Int.toNat_natCast] at a1; omega
        exact (Nat.pow_lt_pow_iff_right (by decide)).1 this
      have hm : m < 10000000000 := by
        have : 1 ≤ 10 ^ s.length := Nat.one_le_pow _ _ (by decide)
        have : m * 1 ≤ m * 10 ^ s.length := Nat.mul_le_mul_left _ this
        simp only [Int.toNat_natCast] at a1
        omega
      have et : (m : Int).tmod 10 = ((m % 10 : Nat) : Int) := by rw [Int.tmod_eq_emod_of_nonneg (by omega)]; omega
      have ed : (m : Int).tdiv 10 = ((m / 10 : Nat) : Int) := by rw [Int.tdiv_eq_ediv_of_nonneg (by omega)]; omega
      have e1 : w64 (((m % 10 : Nat) : Int) + 1) = ((m % 10 + 1 : Nat) : Int) := by rw [w64_id (by omega) (by omega)]; omega
      have e2 : w64 ((m / 10 : Nat) : Int) = ((m / 10 : Nat) : Int) := w64_id (by omega) (by omega)
      rw [et, ed, e1, e2]
      refine Tot.need ⟨by omega, by omega, by omega⟩ (Tot.need ?_ (Tot.mk ⟨⟨?_, ?_, ?_⟩, ?_⟩))
      · rw [Int.toNat_natCast, Int.toNat_natCast, one _ (by omega)]; omega
      · simp only; omega
      · simp only [Int.toNat_natCast, List.length_append]
        rw [one _ (by omega), Nat.add_comm 1, Nat.pow_succ]
        simp only [Int.toNat_natCast] at a1
        have : m / 10 * (10 ^ s.length * 10) ≤ m * 10 ^ s.length := by
          rw [Nat.mul_comm (10 ^ s.length) 10, ← Nat.mul_assoc]
          exact Nat.mul_le_mul_right _ (Nat.div_mul_le_self m 10)
        omega
      · simp only [Int.toNat_natCast, List.length_append]
        rw [one _ (by omega)]
        omega
      · simp only [Int.toNat_natCast]; omega
    · exact ⟨a0, by simp only; omega, a2⟩
  · simp only at a0 a1 a2 ⊢
    obtain ⟨m, rfl⟩ : ∃ m : Nat, n = m := ⟨n.toNat, by omega⟩
    have e1 : w64 ((m : Int) + 1) = ((m + 1 : Nat) : Int) := by rw [w64_id (by omega) (by omega)]; omega
    rw [e1]
    refine Tot.need ⟨by omega, by omega, by omega⟩ (Tot.need ?_ (Tot.mk ?_))
    · rw [Int.toNat_natCast, Int.toNat_natCast, one _ (by omega)]; omega
    · rw [List.length_append, Int.toNat_natCast, Int.toNat_natCast, one _ (by omega)]; omega
end Go.Lz

end
section
/- Pd: how deep and how great terms and statements are. -/
namespace Go.Lz
set_option linter.unusedVariables false
set_option linter.unusedSimpArgs false
mutual
def depE : api_Expr → Nat
  | ⟨_, _, _, _, args⟩ => depEs args + 1
def depEs : List api_Expr → Nat
  | [] => 0
  | e :: es => max (depE e) (depEs es)
end
mutual
def depS : api_Stmt → Nat
  | ⟨_, _, target, value, args, body, els⟩ => max (max (depE target) (depE value)) (max (depEs args) (max (depSs body) (depSs els))) + 1
def depSs : List api_Stmt → Nat
  | [] => 0
  | e :: es => max (depS e) (depSs es)
end
theorem depE_eq (e : api_Expr) : depE e = depEs e.Args + 1 := by cases e; rw [depE]
theorem depS_eq (s : api_Stmt) : depS s = max (max (depE s.Target) (depE s.Value)) (max (depEs s.Args) (max (depSs s.Body) (depSs s.Else))) + 1 := by cases s; rw [depS]
theorem depEs_app : ∀ {l m : List api_Expr}, depEs (l ++ m) = max (depEs l) (depEs m)
  | [], m => by simp [depEs]
  | e :: es, m => by rw [List.cons_append, depEs, depEs, depEs_app (l := es)]; omega
theorem depEs_mem : ∀ {l : List api_Expr} {x : api_Expr}, x ∈ l → depE x ≤ depEs l
  | e :: es, x, hx => by
    rw [depEs]
    rcases List.mem_cons.1 hx with rfl | hx
    · omega
    · have := depEs_mem hx; omega
theorem depSs_mem : ∀ {l : List api_Stmt} {x : api_Stmt}, x ∈ l → depS x ≤ depSs l
  | e :: es, x, hx => by
    rw [depSs]
    rcases List.mem_cons.1 hx with rfl | hx
    · omega
    · have := depSs_mem hx; omega
mutual
def szE : api_Expr → Nat
  | ⟨_, _, _, _, args⟩ => szEs args + 1
def szEs : List api_Expr → Nat
  | [] => 0
  | e :: es => szE e + szEs es
end
theorem szE_eq (e : api_Expr) : szE e = szEs e.Args + 1 := by cases e; rw [szE]
theorem szEs_app : ∀ {l m : List api_Expr}, szEs (l ++ m) = szEs l + szEs m
  | [], m => by simp [szEs]
  | e :: es, m => by rw [List.cons_append, szEs, szEs, szEs_app (l := es)]; omega
theorem szEs_mem : ∀ {l : List api_Expr} {x : api_Expr}, x ∈ l → szE x ≤ szEs l
  | e :: es, x, hx => by
    rw [szEs]
    rcases List.mem_cons.1 hx with rfl | hx
    · omega
    · have := szEs_mem hx; omega
end Go.Lz

end
section
/- P06: terms of their form: how deep and how great they are; their texts, and how long these are. -/
namespace Go.Lz
set_option linter.unusedVariables false
set_option linter.unusedSimpArgs false
mutual
def fmE : api_Expr → Prop
  | ⟨op, N, K, name, args⟩ => lazarettoref06_form ⟨op, N, K, name, args⟩ = some true ∧ fmEs args
def fmEs : List api_Expr → Prop
  | [] => True
  | e :: es => fmE e ∧ fmEs es
end
theorem fmE_eq (e : api_Expr) : fmE e = (lazarettoref06_form e = some true ∧ fmEs e.Args) := by cases e; rw [fmE]
theorem fmEs_app : ∀ {l m : List api_Expr}, fmEs (l ++ m) ↔ fmEs l ∧ fmEs m
  | [], m => by simp [fmEs]
  | e :: es, m => by rw [List.cons_append, fmEs, fmEs, fmEs_app (l := es), and_assoc]
theorem fmEs_mem : ∀ {l : List api_Expr}, fmEs l → ∀ x ∈ l, fmE x
  | [], _, x, hx => by cases hx
  | e :: es, h, x, hx => by
    rw [fmEs] at h
    rcases List.mem_cons.1 hx with rfl | hx
    · exact h.1
    · exact fmEs_mem h.2 x hx
/-- What a form is. -/
structure FormE (e : api_Expr) : Prop where
  name : e.Name.length ≤ 32
  n0 : 0 ≤ e.N
  n1 : e.N ≤ 2147483647
  ops : (e.Op = 1 ∧ e.Args.length = 0 ∧ (e.Kind = 1 ∨ e.Kind = 2 ∨ e.Kind = 3 ∨ e.Kind = 4)) ∨ (e.Op = 2 ∧ e.Args.length = 0) ∨ (e.Op = 4 ∧ e.Args.length = 0) ∨ (e.Op = 3 ∧ e.Args.length = 1) ∨ (e.Op = 21 ∧ e.Args.length = 1) ∨ (e.Op = 5 ∧ e.Args.length = 1) ∨ (e.Op = 6 ∧ e.Args.length = 1) ∨ (7 ≤ e.Op ∧ e.Op ≤ 20 ∧ e.Args.length = 2)
theorem form_t (e : api_Expr) : Tot (lazarettoref06_form e) fun b => b = true → FormE e := by
  have no : ∀ {Q : Prop}, Tot (some false) fun b => b = true → Q := Tot.mk fun h => by cases h
  have nm : e.Name = [] → e.Name.length ≤ 32 := fun h => by rw [h]; exact Nat.zero_le _
  unfold lazarettoref06_form
  refine Tot.ite (fun o1 => ?_) fun o1 => ?_
  · refine Tot.ite (fun n0 => ?_) fun _ => no
    have fin : ∀ {m : Int}, m ≤ 2147483647 → (e.Kind = 1 ∨ e.Kind = 2 ∨ e.Kind = 3 ∨ e.Kind = 4) → Tot (if e.N ≤ m then (if (e.Args.length : Int) = 0 then (some (decide (e.Name = []))) else (some false)) else (some false)) fun b => b = true → FormE e := fun hm hk =>
      Tot.ite (fun n1 => Tot.ite (fun a0 => Tot.mk fun h => ⟨nm (of_decide_eq_true h), n0, by omega, .inl ⟨o1, by omega, hk⟩⟩) fun _ => no) fun _ => no
    refine Tot.ite (fun k => Tot.ite (fun n1 => Tot.ite (fun a0 => Tot.mk fun h => ⟨nm (of_decide_eq_true h), n0, by omega, .inl ⟨o1, by omega, .inl k⟩⟩) fun _ => no) fun _ => Tot.ite (fun k2 => by omega) fun _ => Tot.ite (fun k2 => by omega) fun _ => Tot.ite (fun k2 => by omega) fun _ => no) fun k1 => ?_
    refine Tot.ite (fun k => Tot.ite (fun n1 => Tot.ite (fun a0 => Tot.mk fun h => ⟨nm (of_decide_eq_true h), n0, by omega, .inl ⟨o1, by omega, .inr (.inl k)⟩⟩) fun _ => no) fun _ => Tot.ite (fun k2 => by omega) fun _ => Tot.ite (fun k2 => by omega) fun _ => no) fun k2 => ?_
    exact Tot.ite (fun k => fin (by decide) (.inr (.inr (.inl k)))) fun k3 => Tot.ite (fun k => fin (by decide) (.inr (.inr (.inr k)))) fun _ => no
  · refine Tot.ite (fun k0 => ?_) fun _ => no
    refine Tot.ite (fun o => Tot.ite (fun a => Tot.ite (fun n => (name_t _).bind fun b hb => Tot.mk fun h => ⟨(hb h).1, by omega, by omega, .inr (.inl ⟨o, by omega⟩)⟩) fun _ => no) fun _ => no) fun o2 => ?_
    refine Tot.ite (fun o => Tot.ite (fun a => Tot.ite (fun n => Tot.ite (fun n' => (name_t _).bind fun b hb => Tot.mk fun h => ⟨(hb h).1, by omega, by omega, .inr (.inr (.inl ⟨o, by omega⟩))⟩) fun _ => no) fun _ => no) fun _ => no) fun o4 => ?_
    refine Tot.ite (fun o => Tot.ite (fun a => Tot.ite (fun n => (name_t _).bind fun b hb => Tot.mk fun h => ⟨(hb h).1, by omega, by omega, .inr (.inr (.inr (.inl ⟨o, by omega⟩)))⟩) fun _ => no) fun _ => no) fun o3 => ?_
    refine Tot.ite (fun o => Tot.ite (fun a => Tot.ite (fun n => (name_t _).bind fun b hb => Tot.mk fun h => ⟨(hb h).1, by omega, by omega, .inr (.inr (.inr (.inr (.inl ⟨o, by omega⟩))))⟩) fun _ => no) fun _ => no) fun o21 => ?_
    refine Tot.ite (fun o => Tot.ite (fun a => Tot.ite (fun n => Tot.mk fun h => ⟨nm (of_decide_eq_true h), by omega, by omega, .inr (.inr (.inr (.inr (.inr (.inl ⟨o, by omega⟩)))))⟩) fun _ => no) fun _ => no) fun o5 => ?_
    refine Tot.ite (fun o => Tot.ite (fun a => Tot.ite (fun n => Tot.mk fun h => ⟨nm (of_decide_eq_true h), by omega, by omega, .inr (.inr (.inr (.inr (.inr (.inr (.inl ⟨o, by omega⟩))))))⟩) fun _ => no) fun _ => no) fun o6 => ?_
    exact Tot.ite (fun o => Tot.ite (fun o' => Tot.ite (fun a => Tot.ite (fun n => Tot.mk fun h => ⟨nm (of_decide_eq_true h), by omega, by omega, .inr (.inr (.inr (.inr (.inr (.inr (.inr ⟨o, o', by omega⟩))))))⟩) fun _ => no) fun _ => no) fun _ => no) fun _ => no
theorem fmE_form {e : api_Expr} (h : fmE e) : FormE e := by
  rw [fmE_eq] at h
  obtain ⟨b, hb, hq⟩ := form_t e
  rw [h.1] at hb; cases hb
  exact hq rfl
theorem take_get {α : Type} {l : List α} {i : Nat} (h : i < l.length) : l.take (i + 1) = l.take i ++ [l[i]] := by rw [List.take_add_one]; simp [h]
/-- How great a term is at least; what it lets in. -/
theorem brief_t : ∀ (d fuel : Nat), d < fuel → d ≤ 1000 → ∀ (e : api_Expr) (left : Int), left ≤ 1000000 → Tot (lazarettoref06_brief_g fuel e (d : Int) left) fun r => r ≤ left ∧ -1 ≤ r ∧ (0 ≤ r → fmE e ∧ depE e ≤ d ∧ (szE e : Int) + r ≤ left) ∨ left < 0 ∧ r = -1
  | d, 0, h, _, _, _, _ => by omega
  | 0, fuel + 1, _, _, e, left, _ => by
    unfold lazarettoref06_brief_g lazarettoref06_brief_b
    exact Tot.ite (fun _ => Tot.mk (by omega)) fun h => by omega
  | d + 1, fuel + 1, h, hd, e, left, hl => by
    have e1 : w64 (((d + 1 : Nat) : Int) - 1) = (d : Int) := by rw [w64_id (by omega) (by omega)]; omega
    unfold lazarettoref06_brief_g lazarettoref06_brief_b
    refine Tot.ite (fun h => by omega) fun _ => Tot.ite (fun h => Tot.mk (.inr ⟨h, rfl⟩)) fun hl0 => ?_
    obtain ⟨b, hb, _⟩ := form_t e
    rw [hb, Option.bind_some]
    refine Tot.ite (fun hbt => ?_) fun _ => Tot.mk (.inl ⟨by omega, by omega, by omega⟩)
    subst hbt
    rw [w64_id (n := left - 1) (by omega) (by omega)]
    refine Tot.bind (Tot.loop (fun x => x.2 ≤ e.Args.length ∧ x.1 ≤ left - 1 ∧ -1 ≤ x.1 ∧ (0 ≤ x.1 → fmEs (e.Args.take x.2) ∧ depEs (e.Args.take x.2) ≤ d ∧ (szEs (e.Args.take x.2) : Int) + x.1 ≤ left - 1))
      (R := fun r => r ≤ left ∧ -1 ≤ r ∧ (0 ≤ r → fmE e ∧ depE e ≤ d + 1 ∧ (szE e : Int) + r ≤ left)) (fun x => e.Args.length - x.2) ⟨by simp, by simp, by simp only; omega, fun _ => by simp [fmEs, depEs, szEs]⟩ fun ⟨l, i⟩ ⟨a0, a1, a2, a3⟩ => ?_) fun r hr => Tot.mk (.inl hr)
    simp only at a0 a1 a2 a3
    unfold lazarettoref06_brief_L1
    refine Tot.ite (fun hi => ?_) fun hi => Tot.mk ⟨by omega, a2, fun h0 => ?_⟩
    · refine Tot.ite (fun h0 => ?_) fun h0 => Tot.mk ⟨by omega, a2, by omega⟩
      have hi' : i < e.Args.length := by omega
      refine (Tot.get hi').bind fun x hx => ?_
      rw [e1, hx.2]
      refine (brief_t d fuel (by omega) (by omega) _ l (by omega)).bind fun r hr => Tot.mk ⟨⟨hi', ?_, ?_, fun hr0 => ?_⟩, by simp only; omega⟩
      · simp only; omega
      · simp only; omega
      · simp only at hr0 ⊢
        obtain ⟨b0, b1, b2⟩ := a3 h0
        rcases hr with ⟨_, _, hr⟩ | ⟨hr, _⟩
        · obtain ⟨c0, c1, c2⟩ := hr hr0
          rw [take_get hi', fmEs_app, depEs_app, szEs_app]
          simp only [fmEs, depEs, szEs]
          exact ⟨⟨b0, c0, trivial⟩, by omega, by omega⟩
        · omega
    · have : i = e.Args.length := by omega
      subst this
      obtain ⟨b0, b1, b2⟩ := a3 h0
      rw [List.take_length] at b0 b1 b2
      rw [fmE_eq, depE_eq, szE_eq]
      exact ⟨⟨hb, b0⟩, by omega, by omega⟩
theorem brief_24 (e : api_Expr) : Tot (lazarettoref06_brief e 24 16384) fun r => 0 ≤ r → fmE e ∧ depE e ≤ 24 ∧ szE e ≤ 16384 :=
  (brief_t 24 1000000 (by omega) (by omega) e 16384 (by omega)).imp fun r hr h0 => by
    rcases hr with ⟨_, _, h⟩ | ⟨h, _⟩
    · obtain ⟨a, b, c⟩ := h h0; exact ⟨a, b, by omega⟩
    · omega
theorem level_t (op : Int) : Tot (lazarettoref06_level op) fun _ => True := by
  unfold lazarettoref06_level
  repeat' (first | exact Tot.mk trivial | refine Tot.ite (fun _ => ?_) (fun _ => ?_))
theorem signs_t (l : Int) : Tot (lazarettoref06_signs l) fun r => r.1.length ≤ 14 := by
  unfold lazarettoref06_signs
  repeat' (first | exact Tot.mk (by decide) | refine Tot.ite (fun _ => ?_) (fun _ => ?_))
theorem sign_t (op : Int) : Tot (lazarettoref06_sign op) fun r => r.length ≤ 14 := by
  unfold lazarettoref06_sign
  refine (level_t op).bind fun l _ => (signs_t l).bind fun x hx => ?_
  obtain ⟨names, first⟩ := x
  simp only at hx
  refine Tot.bind (Tot.loop (fun x => 0 ≤ x.2.1 ∧ x.2.1 ≤ (x.2.2 : Int) ∧ x.2.2 ≤ names.length + 1) (R := fun r => match r with | .inl r => r.length ≤ 14 | .inr () => True) (fun x => names.length + 1 - x.2.2) ⟨by simp, by simp, by simp⟩ fun ⟨k, fr, i⟩ ⟨h0, h1, h2⟩ => ?_) fun r hr => by
    cases r with
    | inl r => exact Tot.mk hr
    | inr r => exact Tot.mk (by simp)
  simp only at h0 h1 h2
  unfold lazarettoref06_sign_L1
  refine Tot.ite (fun h => ?_) fun _ => Tot.mk trivial
  simp only at h
  have e : w64 ((i : Int) + 1) = (i : Int) + 1 := w64_id (by omega) (by omega)
  have dl : ((names.take i).drop fr.toNat).length ≤ 14 := by simp only [List.length_drop, List.length_take]; omega
  refine Tot.ite (fun _ => Tot.ite (fun _ => Tot.need ⟨h0, h1, h⟩ (Tot.mk dl)) fun _ => Tot.mk ⟨⟨by rw [e]; simp only; omega, by rw [e]; simp only; omega, by simp only; omega⟩, by simp only; omega⟩) fun hne => ?_
  simp only at hne
  exact (Tot.get (by simp only; omega)).bind fun c _ => Tot.ite (fun _ => Tot.ite (fun _ => Tot.need ⟨h0, h1, h⟩ (Tot.mk dl)) fun _ => Tot.mk ⟨⟨by rw [e]; simp only; omega, by rw [e]; simp only; omega, by simp only; omega⟩, by simp only; omega⟩) fun _ => Tot.mk ⟨⟨h0, by simp only; omega, by simp only; omega⟩, by simp only; omega⟩
theorem args_get {l : List api_Expr} {i : Nat} (h : i < l.length) : Tot l[i]? fun x => x ∈ l ∧ depE x ≤ depEs l ∧ szE x ≤ szEs l :=
  (Tot.get h).imp fun x hx => ⟨hx.1, depEs_mem hx.1, szEs_mem hx.1⟩
theorem two_args {l : List api_Expr} (h : l.length = 2) : ∃ a b, l = [a, b] := by
  match l, h with
  | [a, b], _ => exact ⟨a, b, rfl⟩
/-- A term's text. -/
theorem text_t : ∀ (n : Nat), (∀ e, fmE e → 2 * depE e ≤ n → szE e ≤ 1000000 → Tot ((lazarettoref06_text_g n).1 e) fun r => r.length ≤ 64 * szE e) ∧ (∀ e least, fmE e → 2 * depE e + 1 ≤ n → szE e ≤ 1000000 → Tot ((lazarettoref06_text_g n).2 e least) fun r => r.length ≤ 64 * szE e + 2)
  | 0 => ⟨fun e _ h _ => by rw [depE_eq] at h; omega, fun e _ _ h _ => by omega⟩
  | n + 1 => by
    obtain ⟨ih1, ih2⟩ := text_t n
    constructor
    · intro e ok hd hs
      have F := fmE_form ok
      rw [fmE_eq] at ok
      rw [depE_eq] at hd
      rw [szE_eq] at hs ⊢
      have hn := F.name
      have hn0 := F.n0
      have hn1 := F.n1
      show Tot (lazarettoref06_text_b (lazarettoref06_text_g n).1 (lazarettoref06_text_g n).2 e) _
      unfold lazarettoref06_text_b
      refine Tot.ite (fun o1 => ?_) fun o1 => ?_
      · refine Tot.ite (fun _ => Tot.ite (fun _ => Tot.mk (by simp only [List.length_cons, List.length_nil]; omega)) fun _ => Tot.mk (by simp only [List.length_cons, List.length_nil]; omega)) fun _ => ?_
        refine Tot.ite (fun _ => (digits_t _ hn0 (by omega)).bind fun r hr => Tot.need (by omega) (Tot.need (by omega) (Tot.mk (by simp only [List.length_append, List.length_cons, List.length_nil]; omega)))) fun _ => ?_
        refine Tot.ite (fun _ => (digits_t _ hn0 (by omega)).bind fun r hr => Tot.need (by omega) (Tot.need (by omega) (Tot.mk (by simp only [List.length_append, List.length_cons, List.length_nil]; omega)))) fun _ => ?_
        exact (digits_t _ hn0 (by omega)).bind fun r hr => Tot.mk (by omega)
      refine Tot.ite (fun _ => Tot.mk (by omega)) fun o2 => ?_
      refine Tot.ite (fun _ => Tot.need (by omega) ((digits_t _ hn0 (by omega)).bind fun r hr => Tot.need (by omega) (Tot.mk (by simp only [List.length_append, List.length_cons, List.length_nil]; omega)))) fun o4 => ?_
      refine Tot.ite (fun o => ?_) fun o3 => ?_
      · have hl : 0 < e.Args.length := by have := F.ops; omega
        refine Tot.need (by omega) ((args_get hl).bind fun x hx => (ih1 x (fmEs_mem ok.2 x hx.1) (by omega) (by omega)).bind fun r hr => Tot.need (by omega) (Tot.need (by omega) (Tot.mk (by simp only [List.length_append, List.length_cons, List.length_nil]; omega))))
      refine Tot.ite (fun o => ?_) fun o21 => ?_
      · have hl : 0 < e.Args.length := by have := F.ops; omega
        refine Tot.need (by omega) (Tot.need (by omega) ((args_get hl).bind fun x hx => (ih1 x (fmEs_mem ok.2 x hx.1) (by omega) (by omega)).bind fun r hr => Tot.need (by omega) (Tot.need (by omega) (Tot.mk (by simp only [List.length_append, List.length_cons, List.length_nil]; omega)))))
      refine Tot.ite (fun o => ?_) fun o5 => ?_
      · have hl : 0 < e.Args.length := by have := F.ops; omega
        exact (args_get hl).bind fun x hx => (ih2 x 7 (fmEs_mem ok.2 x hx.1) (by omega) (by omega)).bind fun r hr => Tot.need (by omega) (Tot.mk (by simp only [List.length_append, List.length_cons, List.length_nil]; omega))
      refine Tot.ite (fun o => ?_) fun o6 => ?_
      · have hl : 0 < e.Args.length := by have := F.ops; omega
        exact (args_get hl).bind fun x hx => (ih2 x 7 (fmEs_mem ok.2 x hx.1) (by omega) (by omega)).bind fun r hr => Tot.need (by omega) (Tot.mk (by simp only [List.length_append, List.length_cons, List.length_nil]; omega))
      have hl : e.Args.length = 2 := by have := F.ops; omega
      obtain ⟨a, b, hab⟩ := two_args hl
      rw [hab] at ok hd hs ⊢
      simp only [fmEs, depEs, szEs] at ok hd hs
      obtain ⟨_, oka, okb, _⟩ := ok
      simp only [List.getElem?_cons_zero, List.getElem?_cons_succ, Option.bind_some, szEs]
      exact (level_t _).bind fun k _ => (ih2 a k oka (by omega) (by omega)).bind fun r hr => Tot.need (by omega) ((sign_t _).bind fun s hs => Tot.need (by omega) (Tot.need (by omega) ((ih2 b _ okb (by omega) (by omega)).bind fun r' hr' => Tot.need (by omega) (Tot.mk (by simp only [List.length_append, List.length_cons, List.length_nil]; omega)))))
    · intro e least ok hd hs
      show Tot (lazarettoref06_part_b (lazarettoref06_text_g n).1 (lazarettoref06_text_g n).2 e least) _
      unfold lazarettoref06_part_b
      exact (level_t _).bind fun k _ => Tot.ite (fun _ => (ih1 e ok (by omega) hs).bind fun r hr => Tot.need (by omega) (Tot.need (by omega) (Tot.mk (by simp only [List.length_append, List.length_cons, List.length_nil]; omega)))) fun _ => (ih1 e ok (by omega) hs).bind fun r hr => Tot.mk (by omega)
theorem text06 {e : api_Expr} (ok : fmE e) (hd : depE e ≤ 1000) (hs : szE e ≤ 1000000) : Tot (lazarettoref06_text e) fun r => r.length ≤ 64 * szE e := (text_t 1000000).1 e ok (by omega) hs
theorem check06 (e : api_Expr) : Tot (lazarettoref06_Check e) fun b => b = true → fmE e ∧ depE e ≤ 24 ∧ szE e ≤ 16384 ∧ ∃ t, lazarettoref06_text e = some t ∧ t.length ≤ 16384 := by
  unfold lazarettoref06_Check
  refine (brief_24 e).bind fun r hr => Tot.ite (fun h0 => ?_) fun _ => Tot.mk fun h => by cases h
  obtain ⟨ok, hd, hs⟩ := hr h0
  obtain ⟨t, ht, hl⟩ := text06 ok (by omega) (by omega)
  rw [ht, Option.bind_some]
  exact Tot.mk fun h => ⟨ok, hd, hs, t, rfl, by have := of_decide_eq_true h; omega⟩
theorem print06 (e : api_Expr) : Tot (lazarettoref06_Print e) fun t => t.length ≤ 16384 := by
  unfold lazarettoref06_Print
  refine (check06 e).bind fun b hb => Tot.ite (fun h => ?_) fun _ => Tot.mk (by simp)
  obtain ⟨_, _, _, t, ht, hl⟩ := hb h
  rw [ht, Option.bind_some]
  exact Tot.mk hl
/-- Is it no term? -/
theorem same06_none (e : api_Expr) : Tot (lazarettoref06_Same e ⟨0, 0, 0, [], []⟩) fun b => b = true → e = ⟨0, 0, 0, [], []⟩ := by
  show Tot (lazarettoref06_Same_b (lazarettoref06_Same_g 999999) e _) _
  unfold lazarettoref06_Same_b
  refine Tot.ite (fun h1 => Tot.ite (fun h2 => Tot.ite (fun h3 => Tot.ite (fun h4 => Tot.ite (fun h5 => ?_) fun _ => Tot.mk fun h => by cases h) fun _ => Tot.mk fun h => by cases h) fun _ => Tot.mk fun h => by cases h) fun _ => Tot.mk fun h => by cases h) fun _ => Tot.mk fun h => by cases h
  have h5' : e.Args.length = 0 := by simpa using h5
  rw [loop_inr (r := .inr ()) (by simp [lazarettoref06_Same_L1, h5']), Option.bind_some]
  refine Tot.mk fun _ => ?_
  obtain ⟨op, N, K, name, args⟩ := e
  simp only at h1 h2 h3 h4 h5'
  rw [h1, h2, h3, h4, List.eq_nil_of_length_eq_zero h5']
end Go.Lz

end
section
/- P07: statements of their form: what they are, how many; their texts, and how long these are. -/
namespace Go.Lz
set_option linter.unusedVariables false
set_option linter.unusedSimpArgs false
abbrev noE : api_Expr := ⟨0, 0, 0, [], []⟩
mutual
def nS : api_Stmt → Nat
  | ⟨_, _, _, _, _, body, els⟩ => nSs body + nSs els + 1
def nSs : List api_Stmt → Nat
  | [] => 0
  | s :: ss => nS s + nSs ss
end
theorem nS_eq (s : api_Stmt) : nS s = nSs s.Body + nSs s.Else + 1 := by cases s; rw [nS]
theorem nSs_app : ∀ {l m : List api_Stmt}, nSs (l ++ m) = nSs l + nSs m
  | [], m => by simp [nSs]
  | e :: es, m => by rw [List.cons_append, nSs, nSs, nSs_app (l := es)]; omega
mutual
def fmS : api_Stmt → Prop
  | ⟨kind, name, target, value, args, body, els⟩ => lazarettoref07_form ⟨kind, name, target, value, args, body, els⟩ = some true ∧ fmSs body ∧ fmSs els
def fmSs : List api_Stmt → Prop
  | [] => True
  | s :: ss => fmS s ∧ fmSs ss
end
theorem fmS_eq (s : api_Stmt) : fmS s = (lazarettoref07_form s = some true ∧ fmSs s.Body ∧ fmSs s.Else) := by cases s; rw [fmS]
theorem fmSs_app : ∀ {l m : List api_Stmt}, fmSs (l ++ m) ↔ fmSs l ∧ fmSs m
  | [], m => by simp [fmSs]
  | e :: es, m => by rw [List.cons_append, fmSs, fmSs, fmSs_app (l := es), and_assoc]
theorem fmSs_mem : ∀ {l : List api_Stmt}, fmSs l → ∀ x ∈ l, fmS x
  | [], _, x, hx => by cases hx
  | e :: es, h, x, hx => by
    rw [fmSs] at h
    rcases List.mem_cons.1 hx with rfl | hx
    · exact h.1
    · exact fmSs_mem h.2 x hx
/-- A term that may be. -/
structure GoodE (e : api_Expr) : Prop where
  ok : fmE e
  dep : depE e ≤ 25
  sz : szE e ≤ 20000
theorem good06' (e : api_Expr) : Tot (lazarettoref06_Check e) fun b => b = true → fmE e ∧ depE e ≤ 24 ∧ szE e ≤ 16384 :=
  (check06 e).imp fun b hb h => ⟨(hb h).1, (hb h).2.1, (hb h).2.2.1⟩
theorem good06 (e : api_Expr) : Tot (lazarettoref06_Check e) fun b => b = true → GoodE e :=
  (good06' e).imp fun b hb h => ⟨(hb h).1, by have := (hb h).2.1; omega, by have := (hb h).2.2; omega⟩
theorem target_t (e : api_Expr) : Tot (lazarettoref07_target e) fun b => b = true → GoodE e ∧ (e.Op = 2 ∨ (e.Op = 3 ∧ e.Args.length = 1)) := by
  have no : ∀ {Q : Prop}, Tot (some false) fun b => b = true → Q := Tot.mk fun h => by cases h
  unfold lazarettoref07_target
  refine Tot.ite (fun o => (good06 e).bind fun b hb => Tot.mk fun h => ⟨hb h, .inl o⟩) fun o2 => Tot.ite (fun o3 => Tot.ite (fun a => Tot.ite (fun n => Tot.ite (fun k => ?_) fun _ => no) fun _ => no) fun _ => no) fun _ => no
  obtain ⟨b, hb, _⟩ := name_t e.Name
  rw [hb, Option.bind_some]
  refine Tot.ite (fun hbt => ?_) fun _ => no
  subst hbt
  obtain ⟨op, N, K, name, args⟩ := e
  simp only at o3 a n k hb ⊢
  subst o3; subst n; subst k
  match args, a with
  | [x], _ =>
    rw [List.getElem?_cons_zero, Option.bind_some]
    refine (good06' x).bind fun b hx => Tot.mk fun h => ⟨?_, .inr ⟨rfl, rfl⟩⟩
    obtain ⟨g1, g2, g3⟩ := hx h
    refine ⟨?_, by simp only [depE, depEs]; omega, by simp only [szE, szEs]; omega⟩
    rw [fmE]
    refine ⟨?_, g1, trivial⟩
    simp [lazarettoref06_form, hb]
theorem none_t (e : api_Expr) : Tot (lazarettoref07_none e) fun b => b = true → e = noE := by
  unfold lazarettoref07_none
  exact (same06_none e).bind fun b hb => Tot.mk hb
theorem args_t (l : List api_Expr) : Tot (lazarettoref07_args l) fun b => b = true → ∀ x ∈ l, GoodE x := by
  unfold lazarettoref07_args
  refine Tot.bind (Tot.loop (fun i => i ≤ l.length ∧ ∀ x ∈ l.take i, GoodE x) (R := fun r => match r with | .inl b => b = true → ∀ x ∈ l, GoodE x | .inr () => ∀ x ∈ l, GoodE x) (fun i => l.length - i) ⟨Nat.zero_le _, by simp⟩ fun i ⟨hi, hI⟩ => ?_) fun r hr => by
    cases r with
    | inl b => exact Tot.mk hr
    | inr u => exact Tot.mk fun _ => hr
  unfold lazarettoref07_args_L1
  refine Tot.ite (fun h => ?_) fun h => Tot.mk ?_
  · have h' : i < l.length := by omega
    refine (Tot.get h').bind fun x hx => (good06 x).bind fun b hb => Tot.ite (fun hbt => Tot.mk ⟨⟨h', fun y hy => ?_⟩, by simp only; omega⟩) fun _ => Tot.mk fun h => by cases h
    rw [take_get h'] at hy
    rcases List.mem_append.1 hy with hy | hy
    · exact hI y hy
    · rw [List.mem_singleton] at hy; rw [hy, ← hx.2]; exact hb hbt
  · have : i = l.length := by omega
    subst this
    rwa [List.take_length] at hI
/-- What a statement's form is. -/
structure FormS (s : api_Stmt) : Prop where
  name : s.Name.length ≤ 32
  args : ∀ x ∈ s.Args, GoodE x
  alen : s.Args.length ≤ 16384
  kinds : (s.Kind = 1 ∧ s.Body = [] ∧ s.Else = [] ∧ s.Args = [] ∧ GoodE s.Target ∧ (s.Target.Op = 2 ∨ (s.Target.Op = 3 ∧ s.Target.Args.length = 1)) ∧ GoodE s.Value) ∨ ((s.Kind = 2 ∨ s.Kind = 3) ∧ s.Args = [] ∧ s.Target = noE ∧ GoodE s.Value) ∨ (s.Kind = 4 ∧ s.Args.length = 2 ∧ s.Target = noE ∧ s.Value = noE) ∨ (s.Kind = 5 ∧ s.Body = [] ∧ s.Else = [] ∧ s.Target = noE ∧ s.Value = noE)
theorem nilL {α : Type} {l : List α} (h : (l.length : Int) = 0) : l = [] := List.eq_nil_of_length_eq_zero (by omega)
theorem formS_t (s : api_Stmt) : Tot (lazarettoref07_form s) fun b => b = true → FormS s := by
  have no : ∀ {Q : Prop}, Tot (some false) fun b => b = true → Q := Tot.mk fun h => by cases h
  have n0 : ∀ {l : Str}, l = [] → l.length ≤ 32 := fun h => by rw [h]; exact Nat.zero_le _
  have a0 : (s.Args.length : Int) = 0 → (∀ x ∈ s.Args, GoodE x) ∧ s.Args.length ≤ 16384 := fun h => by rw [nilL h]; exact ⟨fun x hx => (by cases hx), Nat.zero_le _⟩
  have k2 : (s.Kind = 2 ∨ s.Kind = 3) → s.Name = [] → (s.Args.length : Int) = 0 → Tot ((lazarettoref07_none s.Target).bind fun r_3 => if r_3 = true then ((lazarettoref06_Check s.Value).bind fun r_4 => some r_4) else (some false)) fun b => b = true → FormS s := fun k n a =>
    (none_t _).bind fun b hb => Tot.ite (fun ht => (good06 _).bind fun c hc => Tot.mk fun h => ⟨n0 n, (a0 a).1, (a0 a).2, .inr (.inl ⟨k, nilL a, hb ht, hc h⟩)⟩) fun _ => no
  have k4 : s.Kind = 4 → Tot ((lazarettoref05_Name s.Name).bind fun r_7 => if r_7 = true then (if (s.Args.length : Int) = 2 then ((lazarettoref07_args s.Args).bind fun r_8 => if r_8 = true then (if (s.Else.length : Int) = 0 then ((lazarettoref07_none s.Target).bind fun r_9 => if r_9 = true then ((lazarettoref07_none s.Value).bind fun r_10 => some r_10) else (some false)) else (some false)) else (some false)) else (some false)) else (some false)) fun b => b = true → FormS s := fun k =>
    (name_t _).bind fun b1 h1 => Tot.ite (fun t1 => Tot.ite (fun l => (args_t _).bind fun b2 h2 => Tot.ite (fun t2 => Tot.ite (fun e => (none_t _).bind fun b3 h3 => Tot.ite (fun t3 => (none_t _).bind fun b4 h4 => Tot.mk fun t4 => ⟨(h1 t1).1, h2 t2, by omega, .inr (.inr (.inl ⟨k, by omega, h3 t3, h4 t4⟩))⟩) fun _ => no) fun _ => no) fun _ => no) fun _ => no) fun _ => no
  unfold lazarettoref07_form
  refine Tot.ite (fun hb => ?_) fun hb => ?_
  · refine Tot.ite (fun k => Tot.ite (fun he => Tot.ite (fun n => Tot.ite (fun a => (target_t _).bind fun b1 h1 => Tot.ite (fun t1 => (good06 _).bind fun b2 h2 => Tot.mk fun t2 => ⟨n0 n, (a0 a).1, (a0 a).2, .inl ⟨k, nilL hb, nilL he, nilL a, (h1 t1).1, (h1 t1).2, h2 t2⟩⟩) fun _ => no) fun _ => no) fun _ => no) fun _ => no) fun _ => ?_
    refine Tot.ite (fun k => Tot.ite (fun n => Tot.ite (fun a => k2 (.inl k) n a) fun _ => no) fun _ => no) fun _ => ?_
    refine Tot.ite (fun k => Tot.ite (fun n => Tot.ite (fun a => Tot.ite (fun _ => k2 (.inr k) n a) fun _ => no) fun _ => no) fun _ => no) fun _ => ?_
    refine Tot.ite k4 fun _ => Tot.ite (fun k => Tot.ite (fun he => ?_) fun _ => no) fun _ => no
    exact (name_t _).bind fun b1 h1 => Tot.ite (fun t1 => (none_t _).bind fun b2 h2 => Tot.ite (fun t2 => (none_t _).bind fun b3 h3 => Tot.ite (fun t3 => Tot.ite (fun l => (args_t _).bind fun b4 h4 => Tot.mk fun t4 => ⟨(h1 t1).1, h4 t4, by omega, .inr (.inr (.inr ⟨k, nilL hb, nilL he, h2 t2, h3 t3⟩))⟩) fun _ => no) fun _ => no) fun _ => no) fun _ => no
  · refine Tot.ite (fun _ => no) fun _ => ?_
    refine Tot.ite (fun k => Tot.ite (fun n => Tot.ite (fun a => k2 (.inl k) n a) fun _ => no) fun _ => no) fun _ => ?_
    refine Tot.ite (fun k => Tot.ite (fun n => Tot.ite (fun a => Tot.ite (fun _ => k2 (.inr k) n a) fun _ => no) fun _ => no) fun _ => no) fun _ => ?_
    exact Tot.ite k4 fun _ => Tot.ite (fun _ => no) fun _ => no
theorem fmS_form {s : api_Stmt} (h : fmS s) : FormS s := by
  rw [fmS_eq] at h
  obtain ⟨b, hb, hq⟩ := formS_t s
  rw [h.1] at hb; cases hb
  exact hq rfl
theorem index_t (e : api_Expr) (h : e.Op = 3 → e.Args.length = 1) : Tot (lazarettoref07_index e) fun r => r.length ≤ 16386 := by
  unfold lazarettoref07_index
  refine Tot.ite (fun o => ?_) fun _ => Tot.mk (by simp)
  have hl : 0 < e.Args.length := by have := h o; omega
  exact (Tot.get hl).bind fun x _ => (print06 x).bind fun r hr => Tot.need (by omega) (Tot.need (by omega) (Tot.mk (by simp only [List.length_append, List.length_cons, List.length_nil]; omega)))
theorem head_t {s : api_Stmt} (F : FormS s) : Tot (lazarettoref07_head s) fun r => 1 ≤ r.length ∧ r.length ≤ 300000000 := by
  have hn := F.name
  have ha := F.alen
  unfold lazarettoref07_head
  refine Tot.ite (fun k => ?_) fun k1 => ?_
  · have hi : s.Target.Op = 3 → s.Target.Args.length = 1 := fun h => by have := F.kinds; omega
    exact (print06 _).bind fun r1 h1 => (index_t _ hi).bind fun r2 h2 => Tot.need (by omega) (Tot.need (by omega) ((print06 _).bind fun r3 h3 => Tot.need (by omega) (Tot.need (by omega) (Tot.mk (by simp only [List.length_append, List.length_cons, List.length_nil]; omega)))))
  refine Tot.ite (fun k => (print06 _).bind fun r1 h1 => Tot.need (by omega) (Tot.need (by omega) (Tot.mk (by simp only [List.length_append, List.length_cons, List.length_nil]; omega)))) fun k2 => ?_
  refine Tot.ite (fun k => (print06 _).bind fun r1 h1 => Tot.need (by omega) (Tot.need (by omega) (Tot.mk (by simp only [List.length_append, List.length_cons, List.length_nil]; omega)))) fun k3 => ?_
  refine Tot.ite (fun k => ?_) fun k4 => ?_
  · have hl : s.Args.length = 2 := by have := F.kinds; omega
    exact Tot.need (by omega) (Tot.need (by omega) ((Tot.get (by omega)).bind fun x _ => (print06 x).bind fun r1 h1 => Tot.need (by omega) (Tot.need (by omega) ((Tot.get (by omega)).bind fun y _ => (print06 y).bind fun r2 h2 => Tot.need (by omega) (Tot.need (by omega) (Tot.mk (by simp only [List.length_append, List.length_cons, List.length_nil]; omega)))))))
  refine Tot.need (by omega) (Tot.bind (Tot.loop (fun x => x.2 ≤ s.Args.length ∧ x.1.length ≤ 33 + 16386 * x.2) (R := fun r => r.length ≤ 299999900) (fun x => s.Args.length - x.2) ⟨Nat.zero_le _, by simp only [List.length_append, List.length_cons, List.length_nil]; omega⟩ fun ⟨t, i⟩ ⟨hi, hI⟩ => ?_) fun r hr => Tot.need (by omega) (Tot.mk (by simp only [List.length_append, List.length_cons, List.length_nil]; omega)))
  simp only at hi hI
  unfold lazarettoref07_head_L1
  refine Tot.ite (fun h => ?_) fun h => Tot.mk (show t.length ≤ 299999900 by omega)
  have h' : i < s.Args.length := by omega
  exact Tot.ite (fun _ => Tot.need (by omega) ((Tot.get h').bind fun x _ => (print06 x).bind fun r hr => Tot.need (by omega) (Tot.mk ⟨⟨h', by simp only [List.length_append, List.length_cons, List.length_nil]; omega⟩, by simp only; omega⟩))) fun _ =>
    (Tot.get h').bind fun x _ => (print06 x).bind fun r hr => Tot.need (by omega) (Tot.mk ⟨⟨h', by simp only [List.length_append]; omega⟩, by simp only; omega⟩)
theorem brief07 : ∀ (d fuel : Nat), d < fuel → d ≤ 1000 → ∀ (l : List api_Stmt) (left : Int), left ≤ 1000000 → Tot (lazarettoref07_brief_g fuel l (d : Int) left) fun r => r ≤ 1000000 ∧ (0 ≤ r → fmSs l ∧ (nSs l : Int) + r ≤ left)
  | d, 0, h, _, _, _, _ => by omega
  | d, fuel + 1, h, hd, [], left, hl => by
    unfold lazarettoref07_brief_g lazarettoref07_brief_b
    refine Tot.ite (fun _ => by omega) fun _ => Tot.ite (fun h => by simp at h) fun _ => Tot.ite (fun _ => Tot.mk (by omega)) fun _ => ?_
    rw [loop_inr (r := .inr left) (by simp [lazarettoref07_brief_L2]), Option.bind_some]
    exact Tot.mk ⟨hl, fun _ => ⟨by rw [fmSs]; trivial, by simp [nSs]⟩⟩
  | 0, fuel + 1, _, _, s :: l, left, _ => by
    unfold lazarettoref07_brief_g lazarettoref07_brief_b
    exact Tot.ite (fun _ => Tot.mk (by omega)) fun _ => Tot.ite (fun _ => Tot.ite (fun _ => Tot.mk (by omega)) fun h => by omega) fun h => by simp at h
  | d + 1, fuel + 1, h, hd, s :: l', left, hl => by
    generalize hll : s :: l' = l
    have hpos : 0 < l.length := by rw [← hll]; simp
    have e1 : w64 (((d + 1 : Nat) : Int) - 1) = (d : Int) := by rw [w64_id (by omega) (by omega)]; omega
    unfold lazarettoref07_brief_g lazarettoref07_brief_b
    refine Tot.ite (fun _ => by omega) fun _ => Tot.ite (fun _ => ?_) fun h => by omega
    refine Tot.ite (fun h => by omega) fun _ => Tot.ite (fun _ => Tot.mk (by omega)) fun _ => ?_
    refine Tot.bind (Tot.loop (fun x => x.2 ≤ l.length ∧ x.1 ≤ 1000000 ∧ (0 ≤ x.1 → fmSs (l.take x.2) ∧ (nSs (l.take x.2) : Int) + x.1 ≤ left))
      (R := fun r => match r with | .inl r => r = -1 | .inr r => r ≤ 1000000 ∧ (0 ≤ r → fmSs l ∧ (nSs l : Int) + r ≤ left)) (fun x => l.length - x.2) ⟨Nat.zero_le _, hl, fun _ => ⟨by rw [List.take_zero, fmSs]; trivial, by simp [nSs]⟩⟩ fun ⟨lf, i⟩ ⟨a0, a1, a2⟩ => ?_) fun r hr => by
        cases r with
        | inl r => exact Tot.mk (by simp only at hr; omega)
        | inr r => exact Tot.mk hr
    simp only at a0 a1 a2
    unfold lazarettoref07_brief_L1
    refine Tot.ite (fun hi => ?_) fun hi => Tot.mk ⟨a1, fun h0 => ?_⟩
    · refine Tot.ite (fun h0 => ?_) fun h0 => Tot.mk ⟨a1, fun h => (h0 h).elim⟩
      have hi' : i < l.length := by omega
      obtain ⟨b0, b1⟩ := a2 h0
      rw [List.getElem?_eq_getElem hi', Option.bind_some]
      generalize hx : l[i] = x
      obtain ⟨b, hb, hF⟩ := formS_t x
      rw [hb, Option.bind_some]
      refine Tot.ite (fun hbt => ?_) fun _ => Tot.mk rfl
      subst hbt
      refine (head_t (hF rfl)).bind fun r hr => ?_
      rw [w64_id (n := lf - (r.length : Int)) (by omega) (by omega), e1]
      refine Tot.ite (fun h1 => ?_) fun h1 => Tot.mk ⟨⟨hi', by simp only; omega, fun h => (h1 h).elim⟩, by simp only; omega⟩
      refine (brief07 d fuel (by omega) (by omega) x.Body (lf - r.length) (by omega)).bind fun r1 hr1 => Tot.ite (fun h2 => ?_) fun h2 => Tot.mk ⟨⟨hi', by simp only; omega, fun h => (h2 h).elim⟩, by simp only; omega⟩
      refine (brief07 d fuel (by omega) (by omega) x.Else r1 (by omega)).bind fun r2 hr2 => Tot.mk ⟨⟨hi', by simp only; omega, fun h3 => ?_⟩, by simp only; omega⟩
      simp only at h3 ⊢
      obtain ⟨c0, c1⟩ := hr1.2 h2
      obtain ⟨d0, d1⟩ := hr2.2 h3
      rw [take_get hi', fmSs_app, nSs_app, hx]
      simp only [fmSs, nSs]
      rw [fmS_eq, nS_eq]
      exact ⟨⟨b0, ⟨hb, c0, d0⟩, trivial⟩, by omega⟩
    · have : i = l.length := by omega
      subst this
      have := a2 h0
      rwa [List.take_length] at this
theorem fits_t (l : List api_Stmt) : Tot (lazarettoref07_Fits l) fun b => b = true → fmSs l ∧ nSs l ≤ 16384 := by
  unfold lazarettoref07_Fits
  exact (brief07 24 1000000 (by omega) (by omega) l 16384 (by omega)).bind fun r hr => Tot.mk fun h => by
    have h0 := of_decide_eq_true h
    have := hr.2 h0
    exact ⟨this.1, by omega⟩
theorem text07 : ∀ (n : Nat) (l : List api_Stmt), fmSs l → depSs l + 1 ≤ n → nSs l ≤ 16384 → Tot (lazarettoref07_text_g n l) fun r => r.length ≤ 300000100 * nSs l
  | 0, l, _, h, _ => by omega
  | n + 1, l, ok, hd, hs => by
    show Tot (lazarettoref07_text_b (lazarettoref07_text_g n) l) _
    unfold lazarettoref07_text_b
    refine Tot.bind (Tot.loop (fun x => x.2 ≤ l.length ∧ x.1.length ≤ 300000100 * nSs (l.take x.2)) (R := fun r => r.length ≤ 300000100 * nSs l) (fun x => l.length - x.2) ⟨Nat.zero_le _, by simp⟩ fun ⟨t, i⟩ ⟨hi, hI⟩ => ?_) fun r hr => Tot.mk hr
    simp only at hi hI
    unfold lazarettoref07_text_L1
    refine Tot.ite (fun h => ?_) fun h => Tot.mk ?_
    · have h' : i < l.length := by omega
      rw [List.getElem?_eq_getElem h']
      simp only [Option.bind_some]
      have hmem := List.getElem_mem h'
      have hsum : nSs (l.take (i + 1)) ≤ nSs l := by
        have := nSs_app (l := l.take (i + 1)) (m := l.drop (i + 1))
        rw [List.take_append_drop] at this; omega
      have htk : nSs (l.take (i + 1)) = nSs (l.take i) + nS l[i] := by rw [take_get h', nSs_app]; simp [nSs]
      have okx := fmSs_mem ok _ hmem
      have dx := depSs_mem hmem
      generalize l[i] = x at htk okx dx
      have F := fmS_form okx
      rw [fmS_eq] at okx
      rw [depS_eq] at dx
      rw [nS_eq] at htk
      have hB := text07 n x.Body okx.2.1 (by omega) (by omega)
      have hE := text07 n x.Else okx.2.2 (by omega) (by omega)
      have go : ∀ t' : Str, t'.length ≤ 300000100 * nSs (l.take (i + 1)) → Tot (some (Sum.inl (t', i + 1)) : Option ((Str × Nat) ⊕ Str)) (Rd (fun x => x.2 ≤ l.length ∧ x.1.length ≤ 300000100 * nSs (l.take x.2)) (fun r => r.length ≤ 300000100 * nSs l) (fun x => l.length - x.2) (l.length - i)) := fun t' ht => Tot.mk ⟨⟨h', ht⟩, by simp only; omega⟩
      refine Tot.ite (fun h0 => Tot.need (by omega) ((head_t F).bind fun r hr => Tot.need (by omega) (hB.bind fun b hb => ?_))) fun h0 => (head_t F).bind fun r hr => Tot.need (by omega) (hB.bind fun b hb => ?_)
      all_goals repeat' (first | refine Tot.need (by omega) ?_ | refine Tot.ite (fun _ => ?_) (fun _ => ?_) | refine hE.bind fun e he => ?_ | exact go _ (by simp only [List.length_append, List.length_cons, List.length_nil]; omega))
    · have : i = l.length := by omega
      subst this
      rwa [List.take_length] at hI
theorem text07_t {l : List api_Stmt} (ok : fmSs l) (hd : depSs l ≤ 1000) (hs : nSs l ≤ 16384) : Tot (lazarettoref07_Text l) fun r => r.length ≤ 5000000000000 := by
  unfold lazarettoref07_Text
  exact (text07 1000000 l ok (by omega) hs).bind fun r hr => Tot.mk (by omega)
end Go.Lz

end
section
/- P08: a program of its form: what it is; that the question is answered. -/
namespace Go.Lz
set_option linter.unusedVariables false
set_option linter.unusedSimpArgs false
/-- Whether all of a list are so. -/
theorem all_t {α : Type} {xs : List α} {g : α → Prop} {f : Nat → Option (Nat ⊕ (Bool ⊕ Unit))} (step : ∀ i (h : i < xs.length), Tot (f i) fun r => r = .inl (i + 1) ∧ g xs[i] ∨ r = .inr (.inl false)) (last : f xs.length = some (.inr (.inr ()))) :
    Tot (loop f 0) fun r => r = .inl false ∨ r = .inr () ∧ ∀ x ∈ xs, g x := by
  refine Tot.loop (fun i => i ≤ xs.length ∧ ∀ x ∈ xs.take i, g x) (fun i => xs.length - i) ⟨Nat.zero_le _, by simp⟩ fun i ⟨hi, hI⟩ => ?_
  by_cases h : i < xs.length
  · refine (step i h).imp fun r hr => ?_
    rcases hr with ⟨rfl, hg⟩ | rfl
    · refine ⟨⟨h, fun y hy => ?_⟩, by simp only; omega⟩
      rw [take_get h] at hy
      rcases List.mem_append.1 hy with hy | hy
      · exact hI y hy
      · rw [List.mem_singleton] at hy; rw [hy]; exact hg
    · exact .inl rfl
  · have : i = xs.length := by omega
    subst this
    rw [List.take_length] at hI
    exact ⟨_, last, .inr ⟨rfl, hI⟩⟩
theorem find_t (l : List Str) (s : Str) : Tot (lazarettoref08_find l s) fun _ => True := by
  unfold lazarettoref08_find
  refine Tot.bind (Tot.loop (fun i => i ≤ l.length) (R := fun _ => True) (fun i => l.length - i) (Nat.zero_le _) fun i hi => ?_) fun r _ => by cases r <;> exact Tot.mk trivial
  unfold lazarettoref08_find_L1
  refine Tot.ite (fun h => ?_) fun _ => Tot.mk trivial
  have h' : i < l.length := by omega
  exact (Tot.get h').bind fun x _ => Tot.ite (fun _ => Tot.mk trivial) fun _ => Tot.mk ⟨h', by simp only; omega⟩
def isLab (p : api_Program) (n : Int) : Prop := 0 ≤ n ∧ n < (p.Lattice.Names.length : Int)
theorem label_t (p : api_Program) (n : Int) : Tot (lazarettoref08_label p n) fun b => b = true → isLab p n := by
  unfold lazarettoref08_label lazarettoref01_Is
  refine Tot.bind (Tot.ite (fun h => Tot.mk (Q := fun b => b = true → isLab p n) fun h2 => ⟨h, of_decide_eq_true h2⟩) fun _ => Tot.mk fun h => by cases h) fun b hb => Tot.mk hb
theorem bits_t (k : Int) : Tot (lazarettoref03_Bits k) fun r => r ≠ 0 → k = 1 ∨ k = 2 ∨ k = 3 ∨ k = 4 := by
  unfold lazarettoref03_Bits
  exact Tot.ite (fun h => Tot.mk fun _ => by omega) fun _ => Tot.ite (fun h => Tot.mk fun _ => by omega) fun _ => Tot.ite (fun h => Tot.mk fun _ => by omega) fun _ => Tot.ite (fun h => Tot.mk fun _ => by omega) fun _ => Tot.mk fun h => (h rfl).elim
theorem type_t (t : api_Type) : Tot (lazarettoref04_Check t) fun r => r = 0 → (t.Kind = 1 ∨ t.Kind = 2 ∨ t.Kind = 3 ∨ t.Kind = 4) ∧ 0 ≤ t.Len ∧ t.Len ≤ 32 ∧ -32768 ≤ t.Low ∧ t.Low ≤ 32767 ∧ (t.Len = 0 → t.Low = 0) := by
  have no : ∀ {Q : Prop}, Tot (some (6 : Int)) fun b => b = 0 → Q := Tot.mk fun h => by cases h
  unfold lazarettoref04_Check
  refine (bits_t _).bind fun r hr => Tot.ite (fun _ => no) fun h => Tot.ite (fun _ => no) fun _ => Tot.ite (fun _ => no) fun _ => ?_
  have hk := hr h
  exact Tot.ite (fun _ => Tot.ite (fun _ => Tot.ite (fun _ => no) fun _ => Tot.ite (fun _ => no) fun _ => Tot.mk fun _ => ⟨hk, by omega, by omega, by omega, by omega, by omega⟩) fun _ => no) fun _ => Tot.ite (fun _ => no) fun _ => Tot.ite (fun _ => no) fun _ => Tot.mk fun _ => ⟨hk, by omega, by omega, by omega, by omega, by omega⟩
theorem valid_t (k n : Int) : Tot (lazarettoref03_Valid k n) fun b => b = true → (-2147483648 ≤ n ∧ n < 2147483648) ∧ (k = 1 → n = 0 ∨ n = 1) ∧ (k = 2 → -32768 ≤ n ∧ n < 32768) := by
  unfold lazarettoref03_Valid
  refine Tot.ite (fun _ => Tot.ite (fun _ => Tot.mk fun _ => by omega) fun _ => Tot.mk fun h => by have := of_decide_eq_true h; omega) fun _ => ?_
  have hh : Tot (lazarettoref03_half k) fun r => 0 ≤ r ∧ r ≤ 2147483648 ∧ (k = 2 → r = 32768) := by
    unfold lazarettoref03_half
    exact Tot.ite (fun _ => Tot.mk ⟨by decide, by decide, fun _ => rfl⟩) fun h => Tot.mk ⟨by decide, by decide, fun h' => (h h').elim⟩
  obtain ⟨a, ha, ha'⟩ := hh
  refine (bits_t _).bind fun r _ => Tot.ite (fun _ => ?_) fun _ => Tot.mk fun h => by cases h
  rw [ha, Option.bind_some, w64_id (by omega) (by omega)]
  refine Tot.ite (fun _ => Tot.mk fun h => ?_) fun _ => Tot.mk fun h => by cases h
  have := of_decide_eq_true h
  omega
structure GoodV (p : api_Program) (v : api_Var) : Prop where
  name : v.Name.length ≤ 32
  kind : v.Type_.Kind = 1 ∨ v.Type_.Kind = 2 ∨ v.Type_.Kind = 3 ∨ v.Type_.Kind = 4
  len : 0 ≤ v.Type_.Len ∧ v.Type_.Len ≤ 32
  low : -32768 ≤ v.Type_.Low ∧ v.Type_.Low ≤ 32767
  mode : v.Mode = 0 ∨ v.Mode = 1 ∨ v.Mode = 2
  scalar : v.Mode ≠ 0 → v.Type_.Len = 0
  label : v.Label = -1 ∨ isLab p v.Label
  safe : -2147483648 ≤ v.Safe ∧ v.Safe < 2147483648
  zero : v.Type_.Len = 0 → v.Type_.Low = 0
  vsafe : (v.Type_.Kind = 1 → v.Safe = 0 ∨ v.Safe = 1) ∧ (v.Type_.Kind = 2 → -32768 ≤ v.Safe ∧ v.Safe < 32768)
theorem var_t (p : api_Program) (v : api_Var) : Tot (lazarettoref08_variable p v) fun b => b = true → GoodV p v := by
  have no : ∀ {Q : Prop}, Tot (some false) fun b => b = true → Q := Tot.mk fun h => by cases h
  unfold lazarettoref08_variable
  refine (name_t _).bind fun b hb => Tot.ite (fun h1 => (type_t _).bind fun r hr => Tot.ite (fun h2 => ?_) fun _ => no) fun _ => no
  obtain ⟨t1, t2, t3, t4, t5, t6⟩ := hr h2
  have n := (hb h1).1
  refine Tot.ite (fun m => Tot.ite (fun s => ?_) fun _ => no) fun m0 => ?_
  · refine Tot.ite (fun l => Tot.ite (fun e => Tot.mk fun _ => ⟨n, t1, ⟨t2, t3⟩, ⟨t4, t5⟩, .inl m, fun h => (h m).elim, .inl l, by omega, t6, by omega⟩) fun e => Tot.mk fun _ => ⟨n, t1, ⟨t2, t3⟩, ⟨t4, t5⟩, .inl m, fun h => (h m).elim,   .inl l, by omega, t6, by omega⟩) fun l => ?_
    exact (label_t _ _).bind fun b hl => Tot.ite (fun hb => Tot.ite (fun e => Tot.mk fun _ => ⟨n, t1, ⟨t2, t3⟩, ⟨t4, t5⟩, .inl m, fun h => (h m).elim, .inr (hl hb), by omega, t6, by omega⟩) fun e => Tot.mk fun _ => ⟨n, t1, ⟨t2, t3⟩, ⟨t4, t5⟩, .inl m, fun h => (h m).elim,   .inr (hl hb), by omega, t6, by omega⟩) fun _ => no
  refine Tot.ite (fun m => Tot.ite (fun s => (label_t _ _).bind fun b hl => Tot.ite (fun hb => Tot.mk fun e => ⟨n, t1, ⟨t2, t3⟩, ⟨t4, t5⟩, .inr (.inl m), fun _ => of_decide_eq_true e,   .inr (hl hb), by omega, t6, by omega⟩) fun _ => no) fun _ => no) fun m1 => ?_
  exact Tot.ite (fun m => (label_t _ _).bind fun b hl => Tot.ite (fun hb => Tot.ite (fun e => (valid_t _ _).bind fun c hc => Tot.mk fun h => ⟨n, t1, ⟨t2, t3⟩, ⟨t4, t5⟩, .inr (.inr m), fun _ => e, .inr (hl hb), (hc h).1, t6, (hc h).2⟩) fun _ => no) fun _ => no) fun _ => no
structure GoodB (p : api_Program) (b : api_Block) : Prop where
  name : b.Name.length ≤ 32
  kind : b.Kind.length ≤ 50
  label : isLab p b.Label
structure GoodSi (p : api_Program) (s : api_Site) : Prop where
  name : s.Name.length ≤ 32
  frm : isLab p s.From
  to : isLab p s.To
structure GoodP (p : api_Program) : Prop where
  nl : p.Lattice.Names.length ≤ 8
  ns : p.Sites.length ≤ 8
  nv : p.Vars.length ≤ 48
  nb : p.Blocks.length ≤ 12
  nt : p.Tasks.length ≤ 4
  nb2 : p.Lattice.Below.length ≤ 16384
  names : ∀ s ∈ p.Lattice.Names, s.length ≤ 32
  below : ∀ b ∈ p.Lattice.Below, isLab p b.a0 ∧ isLab p b.a1
  sites : ∀ s ∈ p.Sites, GoodSi p s
  vars : ∀ v ∈ p.Vars, GoodV p v
  blocks : ∀ b ∈ p.Blocks, GoodB p b
theorem parts_t (p : api_Program) : Tot (lazarettoref08_parts p) fun b => b = true → GoodP p := by
  have no : ∀ {Q : Prop}, Tot (some false) fun b => b = true → Q := Tot.mk fun h => by cases h
  have bad : ∀ {g : Prop} {i : Nat}, Tot (some (.inr (.inl false)) : Option (Nat ⊕ (Bool ⊕ Unit))) fun r => r = .inl (i + 1) ∧ g ∨ r = .inr (.inl false) := Tot.mk (.inr rfl)
  unfold lazarettoref08_parts
  refine Tot.ite (fun _ => no) fun n1 => Tot.ite (fun _ => no) fun n2 => Tot.ite (fun _ => no) fun n3 => Tot.ite (fun _ => no) fun n4 => Tot.ite (fun _ => no) fun n5 => Tot.ite (fun _ => no) fun n6 => ?_
  refine Tot.bind (all_t (xs := p.Lattice.Names) (g := fun s => s.length ≤ 32) (fun i h => ?_) (by simp [lazarettoref08_parts_L1])) fun r hr => ?_
  · unfold lazarettoref08_parts_L1
    rw [if_pos (by omega), List.getElem?_eq_getElem h, Option.bind_some]
    exact (name_t _).bind fun b hb => Tot.ite (fun h1 => (find_t _ _).bind fun k _ => Tot.ite (fun _ => Tot.mk (.inl ⟨rfl, (hb h1).1⟩)) fun _ => bad) fun _ => bad
  rcases hr with rfl | ⟨rfl, g1⟩
  · exact no
  refine Tot.bind (all_t (xs := p.Lattice.Below) (g := fun b => isLab p b.a0 ∧ isLab p b.a1) (fun i h => ?_) (by simp [lazarettoref08_parts_L2])) fun r hr => ?_
  · unfold lazarettoref08_parts_L2
    rw [if_pos (by omega), List.getElem?_eq_getElem h, Option.bind_some]
    exact (label_t _ _).bind fun b hb => Tot.ite (fun h1 => (label_t _ _).bind fun c hc => Tot.ite (fun h2 => Tot.mk (.inl ⟨rfl, hb h1, hc h2⟩)) fun _ => bad) fun _ => bad
  rcases hr with rfl | ⟨rfl, g2⟩
  · exact no
  refine Tot.bind (all_t (xs := p.Sites) (g := GoodSi p) (fun i h => ?_) (by simp [lazarettoref08_parts_L3])) fun r hr => ?_
  · unfold lazarettoref08_parts_L3
    rw [if_pos (by omega), List.getElem?_eq_getElem h, Option.bind_some]
    exact (name_t _).bind fun a ha => Tot.ite (fun h0 => (label_t _ _).bind fun b hb => Tot.ite (fun h1 => (label_t _ _).bind fun c hc => Tot.ite (fun h2 => Tot.mk (.inl ⟨rfl, (ha h0).1, hb h1, hc h2⟩)) fun _ => bad) fun _ => bad) fun _ => bad
  rcases hr with rfl | ⟨rfl, g3⟩
  · exact no
  refine Tot.bind (all_t (xs := p.Vars) (g := GoodV p) (fun i h => ?_) (by simp [lazarettoref08_parts_L4])) fun r hr => ?_
  · unfold lazarettoref08_parts_L4
    rw [if_pos (by omega), List.getElem?_eq_getElem h, Option.bind_some]
    exact (var_t _ _).bind fun a ha => Tot.ite (fun h0 => Tot.mk (.inl ⟨rfl, ha h0⟩)) fun _ => bad
  rcases hr with rfl | ⟨rfl, g4⟩
  · exact no
  refine Tot.bind (all_t (xs := p.Blocks) (g := GoodB p) (fun i h => ?_) (by simp [lazarettoref08_parts_L5])) fun r hr => ?_
  · unfold lazarettoref08_parts_L5
    rw [if_pos (by omega), List.getElem?_eq_getElem h, Option.bind_some]
    exact (name_t _).bind fun a ha => Tot.ite (fun h0 => (among_t _ _ (Nat.le_of_ble_eq_true rfl)).bind fun b hb => Tot.ite (fun h1 => (label_t _ _).bind fun c hc => Tot.ite (fun h2 => Tot.mk (.inl ⟨rfl, (ha h0).1, Nat.le_trans (hb h1) (Nat.le_of_ble_eq_true rfl), hc h2⟩)) fun _ => bad) fun _ => bad) fun _ => bad
  rcases hr with rfl | ⟨rfl, g5⟩
  · exact no
  exact Tot.mk fun _ => ⟨by omega, by omega, by omega, by omega, by omega, by omega, g1, g2, g3, g4, g5⟩
structure GoodT (p : api_Program) (t : api_Task) : Prop where
  every : 1 ≤ t.Every ∧ t.Every ≤ 65536
  prio : 0 ≤ t.Priority ∧ t.Priority ≤ 255
  nbud : t.Budget.length = p.Lattice.Names.length
  bud : ∀ b ∈ t.Budget, 0 ≤ b ∧ b ≤ 4096
  ok : fmSs t.Body
  n : nSs t.Body ≤ 16384
theorem tasks_t (p : api_Program) : Tot (lazarettoref08_tasks p) fun b => b = true → ∀ t ∈ p.Tasks, GoodT p t := by
  have bad : ∀ {g : Prop} {i : Nat}, Tot (some (.inr (.inl false)) : Option (Nat ⊕ (Bool ⊕ Unit))) fun r => r = .inl (i + 1) ∧ g ∨ r = .inr (.inl false) := Tot.mk (.inr rfl)
  unfold lazarettoref08_tasks
  refine Tot.bind (all_t (xs := p.Tasks) (g := GoodT p) (fun i h => ?_) (by simp [lazarettoref08_tasks_L1])) fun r hr => ?_
  · unfold lazarettoref08_tasks_L1
    rw [if_pos (by omega), List.getElem?_eq_getElem h, Option.bind_some]
    refine Tot.ite (fun _ => bad) fun a1 => Tot.ite (fun _ => bad) fun a2 => Tot.ite (fun _ => bad) fun a3 => Tot.ite (fun _ => bad) fun a4 => Tot.ite (fun a5 => (fits_t _).bind fun b hb => Tot.ite (fun h1 => ?_) fun _ => bad) fun _ => bad
    refine Tot.bind (all_t (xs := p.Tasks[i].Budget) (g := fun b => 0 ≤ b ∧ b ≤ 4096) (fun k hk => ?_) (by simp [lazarettoref08_tasks_L2])) fun r hr => ?_
    · unfold lazarettoref08_tasks_L2
      rw [if_pos (by omega), List.getElem?_eq_getElem hk, Option.bind_some]
      exact Tot.ite (fun _ => bad) fun b1 => Tot.ite (fun _ => bad) fun b2 => Tot.mk (.inl ⟨rfl, by omega, by omega⟩)
    rcases hr with rfl | ⟨rfl, g⟩
    · exact bad
    · exact Tot.mk (.inl ⟨rfl, ⟨by omega, by omega⟩, ⟨by omega, by omega⟩, by omega, g, (hb h1).1, (hb h1).2⟩)
  rcases hr with rfl | ⟨rfl, g⟩
  · exact Tot.mk fun h => by cases h
  · exact Tot.mk fun _ => g
theorem signed_t (n : Int) (h1 : -10000000 * 900 < n) (h2 : n < 9000000000) : Tot (lazarettoref08_signed n) fun r => r.length ≤ 12 := by
  unfold lazarettoref08_signed
  refine Tot.ite (fun h => ?_) fun h => (digits_t n (by omega) (by omega)).bind fun r hr => Tot.mk (by omega)
  rw [w64_id (by omega) (by omega)]
  exact (digits_t (0 - n) (by omega) (by omega)).bind fun r hr => Tot.need (by omega) (Tot.mk (by simp only [List.length_append, List.length_cons, List.length_nil]; omega))
theorem typ_t {p : api_Program} {v : api_Var} (g : GoodV p v) : Tot (lazarettoref08_typ v.Type_) fun r => r.length ≤ 100 := by
  have k := g.kind
  have l := g.len
  have w := g.low
  unfold lazarettoref08_typ
  refine (Tot.idx (by omega) (by simp only [List.length_cons, List.length_nil]; omega)).bind fun x hx => ?_
  have hx' : x.length ≤ 4 := by
    simp only [List.mem_cons, List.not_mem_nil, or_false] at hx
    rcases hx with rfl | rfl | rfl | rfl | rfl <;> decide
  refine Tot.ite (fun _ => Tot.mk (by omega)) fun _ => (signed_t _ (by omega) (by omega)).bind fun r hr => Tot.need (by omega) (Tot.need (by omega) ?_)
  rw [w64_id (n := v.Type_.Low + v.Type_.Len) (by omega) (by omega), w64_id (by omega) (by omega)]
  exact (signed_t _ (by omega) (by omega)).bind fun r2 hr2 => Tot.need (by omega) (Tot.need (by omega) (Tot.need (by omega) (Tot.mk (by simp only [List.length_append, List.length_cons, List.length_nil]; omega))))
theorem lab_get {p : api_Program} (P : GoodP p) {n : Int} (h : isLab p n) : Tot (idx p.Lattice.Names n) fun s => s.length ≤ 32 :=
  (Tot.idx h.1 h.2).imp fun s hs => P.names s hs
theorem one_t {p : api_Program} (P : GoodP p) {v : api_Var} (g : GoodV p v) : Tot (lazarettoref08_one p v) fun r => r.length ≤ 300 := by
  have n := g.name
  have m := g.mode
  have s := g.safe
  unfold lazarettoref08_one
  refine (Tot.idx (by omega) (by simp only [List.length_cons, List.length_nil]; omega)).bind fun x hx => ?_
  have hx' : x.length ≤ 7 := by
    simp only [List.mem_cons, List.not_mem_nil, or_false] at hx
    rcases hx with rfl | rfl | rfl <;> decide
  refine Tot.need (by omega) (Tot.need (by omega) ((typ_t g).bind fun t ht => Tot.need (by omega) ?_))
  have hs := signed_t v.Safe (by omega) (by omega)
  refine Tot.ite (fun hl => ?_) fun _ => ?_
  · have hlab : isLab p v.Label := by exact g.label.resolve_left fun h => by omega
    refine (lab_get P hlab).bind fun y hy => ?_
    repeat' (first | refine Tot.need (by omega) ?_ | refine Tot.ite (fun _ => ?_) (fun _ => ?_) | refine hs.bind fun e he => ?_ | exact Tot.mk (by simp only [List.length_append, List.length_cons, List.length_nil]; omega))
  · repeat' (first | refine Tot.need (by omega) ?_ | refine Tot.ite (fun _ => ?_) (fun _ => ?_) | refine hs.bind fun e he => ?_ | exact Tot.mk (by simp only [List.length_append, List.length_cons, List.length_nil]; omega))
theorem task_t {p : api_Program} (P : GoodP p) {t : api_Task} (g : GoodT p t) (hd : depSs t.Body ≤ 1000) : Tot (lazarettoref08_task p t) fun r => r.length ≤ 5000000001000 := by
  have e := g.every
  have pr := g.prio
  have nb := g.nbud
  have nl := P.nl
  unfold lazarettoref08_task
  refine (digits_t _ (by omega) (by omega)).bind fun r1 h1 => Tot.need (by omega) (Tot.need (by omega) ((digits_t _ (by omega) (by omega)).bind fun r2 h2 => Tot.need (by omega) ?_))
  refine Tot.bind (Tot.loop (fun x => x.2 ≤ t.Budget.length ∧ x.1.length ≤ 50 + 60 * x.2) (R := fun r => r.length ≤ 600) (fun x => t.Budget.length - x.2) ⟨Nat.zero_le _, by simp only [List.length_append, List.length_cons, List.length_nil]; omega⟩ fun ⟨s, i⟩ ⟨hi, hI⟩ => ?_) fun s hs => ?_
  · simp only at hi hI
    unfold lazarettoref08_task_L1
    refine Tot.ite (fun h => ?_) fun _ => Tot.mk (show s.length ≤ 600 by omega)
    have h' : i < t.Budget.length := by omega
    have h'' : i < p.Lattice.Names.length := by omega
    have hn := P.names _ (List.getElem_mem h'')
    have hb := g.bud _ (List.getElem_mem h')
    rw [List.getElem?_eq_getElem h', List.getElem?_eq_getElem h'']
    simp only [Option.bind_some]
    have dg := digits_t _ hb.1 (by omega)
    exact Tot.ite (fun _ => Tot.need (by omega) (Tot.need (by omega) (dg.bind fun d hd => Tot.need (by omega) (Tot.need (by omega) (Tot.mk ⟨⟨h', by simp only [List.length_append, List.length_cons, List.length_nil]; omega⟩, by simp only; omega⟩))))) fun _ =>
      Tot.need (by omega) (Tot.need (by omega) (dg.bind fun d hd => Tot.need (by omega) (Tot.need (by omega) (Tot.mk ⟨⟨h', by simp only [List.length_append, List.length_cons, List.length_nil]; omega⟩, by simp only; omega⟩))))
  · exact Tot.need (by omega) ((text07_t g.ok hd g.n).bind fun b hb => Tot.ite (fun _ => Tot.need (by omega) (Tot.mk (by simp only [List.length_append, List.length_cons, List.length_nil]; omega))) fun _ => Tot.need (by omega) (Tot.need (by omega) (Tot.need (by omega) (Tot.mk (by simp only [List.length_append, List.length_cons, List.length_nil]; omega)))))
/-- A loop that puts texts together. -/
theorem put_t {α : Type} {xs : List α} {c b m : Nat} {f : Str × Nat → Option ((Str × Nat) ⊕ Str)} (hc : xs.length ≤ m) (step : ∀ (s : Str) i (h : i < xs.length), s.length ≤ b + c * i → s.length ≤ b + c * m → Tot (f (s, i)) fun r => ∃ s', r = .inl (s', i + 1) ∧ s'.length ≤ s.length + c) (last : ∀ s, f (s, xs.length) = some (.inr s)) (s : Str) (hs : s.length ≤ b) :
    Tot (loop f (s, 0)) fun r => r.length ≤ b + c * m := by
  refine Tot.loop (fun x => x.2 ≤ xs.length ∧ x.1.length ≤ b + c * x.2) (fun x => xs.length - x.2) ⟨Nat.zero_le _, by simpa using hs⟩ fun ⟨s, i⟩ ⟨hi, hI⟩ => ?_
  simp only at hi hI
  have hm : c * i ≤ c * m := Nat.mul_le_mul_left _ (by omega)
  by_cases h : i < xs.length
  · refine (step s i h hI (by omega)).imp fun r hr => ?_
    obtain ⟨s', rfl, hl⟩ := hr
    exact ⟨⟨h, by simp only [Nat.mul_add]; omega⟩, by simp only; omega⟩
  · have : i = xs.length := by omega
    subst this
    exact ⟨_, last s, show s.length ≤ _ by omega⟩
theorem text08_t {p : api_Program} (P : GoodP p) (T : ∀ t ∈ p.Tasks, GoodT p t) (hd : ∀ t ∈ p.Tasks, depSs t.Body ≤ 1000) : Tot (lazarettoref08_text p) fun _ => True := by
  unfold lazarettoref08_text
  refine Tot.bind (put_t (xs := p.Lattice.Names) (c := 40) (b := 0) (m := 8) P.nl (fun s i h hs hm => ?_) (fun s => by simp [lazarettoref08_text_L1]) [] (by simp)) fun s1 h1 => ?_
  · unfold lazarettoref08_text_L1
    dsimp only
    have hn := P.names _ (List.getElem_mem h)
    rw [if_pos (by omega), List.getElem?_eq_getElem h, Option.bind_some]
    exact Tot.need (by omega) (Tot.need (by omega) (Tot.need (by omega) (Tot.mk ⟨_, rfl, by simp only [List.length_append, List.length_cons, List.length_nil]; omega⟩)))
  refine Tot.bind (put_t (xs := p.Lattice.Below) (c := 80) (b := 320) (m := 16384) P.nb2 (fun s i h hs hm => ?_) (fun s => by simp [lazarettoref08_text_L2]) s1 (by omega)) fun s2 h2 => ?_
  · unfold lazarettoref08_text_L2
    dsimp only
    have hn := P.below _ (List.getElem_mem h)
    rw [if_pos (by omega), List.getElem?_eq_getElem h, Option.bind_some]
    exact (lab_get P hn.1).bind fun x hx => Tot.need (by omega) (Tot.need (by omega) ((lab_get P hn.2).bind fun y hy => Tot.need (by omega) (Tot.need (by omega) (Tot.need (by omega) (Tot.mk ⟨_, rfl, by simp only [List.length_append, List.length_cons, List.length_nil]; omega⟩)))))
  refine Tot.bind (put_t (xs := p.Sites) (c := 120) (b := 1500000) (m := 8) P.ns (fun s i h hs hm => ?_) (fun s => by simp [lazarettoref08_text_L3]) s2 (by omega)) fun s3 h3 => ?_
  · unfold lazarettoref08_text_L3
    dsimp only
    have hn := P.sites _ (List.getElem_mem h)
    have hl := hn.name
    rw [if_pos (by omega), List.getElem?_eq_getElem h, Option.bind_some]
    exact Tot.need (by omega) (Tot.need (by omega) ((lab_get P hn.frm).bind fun x hx => Tot.need (by omega) (Tot.need (by omega) ((lab_get P hn.to).bind fun y hy => Tot.need (by omega) (Tot.need (by omega) (Tot.need (by omega) (Tot.mk ⟨_, rfl, by simp only [List.length_append, List.length_cons, List.length_nil]; omega⟩)))))))
  refine Tot.bind (put_t (xs := p.Vars) (c := 300) (b := 1600000) (m := 48) P.nv (fun s i h hs hm => ?_) (fun s => by simp [lazarettoref08_text_L4]) s3 (by omega)) fun s4 h4 => ?_
  · unfold lazarettoref08_text_L4
    dsimp only
    rw [if_pos (by omega), List.getElem?_eq_getElem h, Option.bind_some]
    exact (one_t P (P.vars _ (List.getElem_mem h))).bind fun x hx => Tot.need (by omega) (Tot.mk ⟨_, rfl, by simp only [List.length_append]; omega⟩)
  refine Tot.bind (put_t (xs := p.Blocks) (c := 200) (b := 1700000) (m := 12) P.nb (fun s i h hs hm => ?_) (fun s => by simp [lazarettoref08_text_L5]) s4 (by omega)) fun s5 h5 => ?_
  · unfold lazarettoref08_text_L5
    dsimp only
    have hn := P.blocks _ (List.getElem_mem h)
    have hl := hn.name
    have hk := hn.kind
    rw [if_pos (by omega), List.getElem?_eq_getElem h, Option.bind_some]
    exact Tot.need (by omega) (Tot.need (by omega) (Tot.need (by omega) (Tot.need (by omega) ((lab_get P hn.label).bind fun x hx => Tot.need (by omega) (Tot.need (by omega) (Tot.need (by omega) (Tot.mk ⟨_, rfl, by simp only [List.length_append, List.length_cons, List.length_nil]; omega⟩)))))))
  refine Tot.bind (put_t (xs := p.Tasks) (c := 5000000001000) (b := 1800000) (m := 4) P.nt (fun s i h hs hm => ?_) (fun s => by simp [lazarettoref08_text_L6]) s5 (by omega)) fun s6 h6 => Tot.mk trivial
  unfold lazarettoref08_text_L6
  dsimp only
  rw [if_pos (by omega), List.getElem?_eq_getElem h, Option.bind_some]
  exact (task_t P (T _ (List.getElem_mem h)) (hd _ (List.getElem_mem h))).bind fun x hx => Tot.need (by omega) (Tot.mk ⟨_, rfl, by simp only [List.length_append]; omega⟩)
/-- Whether a program may be: answered, if it is not too deep. -/
theorem check08 (p : api_Program) (hd : ∀ t ∈ p.Tasks, depSs t.Body ≤ 1000) : Tot (lazarettoref08_Check p) fun b => b = true → GoodP p ∧ ∀ t ∈ p.Tasks, GoodT p t := by
  unfold lazarettoref08_Check
  exact (parts_t p).bind fun a ha => Tot.ite (fun h1 => (tasks_t p).bind fun b hb => Tot.ite (fun h2 => (text08_t (ha h1) (hb h2) hd).bind fun _ _ => Tot.mk fun _ => ⟨ha h1, hb h2⟩) fun _ => Tot.mk fun h => by cases h) fun _ => Tot.mk fun h => by cases h
end Go.Lz

end
section
/- P10: names: who is found, how deep terms and statements are, whether all names are there, each once; the laws of chapter 10 in plain words. -/
namespace Go.Lz
set_option linter.unusedVariables false
set_option linter.unusedSimpArgs false
/-! The first of which something holds. -/
def findN {α : Type} (xs : List α) (p : α → Bool) : Int := match xs.findIdx? p with | some i => (i : Int) | none => -1
theorem find_some {α : Type} (n : Nat) (xs : List α) (p : α → Bool) (hn : n = xs.length) (d : α) : (List.range n).find? (fun i => p (xs.getD i d)) = xs.findIdx? p := by
  subst hn
  induction xs with
  | nil => rfl
  | cons x xs ih =>
    rw [List.length_cons, List.range_succ_eq_map, List.find?_cons, List.findIdx?_cons]
    simp only [List.getD_cons_zero]
    cases hp : p x with
    | true => rfl
    | false =>
      rw [List.find?_map, ← ih]
      simp only [Function.comp_def, Nat.succ_eq_add_one, List.getD_cons_succ]
      rfl
theorem loop_index {α : Type} {xs : List α} {p : α → Bool} {f : Nat → Option (Nat ⊕ (Int ⊕ Unit))} (step : ∀ i (hi : i < xs.length), f i = some (if p xs[i] then .inr (.inl (i : Int)) else .inl (i + 1))) (last : f xs.length = some (.inr (.inr ()))) :
    (loop f 0).bind (fun e => match e with | .inl e => some e | .inr () => some (-1)) = some (findN xs p) := by
  cases xs with
  | nil => rw [show loop f 0 = _ from loop_inr last]; rfl
  | cons x r =>
    generalize hx : x :: r = xs at step last ⊢
    rw [loop_first xs.length (fun i => p (xs.getD i x)) (fun i => .inl (i : Int)) (.inr ()) (fun i hi => by
      rw [step i hi]; simp [List.getD_eq_getElem?_getD, hi]) last, find_some _ _ _ rfl]
    unfold findN
    cases xs.findIdx? p <;> rfl
def varN (p : api_Program) (name : Str) : Int := findN p.Vars fun v => decide (v.Name = name)
def blockN (p : api_Program) (name : Str) : Int := findN p.Blocks fun v => decide (v.Name = name)
def siteN (p : api_Program) (name : Str) : Int := findN p.Sites fun v => decide (v.Name = name)
theorem refVar (p : api_Program) (name : Str) : lazarettoref10_Var p name = some (varN p name) :=
  loop_index (fun i hi => by by_cases h : p.Vars[i].Name = name <;> simp [lazarettoref10_Var_L1, hi, h]) (by simp [lazarettoref10_Var_L1])
theorem refBlock (p : api_Program) (name : Str) : lazarettoref10_Block p name = some (blockN p name) :=
  loop_index (fun i hi => by by_cases h : p.Blocks[i].Name = name <;> simp [lazarettoref10_Block_L1, hi, h]) (by simp [lazarettoref10_Block_L1])
theorem refSite (p : api_Program) (name : Str) : lazarettoref10_Site p name = some (siteN p name) :=
  loop_index (fun i hi => by by_cases h : p.Sites[i].Name = name <;> simp [lazarettoref10_Site_L1, hi, h]) (by simp [lazarettoref10_Site_L1])

/-! How deep terms and statements are. -/
theorem depEs_le {d : Nat} : ∀ {l : List api_Expr}, (∀ (i : Nat) (h : i < l.length), depE l[i] ≤ d) → depEs l ≤ d
  | [], _ => by simp [depEs]
  | e :: es, h => by
    have h1 := h 0 (by simp)
    have h2 := depEs_le (l := es) (fun i hi => h (i + 1) (by simpa using hi))
    simp only [depEs, List.getElem_cons_zero] at h1 ⊢; omega
theorem depSs_le {d : Nat} : ∀ {l : List api_Stmt}, (∀ (i : Nat) (h : i < l.length), depS l[i] ≤ d) → depSs l ≤ d
  | [], _ => by simp [depSs]
  | e :: es, h => by
    have h1 := h 0 (by simp)
    have h2 := depSs_le (l := es) (fun i hi => h (i + 1) (by simpa using hi))
    simp only [depSs, List.getElem_cons_zero] at h1 ⊢; omega
theorem w64_pred {n : Int} (h1 : 0 ≤ n) (h2 : n ≤ 1000000) : w64 (n - 1) = n - 1 := by rw [w64_eq]; omega
/-- The measure of a term answers; what it lets in is not too deep. -/
theorem few06 : ∀ (d fuel : Nat), d < fuel → d ≤ 1000 → ∀ (e : api_Expr) (left : Int), ∃ r, lazarettolaw06_Few_g fuel e (d : Int) left = some r ∧ (0 ≤ r → depE e ≤ d)
  | d, 0, h, _, _, _ => by omega
  | 0, fuel + 1, _, _, e, left => ⟨-1, by simp [lazarettolaw06_Few_g, lazarettolaw06_Few_b], by omega⟩
  | d + 1, fuel + 1, h, hd, e, left => by
    have e1 : w64 (((d + 1 : Nat) : Int) - 1) = (d : Int) := by rw [w64_pred (by omega) (by omega)]; omega
    have e2 : ¬ (((d + 1 : Nat) : Int) < 1) := by omega
    simp only [lazarettolaw06_Few_g, lazarettolaw06_Few_b, e2, if_false]
    generalize w64 (left - (w64 ((w64 (1 + (e.Args.length : Int))) + (w64 ((e.Name.length : Int).tdiv 100))))) = l0
    by_cases hl : l0 < 0
    · exact ⟨-1, by simp [hl], by omega⟩
    simp only [hl, if_false]
    obtain ⟨r, hr, hR⟩ := loop_inv (f := lazarettolaw06_Few_L1 (lazarettolaw06_Few_g fuel) e ((d + 1 : Nat) : Int)) (fun s => s.2 ≤ e.Args.length ∧ (0 ≤ s.1 → ∀ (j : Nat) (h : j < e.Args.length), j < s.2 → depE e.Args[j] ≤ d))
      (fun r => 0 ≤ r → depE e ≤ d + 1) (fun s => e.Args.length - s.2) (fun ⟨left, i⟩ ⟨hi, hI⟩ => by
        simp only at hi hI
        by_cases h1 : i < e.Args.length
        · by_cases h2 : 0 ≤ left
          · obtain ⟨r, hr, hR⟩ := few06 d fuel (by omega) (by omega) e.Args[i] left
            refine .inl ⟨(r, i + 1), ?_, ⟨h1, fun h0 j hj hji => ?_⟩, by simp only; omega⟩
            · simp only [lazarettolaw06_Few_L1, Int.ofNat_lt, h1, h2, if_true, List.getElem?_eq_getElem h1, Option.bind_some, e1, hr]
            · by_cases hj2 : j = i
              · subst hj2; exact hR h0
              · exact hI h2 j hj (by omega)
          · exact .inr ⟨left, by simp [lazarettolaw06_Few_L1, h1, h2], fun h => (h2 h).elim⟩
        · refine .inr ⟨left, by simp [lazarettolaw06_Few_L1, h1], fun h => ?_⟩
          rw [depE_eq]
          have := depEs_le (fun j hj => hI h j hj (by omega))
          omega) (l0, 0) ⟨Nat.zero_le _, fun _ j _ hj => by simp at hj⟩
    exact ⟨r, by rw [hr]; rfl, hR⟩
theorem few06_60 (e : api_Expr) (left : Int) : ∃ r, lazarettolaw06_Few e 60 left = some r ∧ (0 ≤ r → depE e ≤ 60) := few06 60 1000000 (by omega) (by omega) e left
theorem few07 : ∀ (d fuel : Nat), d + 1 < fuel → d ≤ 1000 → ∀ (l : List api_Stmt) (left : Int), ∃ r, lazarettolaw07_Few_g fuel l (d : Int) left = some r ∧ (0 ≤ r → depSs l ≤ d + 60)
  | d, 0, h, _, _, _ => by omega
  | d, fuel + 1, h, hd, [], left => by
    simp only [lazarettolaw07_Few_g, lazarettolaw07_Few_b, List.length_nil]
    have e0 : ¬ (0 < ((0 : Nat) : Int)) := by omega
    simp only [e0, if_false]
    generalize w64 (left - ((0 : Nat) : Int)) = l0
    by_cases hl : l0 < 0
    · exact ⟨-1, by simp [hl], by omega⟩
    · refine ⟨l0, ?_, fun _ => by simp [depSs]⟩
      simp only [hl, if_false]
      rw [loop_inr (r := l0) (by simp [lazarettolaw07_Few_L2])]; rfl
  | 0, fuel + 1, _, _, s :: l, left => ⟨-1, by simp [lazarettolaw07_Few_g, lazarettolaw07_Few_b], by omega⟩
  | d + 1, fuel + 1, h, hd, s :: l, left => by
    generalize hl' : s :: l = ll
    have e1 : w64 (((d + 1 : Nat) : Int) - 1) = (d : Int) := by rw [w64_pred (by omega) (by omega)]; omega
    have e2 : ¬ (((d + 1 : Nat) : Int) < 1) := by omega
    have e3 : 0 < (ll.length : Int) := by subst hl'; simp
    simp only [lazarettolaw07_Few_g, lazarettolaw07_Few_b, e2, e3, if_true, if_false]
    generalize w64 (left - (ll.length : Int)) = l0
    by_cases hl : l0 < 0
    · exact ⟨-1, by simp [hl], by omega⟩
    simp only [hl, if_false]
    obtain ⟨r, hr, hR⟩ := loop_inv (f := lazarettolaw07_Few_L1 (lazarettolaw07_Few_g fuel) ll ((d + 1 : Nat) : Int)) (fun s => s.2 ≤ ll.length ∧ (0 ≤ s.1 → ∀ (j : Nat) (h : j < ll.length), j < s.2 → depS ll[j] ≤ d + 1 + 60))
      (fun r => 0 ≤ r → depSs ll ≤ d + 1 + 60) (fun s => ll.length - s.2) (fun ⟨left, i⟩ ⟨hi, hI⟩ => by
        simp only at hi hI
        by_cases h1 : i < ll.length
        · by_cases h2 : 0 ≤ left
          · generalize hs : ll[i] = s at *
            have next : ∀ r : Int, (0 ≤ r → depS s ≤ d + 1 + 60) → (i + 1 ≤ ll.length ∧ (0 ≤ r → ∀ (j : Nat) (h : j < ll.length), j < i + 1 → depS ll[j] ≤ d + 1 + 60)) := fun r hr => ⟨h1, fun h0 j hj hji => by
              by_cases hj2 : j = i
              · subst hj2; rw [hs]; exact hr h0
              · exact hI h2 j hj (by omega)⟩
            obtain ⟨r1, hr1, hR1⟩ := few06_60 s.Target (w64 (left - (w64 ((s.Name.length : Int).tdiv 100))))
            have base : lazarettolaw07_Few_L1 (lazarettolaw07_Few_g fuel) ll ((d + 1 : Nat) : Int) (left, i) = lazarettolaw07_Few_L1 (lazarettolaw07_Few_g fuel) ll ((d + 1 : Nat) : Int) (left, i) := rfl
            conv at base => rhs; simp only [lazarettolaw07_Few_L1, Int.ofNat_lt, h1, h2, if_true, List.getElem?_eq_getElem h1, Option.bind_some, hs, hr1, e1]
            by_cases k1 : 0 ≤ r1
            case neg => exact .inl ⟨(r1, i + 1), by rw [base]; simp [k1], next r1 (fun h => (k1 h).elim), by simp only; omega⟩
            obtain ⟨r2, hr2, hR2⟩ := few06_60 s.Value r1
            simp only [k1, if_true, hr2, Option.bind_some] at base
            by_cases k2 : 0 ≤ r2
            case neg => exact .inl ⟨(r2, i + 1), by rw [base]; simp [k2], next r2 (fun h => (k2 h).elim), by simp only; omega⟩
            obtain ⟨r3, hr3, hR3⟩ := few06_60 (⟨0, 0, 0, [], s.Args⟩ : api_Expr) r2
            simp only [k2, if_true, hr3, Option.bind_some] at base
            by_cases k3 : 0 ≤ r3
            case neg => exact .inl ⟨(r3, i + 1), by rw [base]; simp [k3], next r3 (fun h => (k3 h).elim), by simp only; omega⟩
            obtain ⟨r4, hr4, hR4⟩ := few07 d fuel (by omega) (by omega) s.Body r3
            simp only [k3, if_true, hr4, Option.bind_some] at base
            by_cases k4 : 0 ≤ r4
            case neg => exact .inl ⟨(r4, i + 1), by rw [base]; simp [k4], next r4 (fun h => (k4 h).elim), by simp only; omega⟩
            obtain ⟨r5, hr5, hR5⟩ := few07 d fuel (by omega) (by omega) s.Else r4
            simp only [k4, if_true, hr5, Option.bind_some] at base
            refine .inl ⟨(r5, i + 1), base, next r5 (fun h0 => ?_), by simp only; omega⟩
            have a1 := hR1 k1; have a2 := hR2 k2; have a3 := hR3 k3; have a4 := hR4 k4; have a5 := hR5 h0
            rw [depE_eq] at a3
            rw [depS_eq]
            simp only at a3
            omega
          · exact .inr ⟨left, by simp [lazarettolaw07_Few_L1, h1, h2], fun h => (h2 h).elim⟩
        · exact .inr ⟨left, by simp [lazarettolaw07_Few_L1, h1], fun h => depSs_le (fun j hj => hI h j hj (by omega))⟩) (l0, 0) ⟨Nat.zero_le _, fun _ j _ hj => by simp at hj⟩
    exact ⟨r, by rw [hr]; rfl, hR⟩
theorem few07_60 (l : List api_Stmt) (left : Int) : ∃ r, lazarettolaw07_Few l 60 left = some r ∧ (0 ≤ r → depSs l ≤ 120) := few07 60 1000000 (by omega) (by omega) l left
theorem few08 (p : api_Program) : lazarettolaw08_Few p = some 0 ∨ (lazarettolaw08_Few p = some 1 ∧ ∀ t ∈ p.Tasks, depSs t.Body ≤ 120) := by
  unfold lazarettolaw08_Few
  split
  · exact .inl rfl
  split
  · exact .inl rfl
  obtain ⟨r, hr, hR⟩ := loop_inv (f := lazarettolaw08_Few_L1 p) (fun i => i ≤ p.Tasks.length ∧ ∀ (j : Nat) (h : j < p.Tasks.length), j < i → depSs p.Tasks[j].Body ≤ 120)
    (fun r => r = .inl 0 ∨ (r = .inr () ∧ ∀ t ∈ p.Tasks, depSs t.Body ≤ 120)) (fun i => p.Tasks.length - i) (fun i ⟨hi, hI⟩ => by
      by_cases h1 : i < p.Tasks.length
      · by_cases h2 : 100 < (p.Tasks[i].Budget.length : Int)
        · exact .inr ⟨.inl 0, by simp [lazarettolaw08_Few_L1, h1, h2], .inl rfl⟩
        · obtain ⟨r, hr, hR⟩ := few07_60 p.Tasks[i].Body 2000
          have h2' : ¬ (100 < p.Tasks[i].Budget.length) := by omega
          by_cases h3 : r < 0
          · exact .inr ⟨.inl 0, by simp [lazarettolaw08_Few_L1, h1, h2, h2', hr, h3], .inl rfl⟩
          · refine .inl ⟨i + 1, by simp [lazarettolaw08_Few_L1, h1, h2, h2', hr, h3], ⟨h1, fun j hj hji => ?_⟩, by omega⟩
            by_cases hj2 : j = i
            · subst hj2; exact hR (by omega)
            · exact hI j hj (by omega)
      · refine .inr ⟨.inr (), by simp [lazarettolaw08_Few_L1, h1], .inr ⟨rfl, fun t ht => ?_⟩⟩
        obtain ⟨j, hj, rfl⟩ := List.getElem_of_mem ht
        exact hI j hj (by omega)) 0 ⟨Nat.zero_le _, fun j _ hj => by simp at hj⟩
  rw [hr]
  rcases hR with rfl | ⟨rfl, hR⟩
  · exact .inl rfl
  · exact .inr ⟨rfl, hR⟩

/-! Whether all names are there. -/
def atOk (p : api_Program) (op : Int) (name : Str) : Bool :=
  if op = 2 ∨ op = 3 then decide (0 ≤ varN p name) else if op = 4 then decide (0 ≤ blockN p name) else if op = 21 then decide (0 ≤ siteN p name) else true
mutual
def knownN (p : api_Program) : api_Expr → Bool
  | ⟨op, _, _, name, args⟩ => atOk p op name && knownAll p args
def knownAll (p : api_Program) : List api_Expr → Bool
  | [] => true
  | e :: es => knownN p e && knownAll p es
end
def ownOk (p : api_Program) (kind : Int) (name : Str) : Bool :=
  if kind = 4 then decide (0 ≤ varN p name) else if kind = 5 then decide (0 ≤ blockN p name) else true
mutual
def stmtN (p : api_Program) : api_Stmt → Bool
  | ⟨kind, name, target, value, args, body, els⟩ => ownOk p kind name && knownN p target && knownN p value && knownAll p args && stmtsN p body && stmtsN p els
def stmtsN (p : api_Program) : List api_Stmt → Bool
  | [] => true
  | e :: es => stmtN p e && stmtsN p es
end
theorem knownN_eq (p : api_Program) (e : api_Expr) : knownN p e = (atOk p e.Op e.Name && knownAll p e.Args) := by cases e; rw [knownN]
theorem stmtN_eq (p : api_Program) (s : api_Stmt) : stmtN p s = (ownOk p s.Kind s.Name && knownN p s.Target && knownN p s.Value && knownAll p s.Args && stmtsN p s.Body && stmtsN p s.Else) := by cases s; rw [stmtN]
/-! Each name once. -/
def allNames (p : api_Program) : List Str := p.Vars.map (·.Name) ++ (p.Blocks.map (·.Name) ++ p.Sites.map (·.Name))
/-! The laws. -/
end Go.Lz

end
section
/- P10b: the reference's check of names is answered; what it lets in. -/
namespace Go.Lz
set_option linter.unusedVariables false
set_option linter.unusedSimpArgs false
theorem knownAll_all (p : api_Program) : ∀ l : List api_Expr, knownAll p l = l.all (knownN p)
  | [] => rfl
  | e :: es => by rw [knownAll, List.all_cons, knownAll_all p es]
theorem stmtsN_all (p : api_Program) : ∀ l : List api_Stmt, stmtsN p l = l.all (stmtN p)
  | [] => rfl
  | e :: es => by rw [stmtsN, List.all_cons, stmtsN_all p es]
theorem refTerms_step (p : api_Program) (l : List api_Expr) (n : Nat) (ih : ∀ x ∈ l, (lazarettoref10_term_g n).1 p x = some (knownN p x)) : (lazarettoref10_term_g (n + 1)).2 p l = some (knownAll p l) := by
  show lazarettoref10_terms_b (lazarettoref10_term_g n).1 (lazarettoref10_term_g n).2 p l = _
  unfold lazarettoref10_terms_b
  rw [loop_all (xs := l) (p := knownN p) (a := .inl false) (b := .inr ()) (fun i h => by
    simp only [lazarettoref10_terms_L1, Int.ofNat_lt, h, if_true, List.getElem?_eq_getElem h, Option.bind_some, ih _ (List.getElem_mem h)]
    split <;> rfl) (by simp [lazarettoref10_terms_L1]), knownAll_all]
  cases l.all (knownN p) <;> rfl
theorem refTerm_ok (p : api_Program) : ∀ (n : Nat) (e : api_Expr), 2 * depE e ≤ n → (lazarettoref10_term_g n).1 p e = some (knownN p e)
  | 0, e, h => by rw [depE_eq] at h; omega
  | 1, e, h => by rw [depE_eq] at h; omega
  | n + 2, e, h => by
    rw [depE_eq] at h
    have ha := refTerms_step p e.Args n fun x hx => refTerm_ok p n x (by have := depEs_mem hx; omega)
    show lazarettoref10_term_b (lazarettoref10_term_g (n + 1)).1 (lazarettoref10_term_g (n + 1)).2 p e = _
    unfold lazarettoref10_term_b
    simp only [ha, refVar, refBlock, refSite, Option.bind_some, knownN_eq, atOk]
    by_cases h2 : e.Op = 2
    · by_cases hv : varN p e.Name < 0
      · simp [h2, hv, show ¬ 0 ≤ varN p e.Name by omega]
      · simp [h2, hv, show 0 ≤ varN p e.Name by omega]
    by_cases h3 : e.Op = 3
    · by_cases hv : varN p e.Name < 0
      · simp [h3, hv, show ¬ 0 ≤ varN p e.Name by omega]
      · simp [h3, hv, show 0 ≤ varN p e.Name by omega]
    by_cases h4 : e.Op = 4
    · by_cases hv : blockN p e.Name < 0
      · simp [h4, hv, show ¬ 0 ≤ blockN p e.Name by omega]
      · simp [h4, hv, show 0 ≤ blockN p e.Name by omega]
    by_cases h5 : e.Op = 21
    · by_cases hv : siteN p e.Name < 0
      · simp [h5, hv, show ¬ 0 ≤ siteN p e.Name by omega]
      · simp [h5, hv, show 0 ≤ siteN p e.Name by omega]
    simp [h2, h3, h4, h5]
theorem refTerm {p : api_Program} {e : api_Expr} (h : depE e ≤ 1000) : lazarettoref10_term p e = some (knownN p e) := refTerm_ok p 1000000 e (by omega)
theorem refTerms {p : api_Program} {l : List api_Expr} (h : depEs l ≤ 1000) : lazarettoref10_terms p l = some (knownAll p l) :=
  refTerms_step p l 999999 fun x hx => refTerm_ok p _ x (by have := depEs_mem hx; omega)
theorem refStmts_ok (p : api_Program) : ∀ (n : Nat) (l : List api_Stmt), depSs l + 1 ≤ n → depSs l ≤ 1000 → lazarettoref10_stmts_g n p l = some (stmtsN p l)
  | 0, l, h, _ => by omega
  | n + 1, l, h, hd => by
    show lazarettoref10_stmts_b (lazarettoref10_stmts_g n) p l = _
    unfold lazarettoref10_stmts_b
    rw [loop_all (xs := l) (p := stmtN p) (a := .inl false) (b := .inr ()) (fun i hi => ?_) (by simp [lazarettoref10_stmts_L1]), stmtsN_all]
    · cases l.all (stmtN p) <;> rfl
    · simp only [lazarettoref10_stmts_L1, Int.ofNat_lt, hi, if_true, List.getElem?_eq_getElem hi, Option.bind_some]
      have dx := depSs_mem (List.getElem_mem hi)
      generalize l[i] = x at dx
      rw [depS_eq] at dx
      rw [refStmts_ok p n x.Body (by omega) (by omega), refStmts_ok p n x.Else (by omega) (by omega), refTerm (e := x.Target) (by omega), refTerm (e := x.Value) (by omega), refTerms (l := x.Args) (by omega)]
      simp only [refVar, refBlock, Option.bind_some, stmtN_eq, ownOk]
      generalize knownN p x.Target = b1
      generalize knownN p x.Value = b2
      generalize knownAll p x.Args = b3
      generalize stmtsN p x.Body = b4
      generalize stmtsN p x.Else = b5
      by_cases h4 : x.Kind = 4
      · by_cases hv : varN p x.Name < 0
        · simp [h4, hv, show ¬ 0 ≤ varN p x.Name by omega]
        · simp [h4, hv, show 0 ≤ varN p x.Name by omega]
          cases b1 <;> cases b2 <;> cases b3 <;> cases b4 <;> cases b5 <;> rfl
      by_cases h5 : x.Kind = 5
      · by_cases hv : blockN p x.Name < 0
        · simp [h5, hv, show ¬ 0 ≤ blockN p x.Name by omega]
        · simp [h5, hv, show 0 ≤ blockN p x.Name by omega]
          cases b1 <;> cases b2 <;> cases b3 <;> cases b4 <;> cases b5 <;> rfl
      simp only [h4, h5, if_false]
      cases b1 <;> cases b2 <;> cases b3 <;> cases b4 <;> cases b5 <;> rfl
theorem refStmts {p : api_Program} {l : List api_Stmt} (h : depSs l ≤ 1000) : lazarettoref10_stmts p l = some (stmtsN p l) := refStmts_ok p 1000000 l (by omega) h
theorem putN_t {α : Type} {xs : List α} {g : α → Str} {f : List Str × Nat → Option ((List Str × Nat) ⊕ List Str)} (h : xs.length ≤ 1000) (step : ∀ l i (h : i < xs.length), f (l, i) = need ((l.length + 1) * 16 ≤ 140737488355328) (some (.inl (l ++ [g xs[i]], i + 1)))) (last : ∀ l, f (l, xs.length) = some (.inr l)) (l0 : List Str) (h0 : l0.length ≤ 10000) :
    Tot (loop f (l0, 0)) fun r => r.length ≤ l0.length + 1000 := by
  refine Tot.loop (fun x => x.2 ≤ xs.length ∧ x.1.length ≤ l0.length + x.2) (fun x => xs.length - x.2) ⟨Nat.zero_le _, by simp⟩ fun ⟨l, i⟩ ⟨hi, hI⟩ => ?_
  simp only at hi hI
  by_cases h' : i < xs.length
  · rw [step l i h']
    exact Tot.need (by omega) (Tot.mk ⟨⟨h', by simp only [List.length_append, List.length_singleton]; omega⟩, by simp only; omega⟩)
  · have : i = xs.length := by omega
    subst this
    exact ⟨_, last l, show l.length ≤ _ by omega⟩
theorem check10 (p : api_Program) (hv : p.Vars.length ≤ 1000) (hb : p.Blocks.length ≤ 1000) (hs : p.Sites.length ≤ 1000) (hd : ∀ t ∈ p.Tasks, depSs t.Body ≤ 1000) : Tot (lazarettoref10_Check p) fun r => r = 0 → ∀ t ∈ p.Tasks, stmtsN p t.Body = true := by
  unfold lazarettoref10_Check
  refine (putN_t (g := (·.Name)) hv (fun l i h => by simp only [lazarettoref10_Check_L1, Int.ofNat_lt, h, if_true, List.getElem?_eq_getElem h, Option.bind_some]) (fun l => by simp [lazarettoref10_Check_L1]) [] (by simp)).bind fun l1 h1 => ?_
  simp only [List.length_nil] at h1
  refine (putN_t (g := (·.Name)) hb (fun l i h => by simp only [lazarettoref10_Check_L2, Int.ofNat_lt, h, if_true, List.getElem?_eq_getElem h, Option.bind_some]) (fun l => by simp [lazarettoref10_Check_L2]) l1 (by omega)).bind fun l2 h2 => ?_
  refine (putN_t (g := (·.Name)) hs (fun l i h => by simp only [lazarettoref10_Check_L3, Int.ofNat_lt, h, if_true, List.getElem?_eq_getElem h, Option.bind_some]) (fun l => by simp [lazarettoref10_Check_L3]) l2 (by omega)).bind fun l3 h3 => ?_
  refine Tot.bind (Tot.loop (fun i => i ≤ l3.length) (R := fun r => match r with | .inl r => r = 5 | .inr () => True) (fun i => l3.length - i) (Nat.zero_le _) fun i hi => ?_) fun r hr => ?_
  · unfold lazarettoref10_Check_L4
    refine Tot.ite (fun h => ?_) fun _ => Tot.mk trivial
    have h' : i < l3.length := by omega
    refine Tot.bind (Tot.loop (fun k => k ≤ i) (R := fun r => match r with | .inl r => r = 5 | .inr () => True) (fun k => i - k) (Nat.zero_le _) fun k hk => ?_) fun r hr => ?_
    · unfold lazarettoref10_Check_L5
      refine Tot.ite (fun h => ?_) fun _ => Tot.mk trivial
      have hk' : k < i := by omega
      exact (Tot.get h').bind fun x _ => (Tot.get (by omega)).bind fun y _ => Tot.ite (fun _ => Tot.mk rfl) fun _ => Tot.mk ⟨hk', by simp only; omega⟩
    · cases r with
      | inl r => exact Tot.mk hr
      | inr r => exact Tot.mk ⟨h', by simp only; omega⟩
  cases r with
  | inl r =>
    simp only at hr
    subst hr
    exact Tot.mk fun h => by cases h
  | inr r =>
    simp only
    rw [loop_all (xs := p.Tasks) (p := fun t => stmtsN p t.Body) (a := .inl 5) (b := .inr ()) (fun i h => by
      simp only [lazarettoref10_Check_L6, Int.ofNat_lt, h, if_true, List.getElem?_eq_getElem h, Option.bind_some, refStmts (hd _ (List.getElem_mem h))]
      split <;> rfl) (by simp [lazarettoref10_Check_L6])]
    cases hall : p.Tasks.all fun t => stmtsN p t.Body with
    | true => exact Tot.mk fun _ => List.all_eq_true.1 hall
    | false => exact Tot.mk fun h => by cases h
end Go.Lz

end
section
/- P12b: statements and programs, in the program and in the reference: the same kinds; the laws of chapter 12 in plain words. -/
namespace Go.Lz
set_option linter.unusedVariables false
set_option linter.unusedSimpArgs false
theorem not_all_any {α : Type} (l : List α) (q : α → Bool) : (!l.all fun x => !q x) = l.any q := by
  induction l with
  | nil => rfl
  | cons x xs ih => rw [List.all_cons, List.any_cons, ← ih]; cases q x <;> simp
mutual
def setsS (name : Str) : api_Stmt → Bool
  | ⟨kind, nm, target, _, _, body, els⟩ => (decide (kind = 1) && decide (target.Name = name)) || (decide (kind = 4) && decide (nm = name)) || setsL name body || setsL name els
def setsL (name : Str) : List api_Stmt → Bool
  | [] => false
  | s :: ss => setsS name s || setsL name ss
end
theorem setsS_eq (name : Str) (s : api_Stmt) : setsS name s = ((decide (s.Kind = 1) && decide (s.Target.Name = name)) || (decide (s.Kind = 4) && decide (s.Name = name)) || setsL name s.Body || setsL name s.Else) := by cases s; rw [setsS]
theorem setsL_any (name : Str) : ∀ l : List api_Stmt, setsL name l = l.any (setsS name)
  | [] => rfl
  | e :: es => by rw [setsL, List.any_cons, setsL_any name es]
theorem sets2_ok (name : Str) : ∀ (n : Nat) (l : List api_Stmt), depSs l + 1 ≤ n → lazarettoref12_sets_g n l name = some (setsL name l)
  | 0, l, h => by omega
  | n + 1, l, h => by
    show lazarettoref12_sets_b (lazarettoref12_sets_g n) l name = _
    unfold lazarettoref12_sets_b
    rw [loop_all (xs := l) (p := fun x => !setsS name x) (a := .inl true) (b := .inr ()) (fun i hi => ?_) (by simp [lazarettoref12_sets_L1]), setsL_any, ← not_all_any]
    · cases l.all fun x => !setsS name x <;> rfl
    · simp only [lazarettoref12_sets_L1, Int.ofNat_lt, hi, if_true, List.getElem?_eq_getElem hi, Option.bind_some]
      have dx := depSs_mem (List.getElem_mem hi)
      generalize l[i] = x at dx
      rw [depS_eq] at dx
      rw [sets2_ok name n x.Body (by omega), sets2_ok name n x.Else (by omega), setsS_eq]
      simp only [Option.bind_some]
      by_cases k1 : x.Kind = 1
      · by_cases t : x.Target.Name = name
        · simp [k1, t]
        · simp [k1, t]; cases setsL name x.Body <;> cases setsL name x.Else <;> rfl
      by_cases k4 : x.Kind = 4
      · by_cases t : x.Name = name
        · simp [k4, t]
        · simp [k4, t]; cases setsL name x.Body <;> cases setsL name x.Else <;> rfl
      simp [k1, k4]; cases setsL name x.Body <;> cases setsL name x.Else <;> rfl
/-! Variables, blocks and tasks. -/
structure GoodAll (p : api_Program) : Prop where
  P : GoodP p
  T : ∀ t ∈ p.Tasks, GoodT p t
  d : ∀ t ∈ p.Tasks, depSs t.Body ≤ 1000
/-! The laws. -/
/-! The chapter's examples. -/
abbrev oneP (v : api_Expr) : api_Program := ⟨⟨[[97]], []⟩, [], [⟨[120], ⟨2, 0, 0⟩, 0, 0, 0⟩], [], [⟨1, 0, [1], [⟨1, [], ⟨2, 0, 0, [120], []⟩, v, [], [], []⟩]⟩]⟩
end Go.Lz

end
section
/- P12 (r8): the reference's check of kinds answers for whatever program is well formed. -/
namespace Go.Lz
set_option linter.unusedVariables false
set_option linter.unusedSimpArgs false
theorem outs_t (s : Str) : Tot (lazarettoref11_Outputs s) fun l => (∀ k ∈ l, 0 ≤ k) ∧ l.length ≤ 5 := by
  unfold lazarettoref11_Outputs
  repeat' (first | exact Tot.mk (by decide) | refine Tot.ite (fun _ => ?_) (fun _ => ?_))
theorem ins_t (s : Str) : Tot (lazarettoref11_Inputs s) fun l => (∀ k ∈ l, 0 ≤ k) ∧ l.length ≤ 5 := by
  unfold lazarettoref11_Inputs
  repeat' (first | exact Tot.mk (by decide) | refine Tot.ite (fun _ => ?_) (fun _ => ?_))
theorem result_r (op k : Int) : Tot (lazarettoref03_Result op k) fun r => 0 ≤ r := by
  unfold lazarettoref03_Result
  refine (bits_t k).bind fun b hb => Tot.ite (fun _ => Tot.mk (by omega)) fun h0 => ?_
  have := hb h0
  repeat' (first | exact Tot.mk (by omega) | refine Tot.ite (fun _ => ?_) (fun _ => ?_))
/-- A place that is found. -/
theorem find_at {α : Type} {xs : List α} {p : α → Bool} (h : 0 ≤ findN xs p) : Tot (idx xs (findN xs p)) fun x => x ∈ xs ∧ p x = true := by
  unfold findN at h ⊢
  cases hf : xs.findIdx? p with
  | none => rw [hf] at h; simp only at h; omega
  | some i =>
    obtain ⟨hi, hp, _⟩ := List.findIdx?_eq_some_iff_getElem.1 hf
    exact ⟨xs[i], by simp only; rw [idx_nat]; exact List.getElem?_eq_getElem hi, List.getElem_mem hi, hp⟩
theorem var_at {p : api_Program} {name : Str} (h : ¬ varN p name < 0) : Tot (idx p.Vars (varN p name)) fun x => x ∈ p.Vars := (find_at (by unfold varN at h; omega)).imp fun _ h => h.1
theorem block_at {p : api_Program} {name : Str} (h : ¬ blockN p name < 0) : Tot (idx p.Blocks (blockN p name)) fun x => x ∈ p.Blocks := (find_at (by unfold blockN at h; omega)).imp fun _ h => h.1
theorem kind_t {p : api_Program} (P : GoodP p) : ∀ (n : Nat) (e : api_Expr), fmE e → depE e ≤ n → Tot (lazarettoref12_Expr_g n p e) fun k => 0 ≤ k
  | 0, e, _, h => by rw [depE_eq] at h; omega
  | n + 1, e, ok, h => by
    have F := fmE_form ok
    rw [fmE_eq] at ok
    rw [depE_eq] at h
    have ops := F.ops
    have sub : ∀ x ∈ e.Args, Tot (lazarettoref12_Expr_g n p x) fun k => 0 ≤ k := fun x hx => kind_t P n x (fmEs_mem ok.2 x hx) (by have := depEs_mem hx; omega)
    show Tot (lazarettoref12_Expr_b (lazarettoref12_Expr_g n) p e) _
    unfold lazarettoref12_Expr_b
    simp only [refVar, refBlock, refSite, Option.bind_some]
    refine Tot.ite (fun h1 => Tot.mk (by omega)) fun h1 => Tot.ite (fun h2 => ?_) fun h2 => Tot.ite (fun h3 => ?_) fun h3 => Tot.ite (fun h4 => ?_) fun h4 => Tot.ite (fun h21 => ?_) fun h21 => ?_
    · refine Tot.ite (fun _ => Tot.mk (by omega)) fun hv => (var_at hv).bind fun v hv => ?_
      have hk := (P.vars v hv).kind
      exact Tot.ite (fun _ => Tot.ite (fun _ => by omega) fun _ => Tot.mk (by omega)) fun _ => Tot.mk (by omega)
    · refine Tot.ite (fun _ => Tot.mk (by omega)) fun hv => (var_at hv).bind fun v hv => ?_
      have hk := (P.vars v hv).kind
      exact Tot.ite (fun _ => (Tot.get (by omega)).bind fun x hx => (sub x hx.1).bind fun k _ => Tot.ite (fun _ => Tot.mk (by omega)) fun _ => Tot.mk (by omega)) fun _ => Tot.mk (by omega)
    · exact Tot.ite (fun _ => Tot.mk (by omega)) fun hv => (block_at hv).bind fun v hv => (outs_t _).bind fun l hl => Tot.ite (fun _ => Tot.mk (by omega)) fun a => Tot.ite (fun _ => Tot.mk (by omega)) fun b => (Tot.idx (by omega) (by omega)).bind fun x hx => Tot.mk (hl.1 x hx)
    · exact Tot.ite (fun _ => Tot.mk (by omega)) fun _ => (Tot.get (by omega)).bind fun x hx => (sub x hx.1).bind fun k hk => Tot.mk hk
    · exact (Tot.get (by omega)).bind fun x hx => (sub x hx.1).bind fun k hk => Tot.ite (fun h => (Tot.get (by omega)).bind fun y hy => (sub y hy.1).bind fun m _ => Tot.ite (fun _ => (result_r _ _).bind fun r hr => Tot.mk hr) fun _ => Tot.mk (by omega)) fun _ => (result_r _ _).bind fun r hr => Tot.mk hr
noncomputable def kindN (p : api_Program) (e : api_Expr) : Int := (lazarettoref12_Expr p e).getD 0
theorem kind_ok {p : api_Program} (P : GoodP p) {e : api_Expr} (ok : fmE e) (h : depE e ≤ 1000) : lazarettoref12_Expr p e = some (kindN p e) ∧ 0 ≤ kindN p e := by
  obtain ⟨k, h2, h0⟩ := kind_t P 1000000 e ok (by omega)
  have h2' : lazarettoref12_Expr p e = some k := h2
  have e1 : kindN p e = k := by unfold kindN; rw [h2']; rfl
  exact ⟨by rw [e1]; exact h2', by rw [e1]; exact h0⟩
theorem good_kind {p : api_Program} (P : GoodP p) {e : api_Expr} (g : GoodE e) : lazarettoref12_Expr p e = some (kindN p e) ∧ 0 ≤ kindN p e := kind_ok P g.ok (by have := g.dep; omega)
theorem kindE {p : api_Program} (P : GoodP p) {e : api_Expr} (g : GoodE e) : Tot (lazarettoref12_Expr p e) fun k => 0 ≤ k := ⟨_, (good_kind P g).1, (good_kind P g).2⟩
theorem sets_t {name : Str} {l : List api_Stmt} (h : depSs l ≤ 1000) : Tot (lazarettoref12_sets l name) fun _ => True := ⟨_, sets2_ok name 1000000 l (by omega), trivial⟩
theorem loop_t {p : api_Program} (P : GoodP p) {s : api_Stmt} (F : FormS s) (k4 : s.Kind = 4) (hd : depSs s.Body ≤ 1000) : Tot (lazarettoref12_loop p s) fun _ => True := by
  have hl : s.Args.length = 2 := by have := F.kinds; omega
  unfold lazarettoref12_loop
  simp only [refVar, Option.bind_some]
  have key : ∀ k : Int, Tot ((s.Args[0]?).bind fun x_3 => (lazarettoref12_Expr p x_3).bind fun r_4 => if r_4 = k then ((s.Args[1]?).bind fun x_5 => (lazarettoref12_Expr p x_5).bind fun r_6 => if r_6 = k then ((lazarettoref12_sets s.Body s.Name).bind fun r_7 => some (!r_7)) else (some false)) else (some false)) fun _ => True := fun k =>
    (Tot.get (by omega)).bind fun x hx => (kindE P (F.args x hx.1)).bind fun _ _ => Tot.ite (fun _ => (Tot.get (by omega)).bind fun y hy => (kindE P (F.args y hy.1)).bind fun _ _ => Tot.ite (fun _ => (sets_t hd).bind fun _ _ => Tot.mk trivial) fun _ => Tot.mk trivial) fun _ => Tot.mk trivial
  exact Tot.ite (fun _ => Tot.mk trivial) fun hv => (var_at hv).bind fun v _ => Tot.ite (fun _ => Tot.ite (fun _ => Tot.ite (fun _ => key _) fun _ => Tot.ite (fun _ => key _) fun _ => Tot.mk trivial) fun _ => Tot.mk trivial) fun _ => Tot.mk trivial
theorem call_t {p : api_Program} (P : GoodP p) {s : api_Stmt} (F : FormS s) : Tot (lazarettoref12_call p s) fun _ => True := by
  unfold lazarettoref12_call
  simp only [refBlock, Option.bind_some]
  refine Tot.ite (fun _ => Tot.mk trivial) fun hb => (block_at hb).bind fun b _ => (ins_t _).bind fun l _ => Tot.ite (fun e => ?_) fun _ => Tot.mk trivial
  refine Tot.bind (Tot.loop (fun i => i ≤ l.length) (R := fun _ => True) (fun i => l.length - i) (Nat.zero_le _) fun i hi => ?_) fun r _ => by cases r <;> exact Tot.mk trivial
  unfold lazarettoref12_call_L1
  exact Tot.ite (fun h => (Tot.get (by omega)).bind fun x hx => (kindE P (F.args x hx.1)).bind fun _ _ => (Tot.get (by omega)).bind fun _ _ => Tot.ite (fun _ => Tot.mk ⟨by omega, by simp only; omega⟩) fun _ => Tot.mk trivial) fun _ => Tot.mk trivial
theorem one_t' {p : api_Program} (P : GoodP p) {s : api_Stmt} (F : FormS s) (hd : depSs s.Body ≤ 1000) : Tot (lazarettoref12_one p s) fun _ => True := by
  have K := F.kinds
  unfold lazarettoref12_one
  simp only [refVar, Option.bind_some]
  refine Tot.ite (fun k => ?_) fun k1 => ?_
  · have hk : GoodE s.Target ∧ GoodE s.Value := by
      rcases K with h | h | h | h
      · exact ⟨h.2.2.2.2.1, h.2.2.2.2.2.2⟩
      all_goals omega
    exact (kindE P hk.1).bind fun _ _ => Tot.ite (fun h => (var_at (by omega)).bind fun _ _ => Tot.ite (fun _ => Tot.mk trivial) fun _ => Tot.ite (fun _ => Tot.mk trivial) fun _ => (kindE P hk.2).bind fun _ _ => Tot.mk trivial) fun _ => Tot.mk trivial
  have k23 : (s.Kind = 2 ∨ s.Kind = 3) → GoodE s.Value := fun k => by
    rcases K with h | h | h | h
    · omega
    · exact h.2.2.2
    all_goals omega
  exact Tot.ite (fun k => (kindE P (k23 (.inl k))).bind fun _ _ => Tot.mk trivial) fun _ => Tot.ite (fun k => (kindE P (k23 (.inr k))).bind fun _ _ => Tot.mk trivial) fun _ => Tot.ite (fun k => (loop_t P F k hd).bind fun _ _ => Tot.mk trivial) fun _ => (call_t P F).bind fun _ _ => Tot.mk trivial
theorem stmts_t {p : api_Program} (P : GoodP p) : ∀ (n : Nat) (l : List api_Stmt), fmSs l → depSs l ≤ 1000 → depSs l + 1 ≤ n → Tot (lazarettoref12_Stmts_g n p l) fun _ => True
  | 0, l, _, _, h => by omega
  | n + 1, l, ok, hd, h => by
    show Tot (lazarettoref12_Stmts_b (lazarettoref12_Stmts_g n) p l) _
    unfold lazarettoref12_Stmts_b
    refine Tot.bind (Tot.loop (fun i => i ≤ l.length) (R := fun _ => True) (fun i => l.length - i) (Nat.zero_le _) fun i hi => ?_) fun r _ => by cases r <;> exact Tot.mk trivial
    unfold lazarettoref12_Stmts_L1
    refine Tot.ite (fun h' => (Tot.get (by omega)).bind fun x hx => ?_) fun _ => Tot.mk trivial
    have fx := fmSs_mem ok x hx.1
    have dx := depSs_mem hx.1
    have F := fmS_form fx
    rw [fmS_eq] at fx
    rw [depS_eq] at dx
    refine (one_t' P F (by omega)).bind fun _ _ => Tot.ite (fun _ => ?_) fun _ => Tot.mk trivial
    refine (stmts_t P n x.Body fx.2.1 (by omega) (by omega)).bind fun _ _ => Tot.ite (fun _ => ?_) fun _ => Tot.mk trivial
    exact (stmts_t P n x.Else fx.2.2 (by omega) (by omega)).bind fun _ _ => Tot.ite (fun _ => Tot.mk ⟨by omega, by simp only; omega⟩) fun _ => Tot.mk trivial
theorem check12 {p : api_Program} (G : GoodAll p) : Tot (lazarettoref12_Check p) fun _ => True := by
  have P := G.P
  unfold lazarettoref12_Check
  refine Tot.bind (Tot.loop (fun i => i ≤ p.Vars.length) (R := fun _ => True) (fun i => p.Vars.length - i) (Nat.zero_le _) fun i hi => ?_) fun r _ => ?_
  · unfold lazarettoref12_Check_L1
    refine Tot.ite (fun h' => (Tot.get (by omega)).bind fun x hx => (type_t _).bind fun _ _ => Tot.ite (fun _ => Tot.ite (fun _ => (valid_t _ _).bind fun _ _ => Tot.ite (fun _ => Tot.mk ⟨by omega, by simp only; omega⟩) fun _ => Tot.mk trivial) fun _ => Tot.ite (fun _ => (valid_t _ _).bind fun _ _ => Tot.ite (fun _ => Tot.mk ⟨by omega, by simp only; omega⟩) fun _ => Tot.mk trivial) fun _ => Tot.mk trivial) fun _ => Tot.mk trivial) fun _ => Tot.mk trivial
  cases r with
  | inl r => exact Tot.mk trivial
  | inr r =>
    refine Tot.bind (Tot.loop (fun i => i ≤ p.Blocks.length) (R := fun _ => True) (fun i => p.Blocks.length - i) (Nat.zero_le _) fun i hi => ?_) fun r _ => ?_
    · unfold lazarettoref12_Check_L2
      exact Tot.ite (fun h' => (Tot.get (by omega)).bind fun x hx => (ins_t _).bind fun _ _ => Tot.ite (fun _ => Tot.mk trivial) fun _ => Tot.mk ⟨by omega, by simp only; omega⟩) fun _ => Tot.mk trivial
    cases r with
    | inl r => exact Tot.mk trivial
    | inr r =>
      refine Tot.bind (Tot.loop (fun i => i ≤ p.Tasks.length) (R := fun _ => True) (fun i => p.Tasks.length - i) (Nat.zero_le _) fun i hi => ?_) fun r _ => by cases r <;> exact Tot.mk trivial
      unfold lazarettoref12_Check_L3
      exact Tot.ite (fun h' => (Tot.get (by omega)).bind fun x hx => (stmts_t P 1000000 x.Body (G.T x hx.1).ok (G.d x hx.1) (by have := G.d x hx.1; omega)).bind fun _ _ => Tot.ite (fun _ => Tot.mk ⟨by omega, by simp only; omega⟩) fun _ => Tot.mk trivial) fun _ => Tot.mk trivial
end Go.Lz

end
section

/- PLeq: the order of a lattice, as both the program and its law reckon it, is reachability. -/
namespace Go.Lz
set_option linter.unusedVariables false
set_option linter.unusedSimpArgs false
/-- There is a path from a to b along the pairs, each of them among the names. -/
inductive Reach (l : api_Lattice) (a : Nat) : Nat → Prop
  | refl : Reach l a a
  | step {x y : Nat} {e : A2 Int} (h : Reach l a x) (he : e ∈ l.Below) (h0 : e.a0 = x) (h1 : e.a1 = y) (hy : y < l.Names.length) : Reach l a y
def inN (l : api_Lattice) (a : Int) : Prop := 0 ≤ a ∧ a < (l.Names.length : Int)
instance (l : api_Lattice) (a : Int) : Decidable (inN l a) := by unfold inN; exact inferInstance
open Classical in
noncomputable def leqN (l : api_Lattice) (a b : Int) : Bool := decide (inN l a ∧ inN l b ∧ Reach l a.toNat b.toNat)
theorem Reach.lt {l : api_Lattice} {a b : Nat} (ha : a < l.Names.length) (h : Reach l a b) : b < l.Names.length := by
  cases h with
  | refl => exact ha
  | step _ _ _ _ hy => exact hy
theorem Reach.trans {l : api_Lattice} {a b c : Nat} (h1 : Reach l a b) (h2 : Reach l b c) : Reach l a c := by
  induction h2 with
  | refl => exact h1
  | step _ he h0 h1 hy ih => exact .step ih he h0 h1 hy
theorem refIs (l : api_Lattice) (a : Int) : lazarettoref01_Is l a = some (decide (inN l a)) := by
  unfold lazarettoref01_Is inN
  by_cases h : 0 ≤ a <;> simp [h]
/-- All that is marked can be reached; of what is marked, the pairs' upper ends are marked too: then the marks are the reachable. -/
theorem marks {l : api_Lattice} {a : Nat} {out : List Bool} (hlen : out.length = l.Names.length) (ha : out[a]? = some true) (hr : ∀ k : Nat, out[k]? = some true → Reach l a k)
    (hc : ∀ (k : Nat) (e : A2 Int) (y : Nat), out[k]? = some true → e ∈ l.Below → e.a0 = k → e.a1 = y → y < l.Names.length → out[y]? = some true) (k : Nat) : out[k]? = some true ↔ Reach l a k := by
  refine ⟨hr k, fun h => ?_⟩
  induction h with
  | refl => exact ha
  | step _ he h0 h1 hy ih => exact hc _ _ _ ih he h0 h1 hy

/-! The program's way: what is marked waits in a line until its pairs have been gone through. -/
/-! The law's way: pass after pass over the pairs, until a pass marks nothing. -/
structure InvA (l : api_Lattice) (a : Nat) (out : List Bool) : Prop where
  len : out.length = l.Names.length
  ha : out[a]? = some true
  hr : ∀ k : Nat, out[k]? = some true → Reach l a k
structure InvB (l : api_Lattice) (a : Nat) (out0 out : List Bool) (more : Bool) (i : Nat) : Prop extends InvA l a out where
  il : i ≤ l.Below.length
  cnt : out.count false + (if more then 1 else 0) ≤ out0.count false
  same : more = false → ∀ (j : Nat) (e : A2 Int) (x y : Nat), j < i → l.Below[j]? = some e → e.a0 = x → e.a1 = y → y < l.Names.length → out[x]? = some true → out[y]? = some true
theorem pass {l : api_Lattice} {a : Nat} (ha : a < l.Names.length) {out0 : List Bool} (h0 : InvA l a out0) :
    ∃ r : List Bool × Bool, loop (lazarettoref01_Leq_L2 l) (out0, false, 0) = some r ∧ InvB l a out0 r.1 r.2 l.Below.length := by
  refine loop_inv (fun s => InvB l a out0 s.1 s.2.1 s.2.2) (fun (r : List Bool × Bool) => InvB l a out0 r.1 r.2 l.Below.length) (fun s => l.Below.length - s.2.2) ?_ (out0, false, 0)
    ⟨h0, Nat.zero_le _, by simp, fun _ j e x y hj => (Nat.not_lt_zero _ hj).elim⟩
  rintro ⟨out, more, i⟩ h
  dsimp only at h ⊢
  by_cases hi : i < l.Below.length
  · left
    have hget : l.Below[i]? = some l.Below[i] := List.getElem?_eq_getElem hi
    have skip : (∀ x y : Nat, l.Below[i].a0 = x → l.Below[i].a1 = y → y < l.Names.length → out[x]? = some true → out[y]? = some true) → InvB l a out0 out more (i + 1) := fun hs =>
      ⟨h.toInvA, hi, h.cnt, fun hm j e x y hj hje e0 e1 hy hx => by
        rcases Nat.lt_or_ge j i with hj' | hj'
        · exact h.same hm j e x y hj' hje e0 e1 hy hx
        · obtain rfl : j = i := by omega
          rw [hget] at hje
          obtain rfl := Option.some.inj hje
          exact hs x y e0 e1 hy hx⟩
    simp only [lazarettoref01_Leq_L2, Int.ofNat_lt, hi, if_true, hget, Option.bind_some, refIs, decide_eq_true_eq]
    by_cases c1 : inN l l.Below[i].a0
    · simp only [c1, if_true]
      by_cases c2 : inN l l.Below[i].a1
      · simp only [c2, if_true]
        obtain ⟨x, hx⟩ : ∃ x : Nat, l.Below[i].a0 = x := ⟨l.Below[i].a0.toNat, by have := c1.1; omega⟩
        obtain ⟨y, hy⟩ : ∃ y : Nat, l.Below[i].a1 = y := ⟨l.Below[i].a1.toNat, by have := c2.1; omega⟩
        have hxl : x < l.Names.length := by have := c1.2; omega
        have hyl : y < l.Names.length := by have := c2.2; omega
        have hxb : x < out.length := by rw [h.len]; exact hxl
        have hyb : y < out.length := by rw [h.len]; exact hyl
        rw [hy, hx, idx_nat, idx_nat]
        have hxo : out[x]? = some out[x] := List.getElem?_eq_getElem hxb
        have hyo : out[y]? = some out[y] := List.getElem?_eq_getElem hyb
        rw [hxo, Option.bind_some]
        cases hbx : out[x] with
        | false =>
          simp only [Bool.false_eq_true, if_false]
          exact ⟨_, rfl, skip (fun x' y' e0 _ _ hx' => by rw [hx] at e0; obtain rfl : x = x' := (by omega); rw [hxo, hbx] at hx'; cases hx'), by simp only; omega⟩
        | true =>
          simp only [if_true]
          rw [hyo, Option.bind_some]
          cases hb : out[y] with
          | true =>
            simp only [if_true]
            exact ⟨_, rfl, skip (fun x' y' _ e1 _ _ => by rw [hy] at e1; obtain rfl : y = y' := (by omega); rw [hyo, hb]), by simp only; omega⟩
          | false =>
            have hyf : out[y]? = some false := by rw [hyo, hb]
            have hcs := count_set hyf
            have hset : (out.set y true)[y]? = some true := List.getElem?_set_self hyb
            have hkeep : ∀ k : Nat, out[k]? = some true → (out.set y true)[k]? = some true := fun k hk => by
              by_cases e : y = k
              · subst e; exact hset
              · rw [List.getElem?_set_ne e]; exact hk
            have hback : ∀ k : Nat, (out.set y true)[k]? = some true → k = y ∨ out[k]? = some true := fun k hk => by
              by_cases e : y = k
              · exact .inl e.symm
              · rw [List.getElem?_set_ne e] at hk; exact .inr hk
            have hcn := h.cnt
            simp only [Bool.false_eq_true, if_false, Int.toNat_natCast]
            refine ⟨(out.set y true, true, i + 1), rfl, ?_, by simp only; omega⟩
            dsimp only
            refine ⟨⟨by simpa using h.len, hkeep _ h.ha, fun k hk => ?_⟩, hi, by simp only [if_true]; omega, fun hm => by cases hm⟩
            rcases hback k hk with rfl | hk
            · exact .step (h.hr x (by rw [hxo, hbx])) (List.getElem_mem hi) hx hy hyl
            · exact h.hr k hk
      · simp only [c2, if_false]
        exact ⟨_, rfl, skip (fun x y _ e1 hy _ => (c2 ⟨by omega, by omega⟩).elim), by simp only; omega⟩
    · simp only [c1, if_false]
      exact ⟨_, rfl, skip (fun x y e0 _ _ hx => by
        have hl := (h.hr x hx).lt ha
        exact (c1 ⟨by omega, by omega⟩).elim), by simp only; omega⟩
  · right
    have : i = l.Below.length := by have := h.il; omega
    subst this
    exact ⟨(out, more), by simp [lazarettoref01_Leq_L2], h⟩
theorem passes {l : api_Lattice} {a : Nat} (ha : a < l.Names.length) :
    ∃ out : List Bool, loop (lazarettoref01_Leq_L1 l) ((List.replicate l.Names.length false).set a true, true) = some out ∧ out.length = l.Names.length ∧ ∀ k : Nat, out[k]? = some true ↔ Reach l a k := by
  have hset : ((List.replicate l.Names.length false).set a true)[a]? = some true := List.getElem?_set_self (by simpa using ha)
  have hback : ∀ k : Nat, ((List.replicate l.Names.length false).set a true)[k]? = some true → k = a := fun k hk => by
    by_cases e : a = k
    · exact e.symm
    · rw [List.getElem?_set_ne e] at hk; simp [List.getElem?_replicate] at hk
  obtain ⟨out, e, h1, h2⟩ := loop_inv (f := lazarettoref01_Leq_L1 l)
    (fun s => InvA l a s.1 ∧ (s.2 = false → ∀ (k : Nat) (e : A2 Int) (y : Nat), s.1[k]? = some true → e ∈ l.Below → e.a0 = k → e.a1 = y → y < l.Names.length → s.1[y]? = some true))
    (fun (r : List Bool) => InvA l a r ∧ ∀ (k : Nat) (e : A2 Int) (y : Nat), r[k]? = some true → e ∈ l.Below → e.a0 = k → e.a1 = y → y < l.Names.length → r[y]? = some true)
    (fun s => 2 * s.1.count false + (if s.2 then 1 else 0)) (by
      rintro ⟨out, more⟩ ⟨h1, h2⟩
      dsimp only at h1 h2 ⊢
      cases more with
      | false => right; exact ⟨out, by simp [lazarettoref01_Leq_L1], h1, h2 rfl⟩
      | true =>
        left
        obtain ⟨⟨out', more'⟩, e2, h3⟩ := pass ha h1
        dsimp only at h3
        refine ⟨(out', more'), by simp only [lazarettoref01_Leq_L1, if_true, e2, Option.bind_some], ⟨h3.toInvA, fun hm k e y hk he e0 e1 hy => ?_⟩, ?_⟩
        · obtain ⟨j, hj⟩ := List.getElem?_of_mem he
          exact h3.same hm j e k y (List.getElem?_eq_some_iff.1 hj).1 hj e0 e1 hy hk
        · have := h3.cnt
          cases more' with
          | true => simp only [if_true] at this ⊢; omega
          | false => simp only [Bool.false_eq_true, if_false, if_true] at this ⊢; omega)
    ((List.replicate l.Names.length false).set a true, true) ⟨⟨by simp, hset, fun k hk => by rw [hback k hk]; exact .refl⟩, fun h => by cases h⟩
  exact ⟨out, e, h1.len, marks h1.len h1.ha h1.hr h2⟩
theorem refLeq {l : api_Lattice} (hn : l.Names.length ≤ 1000000) (a b : Int) : lazarettoref01_Leq l a b = some (leqN l a b) := by
  unfold lazarettoref01_Leq leqN
  simp only [refIs, Option.bind_some, decide_eq_true_eq]
  by_cases ha : inN l a
  · by_cases hb : inN l b
    · obtain ⟨x, rfl⟩ : ∃ x : Nat, a = x := ⟨a.toNat, by have := ha.1; omega⟩
      obtain ⟨y, rfl⟩ : ∃ y : Nat, b = y := ⟨b.toNat, by have := hb.1; omega⟩
      have hx : x < l.Names.length := by have := ha.2; omega
      obtain ⟨out, e, hlen, hr⟩ := passes hx
      have hy : y < out.length := by have := hb.2; omega
      simp only [ha, hb, if_true]
      rw [need_of (by omega), idx_nat, List.getElem?_eq_getElem (by simpa using hx), Option.bind_some, Int.toNat_natCast, e]
      simp only [Option.bind_some, idx_nat, List.getElem?_eq_getElem hy, Int.toNat_natCast]
      congr 1
      rw [Bool.eq_iff_iff]
      simp only [decide_eq_true_eq, ha, hb, true_and]
      rw [← hr y, List.getElem?_eq_getElem hy]
      simp
    · simp [ha, hb]
  · simp [ha]
end Go.Lz

end
section

/- PLat: joins, meets, least and greatest of a lattice in plain words, the program's and the law's. -/
namespace Go.Lz
set_option linter.unusedVariables false
set_option linter.unusedSimpArgs false
/-- The first node of which 'o' holds and that stands ahead of all such. -/
def bestN (n : Nat) (o : Nat → Bool) (ah : Nat → Nat → Bool) : Int :=
  ((List.range n).find? fun x => o x && (List.range n).all fun y => !o y || ah x y).elim (-1) fun x => (x : Int)
noncomputable def joinN (l : api_Lattice) (a b : Int) : Int := bestN l.Names.length (fun c => leqN l a c && leqN l b c) (fun c d => leqN l c d)
noncomputable def meetN (l : api_Lattice) (a b : Int) : Int := bestN l.Names.length (fun c => leqN l c a && leqN l c b) (fun c d => leqN l d c)
noncomputable def bottomN (l : api_Lattice) : Int := bestN l.Names.length (fun _ => true) (fun c d => leqN l c d)
noncomputable def topN (l : api_Lattice) : Int := bestN l.Names.length (fun _ => true) (fun c d => leqN l d c)
theorem refJoin {l : api_Lattice} (hn : l.Names.length ≤ 1000000) (a b : Int) : lazarettoref01_Join l a b = some (joinN l a b) := by
  have in2 : ∀ (c : Nat) (ok : Bool), loop (lazarettoref01_Join_L2 l a b c) (ok, 0) = some (ok && (List.range l.Names.length).all fun y => !(leqN l a y && leqN l b y) || leqN l c y) := fun c ok =>
    loop_flag l.Names.length _ (fun d hd => by
      simp only [lazarettoref01_Join_L2, Int.ofNat_lt, hd, if_true, refLeq hn, Option.bind_some]
      cases leqN l a d <;> cases leqN l b d <;> simp) (fun d hd => by simp [lazarettoref01_Join_L2, hd]) (fun b => by simp [lazarettoref01_Join_L2]) ok
  have in3 : ∀ (c : Nat) (ok : Bool), loop (lazarettoref01_Join_L3 l a b c) (ok, 0) = some (ok && (List.range l.Names.length).all fun y => !(leqN l a y && leqN l b y) || leqN l c y) := fun c ok =>
    loop_flag l.Names.length _ (fun d hd => by
      simp only [lazarettoref01_Join_L3, Int.ofNat_lt, hd, if_true, refLeq hn, Option.bind_some]
      cases leqN l a d <;> cases leqN l b d <;> simp) (fun d hd => by simp [lazarettoref01_Join_L3, hd]) (fun b => by simp [lazarettoref01_Join_L3]) ok
  have key := loop_first (f := lazarettoref01_Join_L1 l a b) l.Names.length (fun x => (leqN l a x && leqN l b x) && (List.range l.Names.length).all fun y => !(leqN l a y && leqN l b y) || leqN l x y) (fun x => .inl (x : Int)) (.inr ()) (by
    intro x hx
    simp only [lazarettoref01_Join_L1, Int.ofNat_lt, hx, if_true, refLeq hn, in2, in3, Option.bind_some]
    cases leqN l a x <;> cases leqN l b x <;> cases (List.range l.Names.length).all (fun y => !(leqN l a y && leqN l b y) || leqN l x y) <;> rfl) (by simp [lazarettoref01_Join_L1])
  unfold lazarettoref01_Join
  rw [key, joinN, bestN, Option.bind_some]
  cases (List.range l.Names.length).find? fun (x : Nat) => (leqN l a x && leqN l b x) && (List.range l.Names.length).all fun y => !(leqN l a y && leqN l b y) || leqN l x y <;> rfl
theorem refMeet {l : api_Lattice} (hn : l.Names.length ≤ 1000000) (a b : Int) : lazarettoref01_Meet l a b = some (meetN l a b) := by
  have in2 : ∀ (c : Nat) (ok : Bool), loop (lazarettoref01_Meet_L2 l a b c) (ok, 0) = some (ok && (List.range l.Names.length).all fun y => !(leqN l y a && leqN l y b) || leqN l y c) := fun c ok =>
    loop_flag l.Names.length _ (fun d hd => by
      simp only [lazarettoref01_Meet_L2, Int.ofNat_lt, hd, if_true, refLeq hn, Option.bind_some]
      cases leqN l d a <;> cases leqN l d b <;> simp) (fun d hd => by simp [lazarettoref01_Meet_L2, hd]) (fun b => by simp [lazarettoref01_Meet_L2]) ok
  have in3 : ∀ (c : Nat) (ok : Bool), loop (lazarettoref01_Meet_L3 l a b c) (ok, 0) = some (ok && (List.range l.Names.length).all fun y => !(leqN l y a && leqN l y b) || leqN l y c) := fun c ok =>
    loop_flag l.Names.length _ (fun d hd => by
      simp only [lazarettoref01_Meet_L3, Int.ofNat_lt, hd, if_true, refLeq hn, Option.bind_some]
      cases leqN l d a <;> cases leqN l d b <;> simp) (fun d hd => by simp [lazarettoref01_Meet_L3, hd]) (fun b => by simp [lazarettoref01_Meet_L3]) ok
  have key := loop_first (f := lazarettoref01_Meet_L1 l a b) l.Names.length (fun x => (leqN l x a && leqN l x b) && (List.range l.Names.length).all fun y => !(leqN l y a && leqN l y b) || leqN l y x) (fun x => .inl (x : Int)) (.inr ()) (by
    intro x hx
    simp only [lazarettoref01_Meet_L1, Int.ofNat_lt, hx, if_true, refLeq hn, in2, in3, Option.bind_some]
    cases leqN l x a <;> cases leqN l x b <;> cases (List.range l.Names.length).all (fun y => !(leqN l y a && leqN l y b) || leqN l y x) <;> rfl) (by simp [lazarettoref01_Meet_L1])
  unfold lazarettoref01_Meet
  rw [key, meetN, bestN, Option.bind_some]
  cases (List.range l.Names.length).find? fun (x : Nat) => (leqN l x a && leqN l x b) && (List.range l.Names.length).all fun y => !(leqN l y a && leqN l y b) || leqN l y x <;> rfl
theorem refBottom {l : api_Lattice} (hn : l.Names.length ≤ 1000000) : lazarettoref01_Bottom l = some (bottomN l) := by
  have in2 : ∀ (c : Nat) (ok : Bool), loop (lazarettoref01_Bottom_L2 l c) (ok, 0) = some (ok && (List.range l.Names.length).all fun y => !true || leqN l c y) := fun c ok =>
    loop_flag l.Names.length _ (fun d hd => by
      simp [lazarettoref01_Bottom_L2, hd, refLeq hn]) (fun d hd => by simp [lazarettoref01_Bottom_L2, hd]) (fun b => by simp [lazarettoref01_Bottom_L2]) ok
  have key := loop_first (f := lazarettoref01_Bottom_L1 l) l.Names.length (fun x => true && (List.range l.Names.length).all fun y => !true || leqN l x y) (fun x => .inl (x : Int)) (.inr ()) (by
    intro x hx
    simp only [lazarettoref01_Bottom_L1, Int.ofNat_lt, hx, if_true, in2, Option.bind_some]
    cases (List.range l.Names.length).all (fun y => !true || leqN l x y) <;> rfl) (by simp [lazarettoref01_Bottom_L1])
  unfold lazarettoref01_Bottom
  rw [key, bottomN, bestN, Option.bind_some]
  cases (List.range l.Names.length).find? fun (x : Nat) => true && (List.range l.Names.length).all fun y => !true || leqN l x y <;> rfl
end Go.Lz

end
section

/- P01: the laws of the lattice in plain words. -/
namespace Go.Lz
set_option linter.unusedVariables false
set_option linter.unusedSimpArgs false
theorem best_eq {n : Nat} {o o' : Nat → Bool} {ah ah' : Nat → Nat → Bool} (h1 : ∀ x, x < n → o x = o' x) (h2 : ∀ x y, x < n → y < n → ah x y = ah' x y) : bestN n o ah = bestN n o' ah' := by
  unfold bestN
  congr 1
  have : ∀ (xs : List Nat), (∀ x ∈ xs, x < n) → xs.find? (fun x => o x && (List.range n).all fun y => !o y || ah x y) = xs.find? (fun x => o' x && (List.range n).all fun y => !o' y || ah' x y) := by
    intro xs
    induction xs with
    | nil => intro _; rfl
    | cons x xs ih =>
      intro h
      have hx := h x (by simp)
      rw [List.find?_cons, List.find?_cons, ih (fun y hy => h y (by simp [hy])), h1 x hx]
      have : ((List.range n).all fun y => !o y || ah x y) = (List.range n).all fun y => !o' y || ah' x y := by
        rw [Bool.eq_iff_iff, List.all_eq_true, List.all_eq_true]
        constructor
        · intro hh y hy; have := hh y hy; rw [h1 y (by simpa using hy), h2 x y hx (by simpa using hy)] at this; exact this
        · intro hh y hy; have := hh y hy; rw [← h1 y (by simpa using hy), ← h2 x y hx (by simpa using hy)] at this; exact this
      rw [this]
  exact this _ (fun x hx => by simpa using hx)
/-! The check. -/
def edgeOk (l : api_Lattice) (e : A2 Int) : Bool := decide (inN l e.a0) && decide (inN l e.a1)
noncomputable def pairBad (l : api_Lattice) (a b : Nat) : Bool := (leqN l a b && leqN l b a) || decide (joinN l a b < 0) || decide (meetN l a b < 0)
noncomputable def nodeBad (l : api_Lattice) (a : Nat) : Bool := decide (l.Names.getD a [] = []) || (List.range a).any fun b => decide (l.Names.getD b [] = l.Names.getD a []) || pairBad l a b
noncomputable def checkN (l : api_Lattice) : Int :=
  if l.Names.length < 1 then 3 else if 8 < l.Names.length then 3 else if l.Below.all (edgeOk l) then (if (List.range l.Names.length).any (nodeBad l) then 4 else 0) else 4
theorem elim_any {ρ : Type} {p : Nat → Bool} {a b : ρ} (xs : List Nat) : (xs.find? p).elim a (fun _ => b) = if xs.any p then b else a := by
  induction xs with
  | nil => rfl
  | cons x xs ih =>
    rw [List.find?_cons, List.any_cons]
    cases p x with
    | true => rfl
    | false => simpa using ih
theorem any_range {α : Type} {p : α → Bool} {xs : List α} {d : α} : (List.range xs.length).any (fun i => p (xs.getD i d)) = xs.any p := by
  rw [Bool.eq_iff_iff, List.any_eq_true, List.any_eq_true]
  constructor
  · rintro ⟨i, hi, h⟩
    have hi : i < xs.length := by simpa using hi
    refine ⟨xs[i], List.getElem_mem hi, ?_⟩
    simpa [List.getD_eq_getElem?_getD, hi] using h
  · rintro ⟨x, hx, h⟩
    obtain ⟨i, hi⟩ := List.getElem?_of_mem hx
    have hl := (List.getElem?_eq_some_iff.1 hi).1
    exact ⟨i, by simpa using hl, by simp [List.getD_eq_getElem?_getD, hi, h]⟩
theorem refCheck {l : api_Lattice} : lazarettoref01_Check l = some (checkN l) := by
  unfold lazarettoref01_Check checkN
  by_cases h1 : l.Names.length < 1
  · rw [if_pos (by omega), if_pos h1]
  by_cases h2 : 8 < l.Names.length
  · rw [if_neg (by omega), if_pos (by omega), if_neg h1, if_pos h2]
  have hn : l.Names.length ≤ 1000000 := by omega
  rw [if_neg (by omega), if_neg (by omega), if_neg h1, if_neg h2]
  have k1 := loop_first (f := lazarettoref01_Check_L1 l) l.Below.length (fun i => !edgeOk l (l.Below.getD i ⟨0, 0⟩)) (fun _ => .inl 4) (.inr ()) (by
    intro i hi
    simp only [lazarettoref01_Check_L1, Int.ofNat_lt, hi, if_true, List.getElem?_eq_getElem hi, Option.bind_some, refIs, edgeOk, List.getD_eq_getElem?_getD, Option.getD_some, decide_eq_true_eq]
    by_cases c1 : inN l l.Below[i].a0 <;> by_cases c2 : inN l l.Below[i].a1 <;> simp [c1, c2]) (by simp [lazarettoref01_Check_L1])
  have k3 : ∀ a : Nat, a < l.Names.length → loop (lazarettoref01_Check_L3 l a (l.Names.getD a [])) 0 = some (if (List.range a).any fun b => decide (l.Names.getD b [] = l.Names.getD a []) || pairBad l a b then .inl 4 else .inr ()) := by
    intro a ha
    have k := loop_first (f := lazarettoref01_Check_L3 l a (l.Names.getD a [])) a (fun b => decide (l.Names.getD b [] = l.Names.getD a []) || pairBad l a b) (fun _ => .inl 4) (.inr ()) (by
      intro b hb
      have hbl : b < l.Names.length := by omega
      have eb : l.Names[b]? = some (l.Names.getD b []) := by simp [List.getD_eq_getElem?_getD, hbl]
      simp only [lazarettoref01_Check_L3, Int.ofNat_lt, hb, if_true, eb, Option.bind_some, refLeq hn, refJoin hn, refMeet hn, pairBad]
      generalize l.Names.getD a [] = na
      generalize l.Names.getD b [] = nb
      by_cases c0 : na = nb
      · subst c0; simp
      · have c0' : ¬ nb = na := fun h => c0 h.symm
        by_cases c1 : joinN l a b < 0 <;> by_cases c2 : meetN l a b < 0 <;> rcases Bool.eq_false_or_eq_true (leqN l a b) with c3 | c3 <;> rcases Bool.eq_false_or_eq_true (leqN l b a) with c4 | c4 <;> simp [c0, c0', c1, c2, c3, c4]) (by simp [lazarettoref01_Check_L3])
    rw [k, elim_any]
  have k2 := loop_first (f := lazarettoref01_Check_L2 l) l.Names.length (nodeBad l) (fun _ => .inl 4) (.inr ()) (by
    intro a ha
    have ea : l.Names[a]? = some (l.Names.getD a []) := by simp [List.getD_eq_getElem?_getD, ha]
    simp only [lazarettoref01_Check_L2, Int.ofNat_lt, ha, if_true, ea, Option.bind_some, k3 a ha]
    by_cases c0 : l.Names.getD a [] = []
    · have hb : nodeBad l a = true := by unfold nodeBad; rw [decide_eq_true c0]; rfl
      rw [if_pos c0, if_pos hb]
    · have hb : nodeBad l a = (List.range a).any fun b => decide (l.Names.getD b [] = l.Names.getD a []) || pairBad l a b := by unfold nodeBad; rw [decide_eq_false c0, Bool.false_or]
      rw [if_neg c0, ← hb]
      rcases Bool.eq_false_or_eq_true (nodeBad l a) with c1 | c1 <;> simp [c1]) (by simp [lazarettoref01_Check_L2])
  rw [k1, k2, elim_any, elim_any, any_range (p := fun e => !edgeOk l e)]
  simp only [Option.bind_some]
  have e1 : l.Below.any (fun e => !edgeOk l e) = !l.Below.all (edgeOk l) := by rw [List.all_eq_not_any_not]; simp
  rw [e1]
  cases l.Below.all (edgeOk l) <;> cases (List.range l.Names.length).any (nodeBad l) <;> rfl
end Go.Lz

end
section

/- P01b: in a lattice that passes the check, joins and meets are what they should be; the laws of chapter 01. -/
namespace Go.Lz
set_option linter.unusedVariables false
set_option linter.unusedSimpArgs false
theorem best_spec {n : Nat} {o : Nat → Bool} {ah : Nat → Nat → Bool} (h : 0 ≤ bestN n o ah) : ∃ c : Nat, bestN n o ah = c ∧ c < n ∧ o c = true ∧ ∀ y, y < n → o y = true → ah c y = true := by
  unfold bestN at h ⊢
  cases hf : (List.range n).find? fun x => o x && (List.range n).all fun y => !o y || ah x y with
  | none => rw [hf] at h; simp at h
  | some c =>
    have hc := List.mem_of_find?_eq_some hf
    have hp := List.find?_some hf
    simp only [Bool.and_eq_true, List.all_eq_true, List.mem_range, Bool.or_eq_true, Bool.not_eq_true'] at hp
    refine ⟨c, rfl, by simpa using hc, hp.1, fun y hy ho => ?_⟩
    rcases hp.2 y hy with h1 | h1
    · rw [h1] at ho; cases ho
    · exact h1
theorem best_of {n : Nat} {o : Nat → Bool} {ah : Nat → Nat → Bool} {c : Nat} (hc : c < n) (ho : o c = true) (ha : ∀ y, y < n → o y = true → ah c y = true) (anti : ∀ x, x < n → ah x c = true → ah c x = true → x = c) : bestN n o ah = c := by
  have h0 : 0 ≤ bestN n o ah := by
    unfold bestN
    cases hf : (List.range n).find? fun x => o x && (List.range n).all fun y => !o y || ah x y with
    | none =>
      have := List.find?_eq_none.1 hf c (by simpa using hc)
      exfalso
      apply this
      simp only [Bool.and_eq_true, List.all_eq_true, List.mem_range, Bool.or_eq_true, Bool.not_eq_true']
      refine ⟨ho, fun y hy => ?_⟩
      cases hoy : o y with
      | false => exact .inl rfl
      | true => exact .inr (ha y hy hoy)
    | some x => simp
  obtain ⟨x, e, hx, hox, hax⟩ := best_spec h0
  rw [e, anti x hx (hax c hc ho) (ha x hx hox)]
structure Lat (l : api_Lattice) : Prop where
  pos : 0 < l.Names.length
  few : l.Names.length ≤ 8
  anti : ∀ a b : Nat, a < l.Names.length → b < l.Names.length → leqN l a b = true → leqN l b a = true → a = b
  join : ∀ a b : Nat, a < l.Names.length → b < l.Names.length → 0 ≤ joinN l a b
  meet : ∀ a b : Nat, a < l.Names.length → b < l.Names.length → 0 ≤ meetN l a b
open Classical in
theorem leq_iff {l : api_Lattice} {a b : Int} : leqN l a b = true ↔ inN l a ∧ inN l b ∧ Reach l a.toNat b.toNat := by
  unfold leqN; rw [decide_eq_true_eq]
theorem leq_refl {l : api_Lattice} {a : Nat} (ha : a < l.Names.length) : leqN l a a = true := leq_iff.2 ⟨⟨by omega, by omega⟩, ⟨by omega, by omega⟩, .refl⟩
theorem leq_trans {l : api_Lattice} {a b c : Int} (h1 : leqN l a b = true) (h2 : leqN l b c = true) : leqN l a c = true :=
  leq_iff.2 ⟨(leq_iff.1 h1).1, (leq_iff.1 h2).2.1, (leq_iff.1 h1).2.2.trans (leq_iff.1 h2).2.2⟩
theorem join_comm {l : api_Lattice} {a b : Int} : joinN l a b = joinN l b a := best_eq (fun x _ => Bool.and_comm _ _) (fun x y _ _ => rfl)
theorem meet_comm {l : api_Lattice} {a b : Int} : meetN l a b = meetN l b a := best_eq (fun x _ => Bool.and_comm _ _) (fun x y _ _ => rfl)
theorem lat_of {l : api_Lattice} (h : checkN l = 0) : Lat l := by
  unfold checkN at h
  split at h
  · omega
  split at h
  · omega
  split at h
  · rename_i h1 h2 h3
    split at h
    · omega
    rename_i h4
    have h5 : ∀ a, a < l.Names.length → nodeBad l a = false := fun a ha => by
      cases hb : nodeBad l a with
      | false => rfl
      | true => exact (h4 (List.any_eq_true.2 ⟨a, by simpa using ha, hb⟩)).elim
    have h6 : ∀ a b, b < a → a < l.Names.length → pairBad l a b = false := fun a b hb ha => by
      have := h5 a ha
      unfold nodeBad at this
      rw [Bool.or_eq_false_iff] at this
      have := List.any_eq_false.1 this.2 b (by simpa using hb)
      simp only [Bool.or_eq_true, not_or, Bool.not_eq_true] at this
      exact this.2
    have h7 : ∀ a b, b < a → a < l.Names.length → ¬(leqN l a b = true ∧ leqN l b a = true) ∧ 0 ≤ joinN l a b ∧ 0 ≤ meetN l a b := fun a b hb ha => by
      have := h6 a b hb ha
      unfold pairBad at this
      simp only [Bool.or_eq_false_iff, Bool.and_eq_false_iff, decide_eq_false_iff_not] at this
      refine ⟨fun ⟨x, y⟩ => ?_, by omega, by omega⟩
      rcases this.1.1 with z | z
      · rw [z] at x; cases x
      · rw [z] at y; cases y
    have anti : ∀ a b : Nat, a < l.Names.length → b < l.Names.length → leqN l a b = true → leqN l b a = true → a = b := by
      intro a b ha hb x y
      rcases Nat.lt_trichotomy a b with hl | hl | hl
      · exact ((h7 b a hl hb).1 ⟨y, x⟩).elim
      · exact hl
      · exact ((h7 a b hl ha).1 ⟨x, y⟩).elim
    refine ⟨by omega, by omega, anti, fun a b ha hb => ?_, fun a b ha hb => ?_⟩
    · rcases Nat.lt_trichotomy a b with hl | hl | hl
      · rw [join_comm]; exact (h7 b a hl hb).2.1
      · subst hl
        rw [show joinN l a a = (a : Int) from best_of ha (by simp [leq_refl ha]) (fun y _ hy => by simpa using hy) (fun x hx u v => anti x a hx ha u v)]
        omega
      · exact (h7 a b hl ha).2.1
    · rcases Nat.lt_trichotomy a b with hl | hl | hl
      · rw [meet_comm]; exact (h7 b a hl hb).2.2
      · subst hl
        rw [show meetN l a a = (a : Int) from best_of ha (by simp [leq_refl ha]) (fun y _ hy => by simpa using hy) (fun x hx u v => anti x a hx ha v u)]
        omega
      · exact (h7 a b hl ha).2.2
  · omega
theorem Lat.join_spec {l : api_Lattice} (h : Lat l) {a b : Nat} (ha : a < l.Names.length) (hb : b < l.Names.length) :
    ∃ c : Nat, joinN l a b = c ∧ c < l.Names.length ∧ leqN l a c = true ∧ leqN l b c = true ∧ ∀ d : Nat, d < l.Names.length → leqN l a d = true → leqN l b d = true → leqN l c d = true := by
  obtain ⟨c, e, hc, ho, hm⟩ := best_spec (h.join a b ha hb)
  rw [Bool.and_eq_true] at ho
  exact ⟨c, e, hc, ho.1, ho.2, fun d hd h1 h2 => hm d hd (by rw [h1, h2]; rfl)⟩
theorem Lat.meet_spec {l : api_Lattice} (h : Lat l) {a b : Nat} (ha : a < l.Names.length) (hb : b < l.Names.length) :
    ∃ c : Nat, meetN l a b = c ∧ c < l.Names.length ∧ leqN l c a = true ∧ leqN l c b = true ∧ ∀ d : Nat, d < l.Names.length → leqN l d a = true → leqN l d b = true → leqN l d c = true := by
  obtain ⟨c, e, hc, ho, hm⟩ := best_spec (h.meet a b ha hb)
  rw [Bool.and_eq_true] at ho
  exact ⟨c, e, hc, ho.1, ho.2, fun d hd h1 h2 => hm d hd (by rw [h1, h2]; rfl)⟩
end Go.Lz

end
section

/- P01c: the laws of the lattice: joins and meets, bounds, the order; in plain words. -/
namespace Go.Lz
set_option linter.unusedVariables false
set_option linter.unusedSimpArgs false
section
variable {l : api_Lattice} (h : Lat l) {a b c d : Nat}
include h
theorem Lat.big : l.Names.length ≤ 1000000 := by have := h.few; omega
/-- The least label: the meet of all. -/
theorem Lat.least : ∀ k, k ≤ l.Names.length → 0 < k → ∃ c : Nat, c < l.Names.length ∧ ∀ d : Nat, d < k → leqN l c d = true
  | 0, _, hk => by omega
  | 1, h1, _ => ⟨0, h1, fun d hd => by
    have : d = 0 := by omega
    subst this; exact leq_refl h1⟩
  | k + 2, h1, _ => by
    obtain ⟨c, hc, hm⟩ := Lat.least (k + 1) (by omega) (by omega)
    obtain ⟨x, _, hx, x1, x2, _⟩ := h.meet_spec hc (show k + 1 < l.Names.length by omega)
    refine ⟨x, hx, fun d hd => ?_⟩
    by_cases e : d = k + 1
    · subst e; exact x2
    · exact leq_trans x1 (hm d (by omega))
theorem Lat.greatest : ∀ k, k ≤ l.Names.length → 0 < k → ∃ c : Nat, c < l.Names.length ∧ ∀ d : Nat, d < k → leqN l d c = true
  | 0, _, hk => by omega
  | 1, h1, _ => ⟨0, h1, fun d hd => by
    have : d = 0 := by omega
    subst this; exact leq_refl h1⟩
  | k + 2, h1, _ => by
    obtain ⟨c, hc, hm⟩ := Lat.greatest (k + 1) (by omega) (by omega)
    obtain ⟨x, _, hx, x1, x2, _⟩ := h.join_spec hc (show k + 1 < l.Names.length by omega)
    refine ⟨x, hx, fun d hd => ?_⟩
    by_cases e : d = k + 1
    · subst e; exact x2
    · exact leq_trans (hm d (by omega)) x1
theorem Lat.bottom_spec : ∃ c : Nat, bottomN l = c ∧ c < l.Names.length ∧ ∀ d : Nat, d < l.Names.length → leqN l c d = true := by
  obtain ⟨c, hc, hm⟩ := Lat.least h _ (Nat.le_refl _) h.pos
  exact ⟨c, best_of hc rfl (fun y hy _ => hm y hy) (fun x hx u v => h.anti x c hx hc u v), hc, hm⟩
end
end Go.Lz

end
section

/- P02: the laws of the constraints: the program's answer is the law's, and it is the least. -/
namespace Go.Lz
set_option linter.unusedVariables false
set_option linter.unusedSimpArgs false
/-- A walk over a list whose state is a function of the place, with an early end. -/
theorem loop_path {α τ ρ : Type} {xs : List α} {S : Nat → τ} {p : α → Bool} {a b : ρ} {f : τ → Option (τ ⊕ ρ)} (step : ∀ i (h : i < xs.length), f (S i) = some (if p xs[i] then .inl (S (i + 1)) else .inr a)) (last : f (S xs.length) = some (.inr b)) :
    loop f (S 0) = some (if xs.all p then b else a) := by
  have key : ∀ k i, xs.length - i = k → i ≤ xs.length → loop f (S i) = some (if (xs.drop i).all p then b else a) := by
    intro k
    induction k with
    | zero =>
      intro i hk hi
      have : i = xs.length := by omega
      subst this
      rw [loop_inr last, List.drop_length]; rfl
    | succ k ih =>
      intro i hk hi
      have hi' : i < xs.length := by omega
      have hs := step i hi'
      rw [drop_cons hi', List.all_cons]
      cases hp : p xs[i] with
      | true => rw [hp] at hs; rw [loop_inl hs, ih (i + 1) (by omega) (by omega)]; rfl
      | false => rw [hp] at hs; rw [loop_inr hs]; rfl
  exact key _ 0 rfl (Nat.zero_le _)
def inR (n : Nat) (i : Int) : Bool := decide (0 ≤ i) && decide (i < (n : Int))
theorem inR_iff {n : Nat} {i : Int} : inR n i = true ↔ 0 ≤ i ∧ i < (n : Int) := by simp [inR]
theorem idx_in {xs : List Int} {i : Int} (h : inR xs.length i = true) : idx xs i = some (xs.getD i.toNat 0) := by
  have := inR_iff.1 h
  unfold idx
  rw [if_pos this.1, List.getElem?_eq_getElem (by omega)]
  simp [List.getD_eq_getElem?_getD, List.getElem?_eq_getElem (show i.toNat < xs.length by omega)]
noncomputable def holdsN (l : api_Lattice) (labels : List Int) (rules : List (A2 Int)) : Bool := rules.all fun r => inR labels.length r.a0 && inR labels.length r.a1 && leqN l (labels.getD r.a0.toNat 0) (labels.getD r.a1.toNat 0)
theorem inR_neg {n : Nat} {i : Int} : inR n i = false ↔ i < 0 ∨ (n : Int) ≤ i := by
  rw [← Bool.not_eq_true, inR_iff]; omega
theorem refHolds {l : api_Lattice} (hn : l.Names.length ≤ 1000000) (labels : List Int) (rules : List (A2 Int)) : lazarettoref02_Holds l labels rules = some (holdsN l labels rules) := by
  unfold lazarettoref02_Holds holdsN
  rw [loop_all (xs := rules) (p := fun r => inR labels.length r.a0 && inR labels.length r.a1 && leqN l (labels.getD r.a0.toNat 0) (labels.getD r.a1.toNat 0)) (a := (.inl false : Bool ⊕ Unit)) (b := .inr ()) (fun i hi => by
    simp only [lazarettoref02_Holds_L1, Int.ofNat_lt, hi, if_true, List.getElem?_eq_getElem hi, Option.bind_some]
    cases h0 : inR labels.length rules[i].a0 with
    | false =>
      by_cases c : rules[i].a0 < 0
      · simp [c]
      · have : (labels.length : Int) ≤ rules[i].a0 := by have := inR_neg.1 h0; omega
        simp [c, this]
    | true =>
      have c0 := inR_iff.1 h0
      rw [if_neg (by omega), if_neg (by omega)]
      cases h1 : inR labels.length rules[i].a1 with
      | false =>
        by_cases c : rules[i].a1 < 0
        · simp [c]
        · have : (labels.length : Int) ≤ rules[i].a1 := by have := inR_neg.1 h1; omega
          simp [c, this]
      | true =>
        have c1 := inR_iff.1 h1
        rw [if_neg (by omega), if_neg (by omega), idx_in h0, idx_in h1]
        simp [refLeq hn]
        split <;> rfl) (by simp [lazarettoref02_Holds_L1])]
  cases rules.all fun r => inR labels.length r.a0 && inR labels.length r.a1 && leqN l (labels.getD r.a0.toNat 0) (labels.getD r.a1.toNat 0) <;> rfl
/-! All, Up, Down. -/
end Go.Lz

end
section

/- P02b: the least solution: the program's way and the law's are one, and what they find is the least. -/
namespace Go.Lz
set_option linter.unusedVariables false
set_option linter.unusedSimpArgs false
theorem countP_lt {p q : Nat → Bool} {z : Nat} : ∀ {xs : List Nat}, (∀ y ∈ xs, q y = true → p y = true) → z ∈ xs → p z = true → q z = false → xs.countP q < xs.countP p
  | [], _, h, _, _ => by cases h
  | x :: xs, h, hz, hp, hq => by
    have hle : xs.countP q ≤ xs.countP p := List.countP_mono_left fun y hy => h y (by simp [hy])
    rw [List.countP_cons, List.countP_cons]
    by_cases e : z = x
    · subst e; simp [hp, hq]; omega
    · have := countP_lt (xs := xs) (fun y hy => h y (by simp [hy])) (by rcases List.mem_cons.1 hz with h1 | h1; exact (e h1).elim; exact h1) hp hq
      have hx := h x (by simp)
      cases hqx : q x with
      | false => simp; omega
      | true => rw [hx hqx]; simp; omega
theorem sum_set {f : Int → Nat} : ∀ {xs : List Int} {k : Nat} {v : Int}, k < xs.length → ((xs.set k v).map f).sum + f (xs.getD k 0) = (xs.map f).sum + f v
  | [], k, v, h => by simp at h
  | x :: xs, 0, v, _ => by simp; omega
  | x :: xs, k + 1, v, h => by
    have := sum_set (f := f) (xs := xs) (k := k) (v := v) (by simpa using h)
    simp at this ⊢
    omega
noncomputable def ht (l : api_Lattice) (x : Int) : Nat := (List.range l.Names.length).countP fun (y : Nat) => leqN l x y
noncomputable def mu (l : api_Lattice) (out : List Int) : Nat := (out.map (ht l)).sum
section
variable {l : api_Lattice} (h : Lat l)
include h
theorem Lat.jn {a b : Int} (ha : inN l a) (hb : inN l b) : inN l (joinN l a b) ∧ leqN l a (joinN l a b) = true ∧ leqN l b (joinN l a b) = true ∧ ∀ d : Int, leqN l a d = true → leqN l b d = true → leqN l (joinN l a b) d = true := by
  obtain ⟨x, rfl⟩ : ∃ x : Nat, a = x := ⟨a.toNat, by have := ha.1; omega⟩
  obtain ⟨y, rfl⟩ : ∃ y : Nat, b = y := ⟨b.toNat, by have := hb.1; omega⟩
  obtain ⟨c, e, hc, c1, c2, c3⟩ := h.join_spec (show x < l.Names.length by have := ha.2; omega) (show y < l.Names.length by have := hb.2; omega)
  rw [e]
  refine ⟨⟨by omega, by omega⟩, c1, c2, fun d d1 d2 => ?_⟩
  have hd := (leq_iff.1 d1).2.1
  obtain ⟨z, rfl⟩ : ∃ z : Nat, d = z := ⟨d.toNat, by have := hd.1; omega⟩
  exact c3 z (by have := hd.2; omega) d1 d2
theorem Lat.ht_lt {a b : Int} (ha : inN l a) (hb : inN l b) (hab : leqN l a b = false) : ht l (joinN l a b) < ht l b := by
  obtain ⟨j1, j2, j3, j4⟩ := h.jn ha hb
  obtain ⟨y, hy⟩ : ∃ y : Nat, b = y := ⟨b.toNat, by have := hb.1; omega⟩
  have hyl : y < l.Names.length := by have := hb.2; omega
  refine countP_lt (z := y) (fun w hw hq => leq_trans j3 hq) (by simpa using hyl) (by rw [hy]; exact leq_refl hyl) ?_
  cases hj : leqN l (joinN l a b) y with
  | false => rfl
  | true => rw [← hy] at hj; rw [leq_trans j2 hj] at hab; cases hab
end
structure GoodL (l : api_Lattice) (n : Nat) (out : List Int) : Prop where
  len : out.length = n
  all : ∀ x ∈ out, inN l x
theorem GoodL.at {l : api_Lattice} {n : Nat} {out : List Int} (g : GoodL l n out) {i : Int} (hi : inR n i = true) : inN l (out.getD i.toNat 0) := by
  have := inR_iff.1 hi
  have hl : i.toNat < out.length := by rw [g.len]; omega
  rw [List.getD_eq_getElem?_getD, List.getElem?_eq_getElem hl]
  exact g.all _ (List.getElem_mem hl)
theorem GoodL.set {l : api_Lattice} {n : Nat} {out : List Int} (g : GoodL l n out) {k : Nat} {v : Int} (hv : inN l v) : GoodL l n (out.set k v) :=
  ⟨by rw [List.length_set, g.len], fun x hx => by
    rcases List.mem_or_eq_of_mem_set hx with h1 | h1
    · exact g.all x h1
    · rw [h1]; exact hv⟩
noncomputable def stepN (l : api_Lattice) (fixed out : List Int) (again : Bool) (r : A2 Int) : List Int × Bool :=
  if fixed.getD r.a1.toNat 0 = -1 then (if leqN l (out.getD r.a0.toNat 0) (out.getD r.a1.toNat 0) = true then (out, again) else (out.set r.a1.toNat (joinN l (out.getD r.a0.toNat 0) (out.getD r.a1.toNat 0)), true)) else (out, again)
section
variable {l : api_Lattice} (h : Lat l) {fixed : List Int} {rules : List (A2 Int)} (hr : ∀ r ∈ rules, inR fixed.length r.a0 = true ∧ inR fixed.length r.a1 = true)
include h hr
theorem stepR {out : List Int} (g : GoodL l fixed.length out) (again : Bool) {i : Nat} (hi : i < rules.length) :
    lazarettoref02_Least_L4 l fixed rules (out, again, i) = some (.inl ((stepN l fixed out again rules[i]).1, (stepN l fixed out again rules[i]).2, i + 1)) := by
  obtain ⟨h0, h1⟩ := hr rules[i] (List.getElem_mem hi)
  have g0 := g.at h0
  have g1 := g.at h1
  rw [← g.len] at h0 h1
  have h1' : inR fixed.length rules[i].a1 = true := by rw [← g.len]; exact h1
  simp only [lazarettoref02_Least_L4, Int.ofNat_lt, hi, if_true, List.getElem?_eq_getElem hi, Option.bind_some, idx_in h0, idx_in h1, idx_in h1', refLeq h.big, refJoin h.big, stepN]
  by_cases c1 : fixed.getD rules[i].a1.toNat 0 = -1
  · rw [if_pos c1, if_pos c1]
    by_cases c2 : leqN l (out.getD rules[i].a0.toNat 0) (out.getD rules[i].a1.toNat 0) = true
    · rw [if_pos c2, if_pos c2]
    · rw [if_neg c2, if_neg c2]
      obtain ⟨j1, _⟩ := h.jn g0 g1
      rw [if_neg (by have := j1.1; omega)]
  · rw [if_neg c1, if_neg c1]
    split <;> rfl
theorem stepGood {out : List Int} (g : GoodL l fixed.length out) (again : Bool) {r : A2 Int} (hm : r ∈ rules) : GoodL l fixed.length (stepN l fixed out again r).1 := by
  obtain ⟨h0, h1⟩ := hr r hm
  unfold stepN
  split
  · split
    · exact g
    · exact g.set (h.jn (g.at h0) (g.at h1)).1
  · exact g
theorem pass02 {K : List Int → Prop} (hK : ∀ out r, GoodL l fixed.length out → K out → r ∈ rules → fixed.getD r.a1.toNat 0 = -1 → leqN l (out.getD r.a0.toNat 0) (out.getD r.a1.toNat 0) = false → K (out.set r.a1.toNat (joinN l (out.getD r.a0.toNat 0) (out.getD r.a1.toNat 0))))
    {out0 : List Int} (g0 : GoodL l fixed.length out0) (k0 : K out0) :
    ∃ res : List Int × Bool, loop (lazarettoref02_Least_L4 l fixed rules) (out0, false, 0) = some (.inr res) ∧ GoodL l fixed.length res.1 ∧ K res.1 ∧ (res.2 = true → mu l res.1 < mu l out0) ∧
      (res.2 = false → res.1 = out0 ∧ ∀ r ∈ rules, fixed.getD r.a1.toNat 0 = -1 → leqN l (out0.getD r.a0.toNat 0) (out0.getD r.a1.toNat 0) = true) := by
  obtain ⟨r, e, q⟩ := loop_inv (f := lazarettoref02_Least_L4 l fixed rules)
    (fun s => s.2.2 ≤ rules.length ∧ GoodL l fixed.length s.1 ∧ K s.1 ∧ (s.2.1 = true → mu l s.1 < mu l out0) ∧ (s.2.1 = false → s.1 = out0 ∧ ∀ j (hj : j < rules.length), j < s.2.2 → fixed.getD rules[j].a1.toNat 0 = -1 → leqN l (out0.getD rules[j].a0.toNat 0) (out0.getD rules[j].a1.toNat 0) = true))
    (fun r => ∃ res : List Int × Bool, r = .inr res ∧ GoodL l fixed.length res.1 ∧ K res.1 ∧ (res.2 = true → mu l res.1 < mu l out0) ∧ (res.2 = false → res.1 = out0 ∧ ∀ r ∈ rules, fixed.getD r.a1.toNat 0 = -1 → leqN l (out0.getD r.a0.toNat 0) (out0.getD r.a1.toNat 0) = true))
    (fun s => rules.length - s.2.2) (by
      rintro ⟨out, again, i⟩ ⟨i0, i1, i2, i3, i4⟩
      dsimp only at i0 i1 i2 i3 i4 ⊢
      by_cases hi : i < rules.length
      · left
        refine ⟨_, stepR h hr i1 again hi, ⟨by dsimp only; omega, stepGood h hr i1 again (List.getElem_mem hi), ?_⟩, by dsimp only; omega⟩
        dsimp only
        obtain ⟨h0, h1⟩ := hr rules[i] (List.getElem_mem hi)
        have skip : (fixed.getD rules[i].a1.toNat 0 = -1 → leqN l (out.getD rules[i].a0.toNat 0) (out.getD rules[i].a1.toNat 0) = true) → K out ∧ (again = true → mu l out < mu l out0) ∧ (again = false → out = out0 ∧ ∀ j (hj : j < rules.length), j < i + 1 → fixed.getD rules[j].a1.toNat 0 = -1 → leqN l (out0.getD rules[j].a0.toNat 0) (out0.getD rules[j].a1.toNat 0) = true) := fun hs =>
          ⟨i2, i3, fun ha => ⟨(i4 ha).1, fun j hj hji hf => by
            by_cases e : j = i
            · subst e; rw [← (i4 ha).1]; exact hs hf
            · exact (i4 ha).2 j hj (by omega) hf⟩⟩
        unfold stepN
        by_cases c1 : fixed.getD rules[i].a1.toNat 0 = -1
        · rw [if_pos c1]
          by_cases c2 : leqN l (out.getD rules[i].a0.toNat 0) (out.getD rules[i].a1.toNat 0) = true
          · rw [if_pos c2]; exact skip fun _ => c2
          · rw [if_neg c2]
            have c2' : leqN l (out.getD rules[i].a0.toNat 0) (out.getD rules[i].a1.toNat 0) = false := by simpa using c2
            refine ⟨hK out _ i1 i2 (List.getElem_mem hi) c1 c2', fun _ => ?_, fun hf => by cases hf⟩
            have hlt := h.ht_lt (i1.at h0) (i1.at h1) c2'
            have hl : rules[i].a1.toNat < out.length := by rw [i1.len]; have := inR_iff.1 h1; omega
            have hs := sum_set (f := ht l) (v := joinN l (out.getD rules[i].a0.toNat 0) (out.getD rules[i].a1.toNat 0)) hl
            have hle : mu l out ≤ mu l out0 := by
              cases again with
              | true => have := i3 rfl; omega
              | false => rw [(i4 rfl).1]; exact Nat.le_refl _
            unfold mu at hle ⊢
            dsimp only
            omega
        · rw [if_neg c1]; exact skip fun hf => (c1 hf).elim
      · right
        have e : i = rules.length := by omega
        subst e
        refine ⟨_, by simp only [lazarettoref02_Least_L4, Int.lt_irrefl, if_false], (out, again), rfl, i1, i2, i3, fun ha => ⟨(i4 ha).1, fun r hm hf => ?_⟩⟩
        obtain ⟨j, hj, rfl⟩ := List.getElem_of_mem hm
        exact (i4 ha).2 j hj hj hf) (out0, false, 0) ⟨Nat.zero_le _, g0, k0, (fun h => by cases h), fun _ => ⟨rfl, fun j _ hj => (Nat.not_lt_zero _ hj).elim⟩⟩
  obtain ⟨res, rfl, q⟩ := q
  exact ⟨res, e, q⟩
theorem passes02 {K : List Int → Prop} (hK : ∀ out r, GoodL l fixed.length out → K out → r ∈ rules → fixed.getD r.a1.toNat 0 = -1 → leqN l (out.getD r.a0.toNat 0) (out.getD r.a1.toNat 0) = false → K (out.set r.a1.toNat (joinN l (out.getD r.a0.toNat 0) (out.getD r.a1.toNat 0))))
    {out0 : List Int} (g0 : GoodL l fixed.length out0) (k0 : K out0) :
    ∃ res : List Int, loop (lazarettoref02_Least_L3 l fixed rules) (out0, true) = some (.inr res) ∧ GoodL l fixed.length res ∧ K res ∧ ∀ r ∈ rules, fixed.getD r.a1.toNat 0 = -1 → leqN l (res.getD r.a0.toNat 0) (res.getD r.a1.toNat 0) = true := by
  obtain ⟨r, e, q⟩ := loop_inv (f := lazarettoref02_Least_L3 l fixed rules)
    (fun s => GoodL l fixed.length s.1 ∧ K s.1 ∧ (s.2 = false → ∀ r ∈ rules, fixed.getD r.a1.toNat 0 = -1 → leqN l (s.1.getD r.a0.toNat 0) (s.1.getD r.a1.toNat 0) = true))
    (fun r => ∃ res : List Int, r = .inr res ∧ GoodL l fixed.length res ∧ K res ∧ ∀ r ∈ rules, fixed.getD r.a1.toNat 0 = -1 → leqN l (res.getD r.a0.toNat 0) (res.getD r.a1.toNat 0) = true)
    (fun s => 2 * mu l s.1 + (if s.2 then 1 else 0)) (by
      rintro ⟨out, again⟩ ⟨i1, i2, i3⟩
      dsimp only at i1 i2 i3 ⊢
      cases again with
      | false => right; exact ⟨_, by simp only [lazarettoref02_Least_L3, Bool.false_eq_true, if_false], out, rfl, i1, i2, i3 rfl⟩
      | true =>
        left
        obtain ⟨res, e1, q1, q2, q3, q4⟩ := pass02 h hr hK i1 i2
        refine ⟨(res.1, res.2), by simp only [lazarettoref02_Least_L3, if_true, e1, Option.bind_some], ⟨q1, q2, fun hf => ?_⟩, ?_⟩
        · rw [(q4 hf).1]; exact (q4 hf).2
        · dsimp only
          cases hr2 : res.2 with
          | true => have := q3 hr2; simp only [if_true]; omega
          | false => rw [(q4 hr2).1]; simp) (out0, true) ⟨g0, k0, fun h => by cases h⟩
  obtain ⟨res, rfl, q⟩ := q
  exact ⟨res, e, q⟩
end
end Go.Lz

end
section

/- P02c: the laws of the constraints. -/
namespace Go.Lz
set_option linter.unusedVariables false
set_option linter.unusedSimpArgs false
def labF (b x : Int) : Int := if x = -1 then b else x
def fixOk (l : api_Lattice) (x : Int) : Bool := decide (x = -1) || decide (inN l x)
theorem take_snoc {α β : Type} {xs : List α} {f : α → β} {i : Nat} (h : i < xs.length) : (xs.take (i + 1)).map f = (xs.take i).map f ++ [f xs[i]] := by
  rw [List.take_succ_eq_append_getElem h, List.map_append]; rfl
section
variable {l : api_Lattice} (h : Lat l) (fixed : List Int)
include h in
theorem refL1 (hf : fixed.length ≤ 1000) : loop (lazarettoref02_Least_L1 l fixed (bottomN l)) ([], 0) = some (if fixed.all (fixOk l) then .inr (fixed.map (labF (bottomN l))) else .inl ([], false)) := by
  obtain ⟨c, hb, hc, _⟩ := h.bottom_spec
  have hbi : inN l (bottomN l) := by rw [hb]; exact ⟨by omega, by omega⟩
  exact loop_path (xs := fixed) (S := fun i => ((fixed.take i).map (labF (bottomN l)), i)) (p := fixOk l) (by
    intro i hi
    have hn : (((fixed.take i).map (labF (bottomN l))).length + 1) * 8 ≤ 140737488355328 := by simp; omega
    simp only [lazarettoref02_Least_L1, Int.ofNat_lt, hi, if_true, List.getElem?_eq_getElem hi, Option.bind_some, refIs, decide_eq_true_eq, need_of hn, take_snoc hi, hbi, fixOk]
    by_cases c1 : fixed[i] = -1
    · simp [c1, labF]
    · by_cases c2 : inN l fixed[i] <;> simp [c1, c2, labF]) (by simp [lazarettoref02_Least_L1])
end
def ruleOk (n : Nat) (r : A2 Int) : Bool := inR n r.a0 && inR n r.a1
theorem refL2 (rules : List (A2 Int)) (out : List Int) : loop (lazarettoref02_Least_L2 rules out) 0 = some (if rules.all (ruleOk out.length) then .inr () else .inl ([], false)) :=
  loop_all (xs := rules) (p := ruleOk out.length) (a := (.inl ([], false) : (List Int × Bool) ⊕ Unit)) (b := .inr ()) (fun i hi => by
    simp only [lazarettoref02_Least_L2, Int.ofNat_lt, hi, if_true, List.getElem?_eq_getElem hi, Option.bind_some]
    rw [show ruleOk out.length rules[i] = (inR out.length rules[i].a0 && inR out.length rules[i].a1) from rfl]
    cases h0 : inR out.length rules[i].a0 with
    | false =>
      by_cases c : rules[i].a0 < 0
      · simp [c]
      · have : (out.length : Int) ≤ rules[i].a0 := by have := inR_neg.1 h0; omega
        simp [c, this]
    | true =>
      have c0 := inR_iff.1 h0
      rw [if_neg (by omega), if_neg (by omega)]
      cases h1 : inR out.length rules[i].a1 with
      | false =>
        by_cases c : rules[i].a1 < 0
        · simp [c]
        · have : (out.length : Int) ≤ rules[i].a1 := by have := inR_neg.1 h1; omega
          simp [c, this]
      | true =>
        have c1 := inR_iff.1 h1
        rw [if_neg (by omega), if_neg (by omega)]
        simp) (by simp [lazarettoref02_Least_L2])
/-- Labels that keep the rules and the fixed labels. -/
structure Keeps (l : api_Lattice) (fixed labels : List Int) (rules : List (A2 Int)) : Prop where
  len : labels.length = fixed.length
  all : ∀ x ∈ labels, inN l x
  holds : holdsN l labels rules = true
  fix : ∀ i, i < fixed.length → fixed.getD i 0 = -1 ∨ fixed.getD i 0 = labels.getD i 0
structure Least (l : api_Lattice) (fixed : List Int) (rules : List (A2 Int)) (r : List Int × Bool) : Prop where
  no : r.2 = false → r.1 = []
  len : r.2 = true → r.1.length = fixed.length
  holds : r.2 = true → holdsN l r.1 rules = true
  fix : r.2 = true → ∀ i, i < fixed.length → fixed.getD i 0 ≠ -1 → r.1.getD i 0 = fixed.getD i 0
  best : ∀ labels, Keeps l fixed labels rules → r.2 = true ∧ ∀ i, i < fixed.length → leqN l (r.1.getD i 0) (labels.getD i 0) = true
theorem holds_at {l : api_Lattice} {labels : List Int} {rules : List (A2 Int)} : holdsN l labels rules = true ↔ ∀ r ∈ rules, inR labels.length r.a0 = true ∧ inR labels.length r.a1 = true ∧ leqN l (labels.getD r.a0.toNat 0) (labels.getD r.a1.toNat 0) = true := by
  unfold holdsN
  rw [List.all_eq_true]
  simp only [Bool.and_eq_true, and_assoc]
theorem getD_mem {xs : List Int} {i : Nat} (h : i < xs.length) : xs.getD i 0 ∈ xs := by
  rw [List.getD_eq_getElem?_getD, List.getElem?_eq_getElem h]; exact List.getElem_mem h
theorem least02 {l : api_Lattice} (h : Lat l) {fixed : List Int} (hf : fixed.length ≤ 1000) (rules : List (A2 Int)) : ∃ r, lazarettoref02_Least l fixed rules = some r ∧ Least l fixed rules r := by
  obtain ⟨c, hb, hc, hbot⟩ := h.bottom_spec
  have hbi : inN l (bottomN l) := by rw [hb]; exact ⟨by omega, by omega⟩
  unfold lazarettoref02_Least
  rw [refBottom h.big]
  simp only [Option.bind_some]
  rw [if_neg (by have := hbi.1; omega), refL1 h _ hf]
  simp only [Option.bind_some]
  have fixKeeps : ∀ labels, Keeps l fixed labels rules → fixed.all (fixOk l) = true := fun labels k => List.all_eq_true.2 fun x hx => by
    obtain ⟨i, hi, rfl⟩ := List.getElem_of_mem hx
    have e : fixed.getD i 0 = fixed[i] := by simp [List.getD_eq_getElem?_getD, hi]
    rcases k.fix i hi with h1 | h1
    · rw [e] at h1; simp [fixOk, h1]
    · rw [e] at h1
      have := k.all _ (getD_mem (xs := labels) (i := i) (by rw [k.len]; exact hi))
      rw [← h1] at this
      simp [fixOk, this]
  cases hfo : fixed.all (fixOk l) with
  | false =>
    refine ⟨([], false), by simp, ⟨fun _ => rfl, (fun h => by cases h), (fun h => by cases h), (fun h => by cases h), fun labels k => ?_⟩⟩
    rw [fixKeeps labels k] at hfo; cases hfo
  | true =>
    simp only [if_true]
    rw [refL2]
    simp only [Option.bind_some, List.length_map]
    cases hro : rules.all (ruleOk fixed.length) with
    | false =>
      refine ⟨([], false), by simp, ⟨fun _ => rfl, (fun h => by cases h), (fun h => by cases h), (fun h => by cases h), fun labels k => ?_⟩⟩
      have : rules.all (ruleOk fixed.length) = true := List.all_eq_true.2 fun r hr => by
        have := holds_at.1 k.holds r hr
        rw [k.len] at this
        simp [ruleOk, this.1, this.2.1]
      rw [this] at hro; cases hro
    | true =>
      simp only [if_true]
      have hr : ∀ r ∈ rules, inR fixed.length r.a0 = true ∧ inR fixed.length r.a1 = true := fun r hm => by
        have := List.all_eq_true.1 hro r hm
        simpa [ruleOk] using this
      have fixAt : ∀ i, i < fixed.length → (fixed.map (labF (bottomN l))).getD i 0 = labF (bottomN l) (fixed.getD i 0) := fun i hi => by
        simp [List.getD_eq_getElem?_getD, hi]
      have g0 : GoodL l fixed.length (fixed.map (labF (bottomN l))) := ⟨by simp, fun x hx => by
        obtain ⟨y, hy, rfl⟩ := List.mem_map.1 hx
        have := List.all_eq_true.1 hfo y hy
        unfold labF
        split
        · exact hbi
        · rename_i hne; simpa [fixOk, hne] using this⟩
      obtain ⟨res, e2, q1, ⟨q2, q3⟩, q4⟩ := passes02 h hr (K := fun out => (∀ i, i < fixed.length → fixed.getD i 0 ≠ -1 → out.getD i 0 = fixed.getD i 0) ∧ ∀ labels, Keeps l fixed labels rules → ∀ i, i < fixed.length → leqN l (out.getD i 0) (labels.getD i 0) = true) (by
        intro out r g ⟨k1, k2⟩ hm hfx hle
        obtain ⟨h0, h1⟩ := hr r hm
        have hl : r.a1.toNat < out.length := by rw [g.len]; have := inR_iff.1 h1; omega
        have hl0 : r.a0.toNat < fixed.length := by have := inR_iff.1 h0; omega
        have hl1 : r.a1.toNat < fixed.length := by have := inR_iff.1 h1; omega
        have hs : ∀ i v, (out.set r.a1.toNat v).getD i 0 = if i = r.a1.toNat then v else out.getD i 0 := fun i v => by
          by_cases e : i = r.a1.toNat
          · subst e; simp [List.getD_eq_getElem?_getD, hl]
          · simp [List.getD_eq_getElem?_getD, List.getElem?_set_ne (fun h => e h.symm), e]
        refine ⟨fun i hi hne => ?_, fun labels k i hi => ?_⟩
        · rw [hs, if_neg (fun e => by subst e; exact hne hfx)]; exact k1 i hi hne
        · rw [hs]
          split
          · rename_i e
            subst e
            exact (h.jn (g.at h0) (g.at h1)).2.2.2 _ (leq_trans (k2 labels k _ hl0) (holds_at.1 k.holds r hm).2.2) (k2 labels k _ hl1)
          · exact k2 labels k i hi) g0 ⟨fun i hi hne => by rw [fixAt i hi, labF, if_neg hne], fun labels k i hi => by
        have hin := k.all _ (getD_mem (xs := labels) (i := i) (by rw [k.len]; exact hi))
        obtain ⟨y, hy⟩ : ∃ y : Nat, labels.getD i 0 = y := ⟨(labels.getD i 0).toNat, by have := hin.1; omega⟩
        have hyl : y < l.Names.length := by have := hin.2; omega
        rw [fixAt i hi, labF, hy]
        split
        · rw [hb]; exact hbot y hyl
        · rename_i hne
          rcases k.fix i hi with h1 | h1
          · exact (hne h1).elim
          · rw [h1, hy]; exact leq_refl hyl⟩
      rw [e2]
      simp only [Option.bind_some, refHolds h.big]
      cases hh : holdsN l res rules with
      | true =>
        exact ⟨(res, true), by simp, ⟨(fun h => by cases h), fun _ => q1.len, fun _ => hh, fun _ => q2, fun labels k => ⟨rfl, q3 labels k⟩⟩⟩
      | false =>
        refine ⟨([], false), by simp, ⟨fun _ => rfl, (fun h => by cases h), (fun h => by cases h), (fun h => by cases h), fun labels k => ?_⟩⟩
        have : holdsN l res rules = true := holds_at.2 fun r hm => by
          obtain ⟨h0, h1⟩ := hr r hm
          rw [q1.len]
          refine ⟨h0, h1, ?_⟩
          have hl0 : r.a0.toNat < fixed.length := by have := inR_iff.1 h0; omega
          have hl1 : r.a1.toNat < fixed.length := by have := inR_iff.1 h1; omega
          by_cases hfx : fixed.getD r.a1.toNat 0 = -1
          · exact q4 r hm hfx
          · rcases k.fix _ hl1 with h2 | h2
            · exact (hfx h2).elim
            · rw [q2 _ hl1 hfx, h2]
              exact leq_trans (q3 labels k _ hl0) (holds_at.1 k.holds r hm).2.2
        rw [this] at hh; cases hh
end Go.Lz

end
section
/- P13 (r8): the reference's rules and labels are reckoned out for whatever program is well formed. -/
namespace Go.Lz
set_option linter.unusedVariables false
set_option linter.unusedSimpArgs false
def rg (x : Int) : Prop := -2 ≤ x ∧ x ≤ 100
def lx (x y : A2 Int) : Prop := x.a0 < y.a0 ∨ (x.a0 = y.a0 ∧ x.a1 < y.a1)
/-- Rules as they stand: rising, each once. -/
structure SL (l : List (A2 Int)) : Prop where
  srt : l.Pairwise lx
  rng : ∀ x ∈ l, rg x.a0 ∧ rg x.a1
theorem inc_len : ∀ (l : List Int) (a b : Int), l.Pairwise (· < ·) → (∀ x ∈ l, a ≤ x ∧ x < b) → a ≤ b → (l.length : Int) ≤ b - a
  | [], a, b, _, _, h => by simp; omega
  | x :: xs, a, b, hp, hr, h => by
    have hx := hr x (by simp)
    rw [List.pairwise_cons] at hp
    have := inc_len xs (x + 1) b hp.2 (fun y hy => ⟨by have := hp.1 y hy; omega, (hr y (by simp [hy])).2⟩) (by omega)
    simp only [List.length_cons]
    omega
theorem SL.len {l : List (A2 Int)} (h : SL l) : l.length ≤ 16384 := by
  have := inc_len (l.map fun x => (x.a0 + 2) * 128 + (x.a1 + 2)) 0 16384 (by
    rw [List.pairwise_map]
    refine List.Pairwise.imp_of_mem (fun hx hy hxy => ?_) h.srt
    have h1 := h.rng _ hx
    have h2 := h.rng _ hy
    simp only [rg] at h1 h2
    rcases hxy with h | h <;> omega) (fun x hx => by
    obtain ⟨y, hy, rfl⟩ := List.mem_map.1 hx
    have h1 := h.rng _ hy
    simp only [rg] at h1
    omega) (by omega)
  rw [List.length_map] at this
  omega
theorem SL.nil : SL [] := ⟨.nil, fun _ h => by cases h⟩
theorem SL.ins {l : List (A2 Int)} (h : SL l) {x : A2 Int} {k : Nat} (hx : rg x.a0 ∧ rg x.a1) (hk : k ≤ l.length) (hl : ∀ j (hj : j < l.length), j < k → lx l[j] x) (hg : ∀ (hj : k < l.length), lx x l[k]) : SL (l.take k ++ [x] ++ l.drop k) := by
  have ht : ∀ y ∈ l.take k, lx y x := fun y hy => by
    obtain ⟨j, hj, rfl⟩ := List.getElem_of_mem hy
    rw [List.length_take] at hj
    rw [List.getElem_take]
    exact hl j (by omega) (by omega)
  have hd : ∀ y ∈ l.drop k, lx x y := fun y hy => by
    obtain ⟨j, hj, rfl⟩ := List.getElem_of_mem hy
    rw [List.length_drop] at hj
    rw [List.getElem_drop]
    have h0 := hg (by omega)
    cases j with
    | zero => exact h0
    | succ j =>
      have := List.pairwise_iff_getElem.1 h.srt k (k + (j + 1)) (by omega) (by omega) (by omega)
      simp only [lx] at h0 this ⊢
      omega
  have hs := h.srt
  rw [← List.take_append_drop k l, List.pairwise_append] at hs
  refine ⟨?_, fun y hy => ?_⟩
  · rw [List.pairwise_append, List.pairwise_append]
    refine ⟨⟨hs.1, List.pairwise_singleton _ _, fun a ha b hb => by rw [List.mem_singleton.1 hb]; exact ht a ha⟩, hs.2.1, fun a ha b hb => ?_⟩
    rcases List.mem_append.1 ha with ha | ha
    · exact hs.2.2 a ha b hb
    · rw [List.mem_singleton.1 ha]; exact hd b hb
  · rcases List.mem_append.1 hy with hy | hy
    · rcases List.mem_append.1 hy with hy | hy
      · exact h.rng y (List.mem_of_mem_take hy)
      · rw [List.mem_singleton.1 hy]; exact hx
    · exact h.rng y (List.mem_of_mem_drop hy)
theorem put_t13 {l : List (A2 Int)} (h : SL l) {x : A2 Int} (hx : rg x.a0 ∧ rg x.a1) : Tot (lazarettoref13_put l x) SL := by
  have hn := h.len
  unfold lazarettoref13_put
  refine Tot.ite (fun _ => Tot.mk h) fun _ => ?_
  refine Tot.bind (Tot.loop (fun k => k ≤ l.length ∧ ∀ j (hj : j < l.length), j < k → lx l[j] x) (R := fun k => k ≤ l.length ∧ (∀ j (hj : j < l.length), j < k → lx l[j] x) ∧ ∀ hj : k < l.length, ¬ lx l[k] x) (fun k => l.length - k) ⟨Nat.zero_le _, fun j _ hj => by omega⟩ fun k ⟨hk, hl⟩ => ?_) fun k ⟨hk, hl, hg⟩ => ?_
  · unfold lazarettoref13_put_L1
    refine Tot.ite (fun h' => ?_) fun h' => Tot.mk ⟨hk, hl, fun hj => by omega⟩
    have hk' : k < l.length := by omega
    refine (Tot.get hk').bind fun y ⟨_, hy⟩ => ?_
    subst hy
    have more : lx l[k] x → Rd (fun k => k ≤ l.length ∧ ∀ j (hj : j < l.length), j < k → lx l[j] x) (fun k => k ≤ l.length ∧ (∀ j (hj : j < l.length), j < k → lx l[j] x) ∧ ∀ hj : k < l.length, ¬ lx l[k] x) (fun k => l.length - k) (l.length - k) (.inl (k + 1)) := fun hlt => ⟨⟨hk', fun j hj hjk => by
      by_cases e : j = k
      · subst e; exact hlt
      · exact hl j hj (by omega)⟩, by simp only; omega⟩
    exact Tot.ite (fun a => Tot.mk (more (.inl a))) fun a => Tot.ite (fun b => Tot.ite (fun c => Tot.mk (more (.inr ⟨b, c⟩))) fun c => Tot.mk ⟨hk, hl, fun _ => by simp only [lx]; omega⟩) fun b => Tot.mk ⟨hk, hl, fun _ => by simp only [lx]; omega⟩
  have fin : (∀ hj : k < l.length, lx x l[k]) → Tot (if (l.take k).isEmpty = true then (need (0 ≤ (k : Int) ∧ (k : Int) ≤ (l.length : Int) ∧ (l.length : Int) ≤ l.length) (need ((1 + (l.drop k).length) * 16 ≤ 140737488355328) (some ([x] ++ (l.drop k))))) else (need ((l.take k).length * 16 ≤ 140737488355328) (need (((l.take k).length + 1) * 16 ≤ 140737488355328) (need (0 ≤ (k : Int) ∧ (k : Int) ≤ (l.length : Int) ∧ (l.length : Int) ≤ l.length) (need (((l.take k).length + 1 + (l.drop k).length) * 16 ≤ 140737488355328) (some (((l.take k) ++ [x]) ++ (l.drop k)))))))) SL := fun hg' => by
    have hi := h.ins hx hk hl hg'
    have lt : (l.take k).length ≤ 16384 := by rw [List.length_take]; omega
    have ld : (l.drop k).length ≤ 16384 := by rw [List.length_drop]; omega
    refine Tot.ite (fun e => Tot.need (by omega) (Tot.need (by omega) (Tot.mk ?_))) fun _ => Tot.need (by omega) (Tot.need (by omega) (Tot.need (by omega) (Tot.need (by omega) (Tot.mk hi))))
    rw [List.isEmpty_iff.1 e] at hi
    exact hi
  refine Tot.ite (fun h' => ?_) fun h' => Tot.need (by omega) (fin fun hj => by omega)
  have hk' : k < l.length := by omega
  refine (Tot.get hk').bind fun y ⟨_, hy⟩ => ?_
  subst hy
  refine Tot.ite (fun _ => Tot.mk h) fun ne => Tot.need (by omega) (fin fun hj => ?_)
  have := hg hj
  simp only [lx] at this ⊢
  omega
theorem each_t13 {l : List (A2 Int)} (h : SL l) {fr : List Int} (hf : ∀ x ∈ fr, rg x) {y : Int} (hy : rg y) : Tot (lazarettoref13_each l fr y) SL := by
  unfold lazarettoref13_each
  refine Tot.bind (Tot.loop (fun s => s.2 ≤ fr.length ∧ SL s.1) (R := SL) (fun s => fr.length - s.2) ⟨Nat.zero_le _, h⟩ fun ⟨l, i⟩ ⟨hi, hl⟩ => ?_) fun r hr => Tot.mk hr
  simp only at hi hl
  unfold lazarettoref13_each_L1
  exact Tot.ite (fun h' => (Tot.get (by omega)).bind fun x hx => (put_t13 hl ⟨hf x hx.1, hy⟩).bind fun r hr => Tot.mk ⟨⟨by simp only; omega, hr⟩, by simp only; omega⟩) fun _ => Tot.mk hl
theorem findN_rg {α : Type} {xs : List α} {q : α → Bool} {m : Nat} (h : xs.length ≤ m) : -1 ≤ findN xs q ∧ findN xs q < m := by
  unfold findN
  cases hf : xs.findIdx? q with
  | none => simp only; omega
  | some i =>
    obtain ⟨hi, _⟩ := List.findIdx?_eq_some_iff_getElem.1 hf
    simp only; omega
end Go.Lz

end
section
/- P13b (r8): what terms have; rules of statements; labels. -/
namespace Go.Lz
set_option linter.unusedVariables false
set_option linter.unusedSimpArgs false
theorem szEs_drop {l : List api_Expr} {i : Nat} (h : i < l.length) : szEs (l.drop i) = szE l[i] + szEs (l.drop (i + 1)) := by
  rw [List.drop_eq_getElem_cons h]; rfl
theorem has_t13 {p : api_Program} (P : GoodP p) : ∀ (n : Nat) (e : api_Expr), szE e ≤ 30000 → depE e ≤ n → Tot (lazarettoref13_has_g n p e) fun r => (∀ x ∈ r, rg x) ∧ r.length ≤ szE e
  | 0, e, _, h => by rw [depE_eq] at h; omega
  | n + 1, e, hs, h => by
    have p1 := P.nv; have p2 := P.nb; have p3 := P.ns
    have v0 : ∀ s, rg (varN p s) := fun s => by have := findN_rg (q := fun (v : api_Var) => decide (v.Name = s)) p1; unfold varN rg; omega
    have b0 : ∀ s, -1 ≤ blockN p s ∧ blockN p s < 12 := fun s => by have := findN_rg (q := fun (v : api_Block) => decide (v.Name = s)) p2; unfold blockN; omega
    have s0 : ∀ s, -1 ≤ siteN p s ∧ siteN p s < 8 := fun s => by have := findN_rg (q := fun (v : api_Site) => decide (v.Name = s)) p3; unfold siteN; omega
    rw [szE_eq] at hs
    rw [depE_eq] at h
    have rec_ : ∀ (x : api_Expr), x ∈ e.Args → Tot (lazarettoref13_has_g n p x) fun r => (∀ x ∈ r, rg x) ∧ r.length ≤ szE x := fun x hx => has_t13 P n x (by have := szEs_mem hx; omega) (by have := depEs_mem hx; omega)
    have lp : ∀ (l : List Int) (f : List Int × Nat → Option ((List Int × Nat) ⊕ List Int)), (∀ l i, f (l, i) = if (i : Int) < (e.Args.length : Int) then ((e.Args[i]?).bind fun x_12 => (lazarettoref13_has_g n p x_12).bind fun r_13 => need ((l.length + r_13.length) * 8 ≤ 140737488355328) (some (.inl ((l ++ r_13), (i + 1))))) else (some (.inr l))) → (∀ x ∈ l, rg x) → l.length ≤ 1 → Tot (loop f (l, 0)) fun r => (∀ x ∈ r, rg x) ∧ r.length ≤ szE e := fun l f hf hl hl1 => by
      refine Tot.loop (fun s => s.2 ≤ e.Args.length ∧ (∀ x ∈ s.1, rg x) ∧ s.1.length + szEs (e.Args.drop s.2) ≤ 1 + szEs e.Args) (fun s => e.Args.length - s.2) ⟨Nat.zero_le _, hl, by simp only [List.drop_zero]; omega⟩ fun ⟨l, i⟩ ⟨hi, hr, hz⟩ => ?_
      simp only at hi hr hz
      rw [hf]
      refine Tot.ite (fun h' => ?_) fun h' => Tot.mk ⟨hr, by rw [szE_eq]; omega⟩
      have hi' : i < e.Args.length := by omega
      rw [szEs_drop hi'] at hz
      refine (Tot.get hi').bind fun x ⟨hx, ex⟩ => (rec_ x hx).bind fun r ⟨q1, q2⟩ => ?_
      subst ex
      refine Tot.need (by omega) (Tot.mk ⟨⟨hi', fun y hy => ?_, ?_⟩, by simp only; omega⟩)
      · rcases List.mem_append.1 hy with hy | hy
        · exact hr y hy
        · exact q1 y hy
      · simp only [List.length_append]; omega
    have one : ∀ (x : Int), rg x → Tot (some [x]) fun r => (∀ x ∈ r, rg x) ∧ r.length ≤ szE e := fun x hx => Tot.mk ⟨fun y hy => by rw [List.mem_singleton.1 hy]; exact hx, by rw [szE_eq]; simp only [List.length_singleton]; omega⟩
    show Tot (lazarettoref13_has_b (lazarettoref13_has_g n) p e) _
    unfold lazarettoref13_has_b lazarettoref13_to
    simp only [refVar, refBlock, refSite, Option.bind_some]
    refine Tot.ite (fun _ => one _ (v0 _)) fun _ => Tot.ite (fun _ => one _ ?_) fun _ => Tot.ite (fun _ => one _ ?_) fun _ => Tot.ite (fun _ => ?_) fun _ => ?_
    · have := b0 e.Name
      unfold rg; rw [w64_id (by omega) (by omega)]; omega
    · have := s0 e.Name
      unfold rg
      rw [w64_id (n := (p.Vars.length : Int) + (p.Blocks.length : Int)) (by omega) (by omega), w64_id (n := 2 * siteN p e.Name) (by omega) (by omega), w64_id (n := (p.Vars.length : Int) + (p.Blocks.length : Int) + 2 * siteN p e.Name) (by omega) (by omega), w64_id (by omega) (by omega)]; omega
    · exact (lp [_] _ (fun l i => rfl) (fun y hy => by rw [List.mem_singleton.1 hy]; exact v0 _) (by simp)).bind fun r hr => Tot.mk hr
    · exact (lp [] _ (fun l i => rfl) (fun y hy => by cases hy) (by simp)).bind fun r hr => Tot.mk hr
theorem has13 {p : api_Program} (P : GoodP p) {e : api_Expr} (g : GoodE e) : Tot (lazarettoref13_has p e) fun r => (∀ x ∈ r, rg x) ∧ r.length ≤ 20000 :=
  (has_t13 P 1000000 e (by have := g.sz; omega) (by have := g.dep; omega)).imp fun r h => ⟨h.1, by have := g.sz; omega⟩
theorem sites_t13 {p : api_Program} (P : GoodP p) {around : List Int} (ha : ∀ x ∈ around, rg x) : ∀ (n : Nat) (e : api_Expr) (l : List (A2 Int)), fmE e → szE e ≤ 30000 → depE e ≤ n → depE e ≤ 1000 → SL l → Tot (lazarettoref13_sites_g n p l e around) SL
  | 0, e, _, _, _, h, _, _ => by rw [depE_eq] at h; omega
  | n + 1, e, l, ok, hs, h, hd, hl => by
    have p1 := P.nv; have p2 := P.nb; have p3 := P.ns
    have s0 : ∀ s, -1 ≤ siteN p s ∧ siteN p s < 8 := fun s => by have := findN_rg (q := fun (v : api_Site) => decide (v.Name = s)) p3; unfold siteN; omega
    have F := fmE_form ok
    have ops := F.ops
    rw [fmE_eq] at ok
    rw [szE_eq] at hs
    rw [depE_eq] at h hd
    have rec_ : ∀ (x : api_Expr) (l : List (A2 Int)), x ∈ e.Args → SL l → Tot (lazarettoref13_sites_g n p l x around) SL := fun x l hx hl => sites_t13 P ha n x l (fmEs_mem ok.2 x hx) (by have := szEs_mem hx; omega) (by have := depEs_mem hx; omega) (by have := depEs_mem hx; omega) hl
    have lp : ∀ (l : List (A2 Int)) (f : List (A2 Int) × Nat → Option ((List (A2 Int) × Nat) ⊕ List (A2 Int))), (∀ l i, f (l, i) = if (i : Int) < (e.Args.length : Int) then ((e.Args[i]?).bind fun x_11 => (lazarettoref13_sites_g n p l x_11 around).bind fun r_12 => some (.inl (r_12, (i + 1)))) else (some (.inr l))) → SL l → Tot (loop f (l, 0)) SL := fun l f hf hl => by
      refine Tot.loop (fun s => s.2 ≤ e.Args.length ∧ SL s.1) (fun s => e.Args.length - s.2) ⟨Nat.zero_le _, hl⟩ fun ⟨l, i⟩ ⟨hi, hr⟩ => ?_
      simp only at hi hr
      rw [hf]
      exact Tot.ite (fun h' => (Tot.get (by omega)).bind fun x hx => (rec_ x l hx.1 hr).bind fun r q => Tot.mk ⟨⟨by simp only; omega, q⟩, by simp only; omega⟩) fun _ => Tot.mk hr
    show Tot (lazarettoref13_sites_b (lazarettoref13_sites_g n) p l e around) _
    unfold lazarettoref13_sites_b lazarettoref13_to
    simp only [refSite, Option.bind_some]
    refine Tot.ite (fun h21 => ?_) fun _ => (lp l _ (fun l i => rfl) hl).bind fun r hr => Tot.mk hr
    have := s0 e.Name
    rw [w64_id (n := (p.Vars.length : Int) + (p.Blocks.length : Int)) (by omega) (by omega), w64_id (n := 2 * siteN p e.Name) (by omega) (by omega), w64_id (n := (p.Vars.length : Int) + (p.Blocks.length : Int) + 2 * siteN p e.Name) (by omega) (by omega), w64_id (n := (p.Vars.length : Int) + (p.Blocks.length : Int) + 2 * siteN p e.Name + 1) (by omega) (by omega)]
    refine (Tot.get (by omega)).bind fun x hx => ?_
    refine ((has_t13 P 1000000 x (by have := szEs_mem hx.1; omega) (by have := depEs_mem hx.1; omega))).bind fun r ⟨q, _⟩ => (each_t13 hl q (y := _) ?_).bind fun r1 h1 => (each_t13 h1 ha (y := _) ?_).bind fun r2 h2 => (lp r2 _ (fun l i => rfl) h2).bind fun r hr => Tot.mk hr
    · rw [w64_id (by omega) (by omega)]; unfold rg; omega
    · unfold rg; omega
theorem both_t13 {a b : List Int} (ha : a.length ≤ 1000000000) (hb : b.length ≤ 1000000000) (qa : ∀ x ∈ a, rg x) (qb : ∀ x ∈ b, rg x) : Tot (lazarettoref13_both a b) fun r => (∀ x ∈ r, rg x) ∧ r.length ≤ a.length + b.length := by
  have inner : ∀ (out : List Int) (i : Nat) (f : Bool × Nat → Option ((Bool × Nat) ⊕ Bool)), i < b.length → (∀ t k, f (t, k) = if (k : Int) < (out.length : Int) then (if t = true then (some (.inr t)) else ((out[k]?).bind fun x_11 => (b[i]?).bind fun x_12 => some (.inl ((decide (x_11 = x_12)), (k + 1))))) else (some (.inr t))) → Tot (loop f (false, 0)) fun _ => True := fun out i f hi hf => by
    refine Tot.loop (fun s => s.2 ≤ out.length) (fun s => out.length - s.2) (Nat.zero_le _) fun ⟨t, k⟩ hk => ?_
    simp only at hk
    rw [hf]
    exact Tot.ite (fun h' => Tot.ite (fun _ => Tot.mk trivial) fun _ => (Tot.get (by omega)).bind fun _ _ => (Tot.get hi).bind fun _ _ => Tot.mk ⟨by simp only; omega, by simp only; omega⟩) fun _ => Tot.mk trivial
  have outer : ∀ (o : List Int) (f : List Int × Nat → Option ((List Int × Nat) ⊕ List Int)) (g : List Int → Nat → Bool × Nat → Option ((Bool × Nat) ⊕ Bool)), (∀ o i t k, g o i (t, k) = if (k : Int) < (o.length : Int) then (if t = true then (some (.inr t)) else ((o[k]?).bind fun x_11 => (b[i]?).bind fun x_12 => some (.inl ((decide (x_11 = x_12)), (k + 1))))) else (some (.inr t))) → (∀ o i, f (o, i) = if (i : Int) < (b.length : Int) then ((loop (g o i) (false, 0)).bind (fun e_9 => if e_9 = true then (some (.inl (o, (i + 1)))) else ((b[i]?).bind fun x_14 => need ((o.length + 1) * 8 ≤ 140737488355328) (some (.inl ((o ++ [x_14]), (i + 1))))))) else (some (.inr o))) → (∀ x ∈ o, rg x) → o.length ≤ a.length → Tot (loop f (o, 0)) fun r => (∀ x ∈ r, rg x) ∧ r.length ≤ a.length + b.length := fun o f g hg hf qo ho => by
    refine Tot.loop (fun s => s.2 ≤ b.length ∧ (∀ x ∈ s.1, rg x) ∧ s.1.length ≤ a.length + s.2) (fun s => b.length - s.2) ⟨Nat.zero_le _, qo, by simp only; omega⟩ fun ⟨o, i⟩ ⟨hi, hr, hz⟩ => ?_
    simp only at hi hr hz
    rw [hf]
    refine Tot.ite (fun h' => ?_) fun _ => Tot.mk ⟨hr, by omega⟩
    have hi' : i < b.length := by omega
    refine (inner o i _ hi' (hg o i)).bind fun t _ => Tot.ite (fun _ => Tot.mk ⟨⟨hi', hr, by simp only; omega⟩, by simp only; omega⟩) fun _ => (Tot.get hi').bind fun x hx => Tot.need (by omega) (Tot.mk ⟨⟨hi', fun y hy => ?_, by simp only [List.length_append, List.length_singleton]; omega⟩, by simp only; omega⟩)
    rcases List.mem_append.1 hy with hy | hy
    · exact hr y hy
    · rw [List.mem_singleton.1 hy]; exact qb x hx.1
  unfold lazarettoref13_both
  refine Tot.ite (fun _ => ?_) fun _ => Tot.need (by omega) ?_
  · exact (outer [] _ (lazarettoref13_both_L2 b) (fun o i t k => rfl) (fun o i => rfl) (fun y hy => by cases hy) (Nat.zero_le _)).bind fun r hr => Tot.mk hr
  · exact (outer a _ (lazarettoref13_both_L4 b) (fun o i t k => rfl) (fun o i => rfl) qa (Nat.le_refl _)).bind fun r hr => Tot.mk hr
end Go.Lz

end
section
/- P13c (r8): the reference's labels: Infer answers. -/
namespace Go.Lz
set_option linter.unusedVariables false
set_option linter.unusedSimpArgs false
theorem sites13 {p : api_Program} (P : GoodP p) {around : List Int} (ha : ∀ x ∈ around, rg x) {e : api_Expr} (g : GoodE e) {l : List (A2 Int)} (hl : SL l) : Tot (lazarettoref13_sites p l e around) SL :=
  sites_t13 P ha 1000000 e l g.ok (by have := g.sz; omega) (by have := g.dep; omega) (by have := g.dep; omega) hl
theorem terms_t13 {p : api_Program} (P : GoodP p) {around : List Int} (ha : ∀ x ∈ around, rg x) {t : List api_Expr} (ht : ∀ x ∈ t, GoodE x) (hn : t.length ≤ 16384) {l : List (A2 Int)} (hl : SL l) :
    Tot (lazarettoref13_terms p l t around) fun r => SL r.1 ∧ (∀ x ∈ r.2, rg x) ∧ r.2.length ≤ 330000000 := by
  unfold lazarettoref13_terms
  refine Tot.bind (Tot.loop (fun s : List (A2 Int) × List Int × Nat => s.2.2 ≤ t.length ∧ SL s.1 ∧ (∀ x ∈ s.2.1, rg x) ∧ s.2.1.length ≤ 20000 * s.2.2) (R := fun r => SL r.1 ∧ (∀ x ∈ r.2, rg x) ∧ r.2.length ≤ 330000000) (fun s => t.length - s.2.2) ⟨Nat.zero_le _, hl, (fun y hy => by cases hy), Nat.zero_le _⟩ fun ⟨l, h, i⟩ ⟨hi, h1, h2, h3⟩ => ?_) fun r hr => Tot.mk hr
  simp only at hi h1 h2 h3
  unfold lazarettoref13_terms_L1
  refine Tot.ite (fun h' => ?_) fun _ => Tot.mk ⟨h1, h2, by simp only; omega⟩
  refine (Tot.get (by omega)).bind fun x hx => (sites13 P ha (ht x hx.1) h1).bind fun r q => (has13 P (ht x hx.1)).bind fun g ⟨g1, g2⟩ => (both_t13 (by omega) (by omega) h2 g1).bind fun b ⟨b1, b2⟩ => Tot.mk ⟨⟨by simp only; omega, q, b1, by simp only; omega⟩, by simp only; omega⟩
theorem stmts_t13 {p : api_Program} (P : GoodP p) : ∀ (n : Nat) (s : List api_Stmt) (l : List (A2 Int)) (around : List Int), fmSs s → depSs s ≤ 1000 → depSs s + 1 ≤ n → SL l → (∀ x ∈ around, rg x) → around.length + 20001 * depSs s ≤ 100000000 → Tot (lazarettoref13_stmts_g n p l s around) SL
  | 0, s, _, _, _, _, h, _, _, _ => by omega
  | n + 1, s, l, around, ok, hd, h, hl, ha, hz => by
    have p1 := P.nv; have p2 := P.nb
    have v0 : ∀ s, rg (varN p s) := fun s => by have := findN_rg (q := fun (v : api_Var) => decide (v.Name = s)) p1; unfold varN rg; omega
    have b0 : ∀ s, -1 ≤ blockN p s ∧ blockN p s < 12 := fun s => by have := findN_rg (q := fun (v : api_Block) => decide (v.Name = s)) p2; unfold blockN; omega
    show Tot (lazarettoref13_stmts_b (lazarettoref13_stmts_g n) p l s around) _
    unfold lazarettoref13_stmts_b
    refine Tot.bind (Tot.loop (fun x => x.2 ≤ s.length ∧ SL x.1) (R := SL) (fun x => s.length - x.2) ⟨Nat.zero_le _, hl⟩ fun ⟨l, i⟩ ⟨hi, hl⟩ => ?_) fun r hr => Tot.mk hr
    simp only at hi hl
    unfold lazarettoref13_stmts_L1
    simp only [refVar, refBlock, Option.bind_some]
    refine Tot.ite (fun h' => (Tot.get (by omega)).bind fun x hx => ?_) fun _ => Tot.mk hl
    have fx := fmSs_mem ok x hx.1
    have dx := depSs_mem hx.1
    have F := fmS_form fx
    rw [fmS_eq] at fx
    rw [depS_eq] at dx
    have K := F.kinds
    have go : ∀ r : List (A2 Int), SL r → Rd (fun x => x.2 ≤ s.length ∧ SL x.1) SL (fun x : List (A2 Int) × Nat => s.length - x.2) (s.length - i) (.inl (r, i + 1)) := fun r hr => ⟨⟨by simp only; omega, hr⟩, by simp only; omega⟩
    have sub : ∀ (b : List api_Stmt) (r : List (A2 Int)) (ar : List Int), fmSs b → depSs b + 1 ≤ depSs s → SL r → (∀ x ∈ ar, rg x) → ar.length ≤ around.length + 20000 → Tot (lazarettoref13_stmts_g n p r b ar) SL := fun b r ar h1 h2 h3 h4 h5 => stmts_t13 P n b r ar h1 (by omega) (by omega) h3 h4 (by omega)
    have hz' : around.length ≤ 100000000 := by omega
    refine Tot.ite (fun k => ?_) fun k1 => Tot.ite (fun k => ?_) fun k2 => Tot.ite (fun k => ?_) fun k3 => Tot.ite (fun k => ?_) fun k4 => Tot.ite (fun k => ?_) fun k5 => Tot.mk (go l hl)
    · obtain ⟨gt, op, gv⟩ : GoodE x.Target ∧ (x.Target.Op = 2 ∨ (x.Target.Op = 3 ∧ x.Target.Args.length = 1)) ∧ GoodE x.Value := by
        rcases K with h | h | h | h
        · exact h.2.2.2.2
        all_goals omega
      have t2 : Tot (lazarettoref13_both2 x) fun r => (∀ y ∈ r, GoodE y) ∧ r.length ≤ 16384 := by
        unfold lazarettoref13_both2
        refine Tot.ite (fun o => (Tot.get (by omega)).bind fun y hy => Tot.mk ⟨fun z hz => ?_, by simp⟩) fun _ => Tot.mk ⟨fun z hz => by rw [List.mem_singleton.1 hz]; exact gv, by simp⟩
        rcases List.mem_cons.1 hz with e | hz
        · rw [e]
          have ht := gt.ok
          rw [fmE_eq] at ht
          exact ⟨fmEs_mem ht.2 y hy.1, by have := gt.dep; rw [depE_eq] at this; have := depEs_mem hy.1; omega, by have := gt.sz; rw [szE_eq] at this; have := szEs_mem hy.1; omega⟩
        · rw [List.mem_singleton.1 hz]; exact gv
      exact t2.bind fun t ht => (terms_t13 P ha ht.1 ht.2 hl).bind fun r ⟨r1, r2, r3⟩ => (both_t13 (by omega) (by omega) r2 ha).bind fun b hb => (each_t13 r1 hb.1 (v0 _)).bind fun q hq => Tot.mk (go q hq)
    · have gv : GoodE x.Value := by
        rcases K with h | h | h | h
        · omega
        · exact h.2.2.2
        all_goals omega
      refine (has13 P gv).bind fun g ⟨g1, g2⟩ => (both_t13 (by omega) (by omega) ha g1).bind fun b ⟨b1, b2⟩ => Tot.ite (fun _ => by omega) fun _ => (sites13 P ha gv hl).bind fun r hr => ?_
      exact (sub x.Body r b fx.2.1 (by omega) hr b1 (by omega)).bind fun r hr => (sub x.Else r b fx.2.2 (by omega) hr b1 (by omega)).bind fun r hr => Tot.mk (go r hr)
    · have gv : GoodE x.Value := by
        rcases K with h | h | h | h
        · omega
        · exact h.2.2.2
        all_goals omega
      refine (has13 P gv).bind fun g ⟨g1, g2⟩ => (both_t13 (by omega) (by omega) ha g1).bind fun b ⟨b1, b2⟩ => (sites13 P b1 gv hl).bind fun r hr => ?_
      exact (sub x.Body r b fx.2.1 (by omega) hr b1 (by omega)).bind fun r hr => (sub x.Else r b fx.2.2 (by omega) hr b1 (by omega)).bind fun r hr => Tot.mk (go r hr)
    · refine (terms_t13 P ha F.args F.alen hl).bind fun r ⟨r1, r2, r3⟩ => (both_t13 (by omega) (by omega) r2 ha).bind fun b hb => (each_t13 r1 hb.1 (v0 _)).bind fun q hq => (both_t13 (by omega) (by simp) ha (fun y hy => by rw [List.mem_singleton.1 hy]; exact v0 _)).bind fun ar ⟨a1, a2⟩ => ?_
      simp only [List.length_singleton] at a2
      exact (sub x.Body q ar fx.2.1 (by omega) hq a1 (by omega)).bind fun r hr => Tot.mk (go r hr)
    · refine (terms_t13 P ha F.args F.alen hl).bind fun r ⟨r1, r2, r3⟩ => (both_t13 (by omega) (by omega) r2 ha).bind fun b hb => (each_t13 r1 hb.1 ?_).bind fun q hq => Tot.mk (go q hq)
      have := b0 x.Name
      unfold rg; rw [w64_id (by omega) (by omega)]; omega
theorem rules_t13 {p : api_Program} (G : GoodAll p) (hd : ∀ t ∈ p.Tasks, depSs t.Body ≤ 120) : Tot (lazarettoref13_Rules p) SL := by
  unfold lazarettoref13_Rules
  refine Tot.bind (Tot.loop (fun x => x.2 ≤ p.Tasks.length ∧ SL x.1) (R := SL) (fun x => p.Tasks.length - x.2) ⟨Nat.zero_le _, SL.nil⟩ fun ⟨l, i⟩ ⟨hi, hl⟩ => ?_) fun r hr => Tot.mk hr
  simp only at hi hl
  unfold lazarettoref13_Rules_L1
  exact Tot.ite (fun h' => (Tot.get (by omega)).bind fun t ht => (stmts_t13 G.P 1000000 t.Body l [] (G.T t ht.1).ok (by have := hd t ht.1; omega) (by have := hd t ht.1; omega) hl (fun y hy => by cases hy) (by have := hd t ht.1; simp; omega)).bind fun r hr => Tot.mk ⟨⟨by simp only; omega, hr⟩, by simp only; omega⟩) fun _ => Tot.mk hl
theorem told_t13 {p : api_Program} (P : GoodP p) : Tot (lazarettoref13_told p) fun r => r.length = p.Vars.length + p.Blocks.length := by
  have p1 := P.nv; have p2 := P.nb
  unfold lazarettoref13_told
  refine Tot.bind (Tot.loop (fun x => x.2 ≤ p.Vars.length ∧ x.1.length = x.2) (R := fun r => r.length = p.Vars.length) (fun x => p.Vars.length - x.2) ⟨Nat.zero_le _, rfl⟩ fun ⟨l, i⟩ ⟨hi, hl⟩ => ?_) fun l1 h1 => ?_
  · simp only at hi hl
    unfold lazarettoref13_told_L1
    exact Tot.ite (fun h' => (Tot.get (by omega)).bind fun t ht => Tot.need (by omega) (Tot.mk ⟨⟨by simp only; omega, by simp [hl]⟩, by simp only; omega⟩)) fun _ => Tot.mk (show l.length = _ by omega)
  · refine Tot.bind (Tot.loop (fun x => x.2 ≤ p.Blocks.length ∧ x.1.length = p.Vars.length + x.2) (R := fun r => r.length = p.Vars.length + p.Blocks.length) (fun x => p.Blocks.length - x.2) ⟨Nat.zero_le _, h1⟩ fun ⟨l, i⟩ ⟨hi, hl⟩ => ?_) fun r hr => Tot.mk hr
    simp only at hi hl
    unfold lazarettoref13_told_L2
    exact Tot.ite (fun h' => (Tot.get (by omega)).bind fun t ht => Tot.need (by omega) (Tot.mk ⟨⟨by simp only; omega, by simp only [List.length_append, List.length_singleton]; omega⟩, by simp only; omega⟩)) fun _ => Tot.mk (show l.length = _ by omega)
theorem all_t13 {p : api_Program} (P : GoodP p) {labels : List Int} : Tot (lazarettoref13_all p labels) fun r => r.length = p.Vars.length + p.Blocks.length + 2 * p.Sites.length := by
  have p1 := P.nv; have p2 := P.nb; have p3 := P.ns
  unfold lazarettoref13_all
  refine Tot.bind (Tot.loop (fun x => x.2 ≤ p.Vars.length + p.Blocks.length ∧ x.1.length = x.2) (R := fun r => r.length = p.Vars.length + p.Blocks.length) (fun x => p.Vars.length + p.Blocks.length - x.2) ⟨Nat.zero_le _, rfl⟩ fun ⟨l, i⟩ ⟨hi, hl⟩ => ?_) fun l1 h1 => ?_
  · simp only at hi hl
    unfold lazarettoref13_all_L1
    rw [w64_id (by omega) (by omega)]
    exact Tot.ite (fun h' => Tot.ite (fun _ => (Tot.get (by omega)).bind fun t ht => Tot.need (by omega) (Tot.mk ⟨⟨by simp only; omega, by simp [hl]⟩, by simp only; omega⟩)) fun _ => Tot.need (by omega) (Tot.mk ⟨⟨by simp only; omega, by simp [hl]⟩, by simp only; omega⟩)) fun _ => Tot.mk (show l.length = _ by omega)
  · refine Tot.bind (Tot.loop (fun x => x.2 ≤ p.Sites.length ∧ x.1.length = p.Vars.length + p.Blocks.length + 2 * x.2) (R := fun r => r.length = p.Vars.length + p.Blocks.length + 2 * p.Sites.length) (fun x => p.Sites.length - x.2) ⟨Nat.zero_le _, h1⟩ fun ⟨l, i⟩ ⟨hi, hl⟩ => ?_) fun r hr => Tot.mk hr
    simp only at hi hl
    unfold lazarettoref13_all_L2
    exact Tot.ite (fun h' => (Tot.get (by omega)).bind fun t ht => Tot.need (by omega) (Tot.mk ⟨⟨by simp only; omega, by simp only [List.length_append, List.length_cons, List.length_nil]; omega⟩, by simp only; omega⟩)) fun _ => Tot.mk (show l.length = _ by omega)
theorem infer_t13 {p : api_Program} (G : GoodAll p) (hd : ∀ t ∈ p.Tasks, depSs t.Body ≤ 120) (L : Lat p.Lattice) : Tot (lazarettoref13_Infer p) fun r => r.2 = 0 → r.1.length = p.Vars.length + p.Blocks.length := by
  have P := G.P
  have p1 := P.nv; have p2 := P.nb; have p3 := P.ns
  unfold lazarettoref13_Infer
  refine (told_t13 P).bind fun t _ => (all_t13 P).bind fun f hf => (rules_t13 G hd).bind fun rules _ => ?_
  obtain ⟨r, hr, hL⟩ := least02 L (fixed := f) (by omega) rules
  rw [hr, Option.bind_some, w64_id (by omega) (by omega)]
  refine Tot.ite (fun h => ?_) fun _ => Tot.mk fun h => by cases h
  have := hL.len h
  exact Tot.need (by omega) (Tot.mk fun _ => by simp only [List.length_take]; omega)
end Go.Lz

end
section
/- P14 (r8): whether a program may be is reckoned out for whatever program is few enough; what one that may be is like. -/
namespace Go.Lz
set_option linter.unusedVariables false
set_option linter.unusedSimpArgs false
theorem sum_t14 (l : List Int) : Tot (lazarettoref14_Sum l) fun _ => True := by
  unfold lazarettoref14_Sum
  refine Tot.bind (Tot.loop (fun s : Int × Nat => s.2 ≤ l.length) (R := fun _ => True) (fun s => l.length - s.2) (Nat.zero_le _) fun ⟨n, i⟩ hi => ?_) fun r _ => Tot.mk trivial
  simp only at hi
  unfold lazarettoref14_Sum_L1
  exact Tot.ite (fun h' => (Tot.get (by omega)).bind fun x hx => Tot.mk ⟨by simp only; omega, by simp only; omega⟩) fun _ => Tot.mk trivial
theorem loops_t14 : ∀ (n : Nat) (l : List api_Stmt), depSs l + 1 ≤ n → Tot (lazarettoref14_loops_g n l) fun _ => True
  | 0, l, h => by omega
  | n + 1, l, h => by
    show Tot (lazarettoref14_loops_b (lazarettoref14_loops_g n) l) _
    unfold lazarettoref14_loops_b
    refine Tot.bind (Tot.loop (fun s : Int × Nat => s.2 ≤ l.length) (R := fun _ => True) (fun s => l.length - s.2) (Nat.zero_le _) fun ⟨m, i⟩ hi => ?_) fun r _ => Tot.mk trivial
    simp only at hi
    unfold lazarettoref14_loops_L1
    refine Tot.ite (fun h' => (Tot.get (by omega)).bind fun x hx => ?_) fun _ => Tot.mk trivial
    have dx := depSs_mem hx.1
    rw [depS_eq] at dx
    exact Tot.ite (fun _ => (loops_t14 n x.Body (by omega)).bind fun _ _ => (loops_t14 n x.Else (by omega)).bind fun _ _ => Tot.mk ⟨by simp only; omega, by simp only; omega⟩) fun _ => (loops_t14 n x.Body (by omega)).bind fun _ _ => (loops_t14 n x.Else (by omega)).bind fun _ _ => Tot.mk ⟨by simp only; omega, by simp only; omega⟩
theorem caps_t14 (p : api_Program) (hd : ∀ t ∈ p.Tasks, depSs t.Body ≤ 1000) : Tot (lazarettoref14_caps p) fun b => b = true → GoodAll p := by
  unfold lazarettoref14_caps
  refine (check08 p hd).bind fun b hb => Tot.ite (fun h => ?_) fun _ => Tot.mk fun h => by cases h
  have G : GoodAll p := ⟨(hb h).1, (hb h).2, hd⟩
  refine Tot.ite (fun _ => Tot.mk fun _ => G) fun _ => ?_
  refine Tot.bind (Tot.loop (fun s : Int × Nat => s.2 ≤ p.Tasks.length) (R := fun _ => True) (fun s => p.Tasks.length - s.2) (Nat.zero_le _) fun ⟨m, i⟩ hi => ?_) fun r _ => by cases r <;> exact Tot.mk fun _ => G
  simp only at hi
  unfold lazarettoref14_caps_L1
  exact Tot.ite (fun h' => (Tot.get (by omega)).bind fun x hx => (loops_t14 1000000 x.Body (by have := hd x hx.1; omega)).bind fun _ _ => (sum_t14 _).bind fun _ _ => Tot.ite (fun _ => Tot.mk trivial) fun _ => Tot.mk ⟨by simp only; omega, by simp only; omega⟩) fun _ => Tot.mk trivial
end Go.Lz

end
section
/- P14b (r8): whether two programs are the same is reckoned out. -/
namespace Go.Lz
set_option linter.unusedVariables false
set_option linter.unusedSimpArgs false
theorem same_loop {α : Type} {a b : List α} (hl : a.length = b.length) {f : Nat → Option (Nat ⊕ (Bool ⊕ Unit))} (step : ∀ i (h1 : i < a.length) (h2 : i < b.length), Tot (f i) fun r => (r = .inl (i + 1) ∧ a[i] = b[i]) ∨ r = .inr (.inl false)) (last : f a.length = some (.inr (.inr ()))) :
    Tot (loop f 0) fun r => (r = .inr () ∧ a = b) ∨ r = .inl false := by
  refine Tot.loop (fun i => i ≤ a.length ∧ ∀ j (h1 : j < a.length) (h2 : j < b.length), j < i → a[j] = b[j]) (fun i => a.length - i) ⟨Nat.zero_le _, fun j _ _ hj => by omega⟩ fun i ⟨hi, hI⟩ => ?_
  by_cases h' : i < a.length
  · refine (step i h' (by omega)).imp fun r hr => ?_
    rcases hr with ⟨rfl, he⟩ | rfl
    · refine ⟨⟨h', fun j h1 h2 hj => ?_⟩, by simp only; omega⟩
      by_cases e : j = i
      · subst e; exact he
      · exact hI j h1 h2 (by omega)
    · exact .inr rfl
  · have e : i = a.length := by omega
    subst e
    refine ⟨_, last, .inl ⟨rfl, ?_⟩⟩
    exact List.ext_getElem hl fun j h1 h2 => hI j h1 h2 h1
theorem no_t {Q : Prop} : Tot (some false) fun b => b = true → Q := Tot.mk fun h => by cases h
theorem bad_t {g : Prop} {i : Nat} : Tot (some (.inr (.inl false)) : Option (Nat ⊕ (Bool ⊕ Unit))) fun r => (r = .inl (i + 1) ∧ g) ∨ r = .inr (.inl false) := Tot.mk (.inr rfl)
theorem after_t {Q : Prop} {a : Prop} {x : Option (Bool ⊕ Unit)} (h : Tot x fun r => (r = .inr () ∧ a) ∨ r = .inl false) {k : Bool ⊕ Unit → Option Bool} (k1 : a → Tot (k (.inr ())) fun b => b = true → Q) (k0 : k (.inl false) = some false) : Tot (x.bind k) fun b => b = true → Q := by
  refine h.bind fun r hr => ?_
  rcases hr with ⟨rfl, ha⟩ | rfl
  · exact k1 ha
  · rw [k0]; exact no_t
theorem same06 : ∀ (n : Nat) (a b : api_Expr), depE a ≤ n → Tot (lazarettoref06_Same_g n a b) fun r => r = true → a = b
  | 0, a, b, h => by rw [depE_eq] at h; omega
  | n + 1, a, b, h => by
    rw [depE_eq] at h
    show Tot (lazarettoref06_Same_b (lazarettoref06_Same_g n) a b) _
    unfold lazarettoref06_Same_b
    refine Tot.ite (fun h1 => Tot.ite (fun h2 => Tot.ite (fun h3 => Tot.ite (fun h4 => Tot.ite (fun h5 => ?_) fun _ => no_t) fun _ => no_t) fun _ => no_t) fun _ => no_t) fun _ => no_t
    refine after_t (same_loop (a := a.Args) (b := b.Args) (by omega) (fun i q1 q2 => ?_) (by simp [lazarettoref06_Same_L1])) (fun e => Tot.mk fun _ => ?_) rfl
    · unfold lazarettoref06_Same_L1
      refine Tot.ite (fun _ => (Tot.get q1).bind fun x ⟨hx, ex⟩ => (Tot.get q2).bind fun y ⟨_, ey⟩ => (same06 n x y (by have := depEs_mem hx; omega)).bind fun r hr => Tot.ite (fun hr' => Tot.mk (.inl ⟨rfl, ?_⟩)) fun _ => bad_t) fun h => by omega
      rw [← ex, ← ey]; exact hr hr'
    · cases a; cases b; simp only at h1 h2 h3 h4 e; simp [h1, h2, h3, h4, e]
theorem same06' {a b : api_Expr} (h : depE a ≤ 1000000) : Tot (lazarettoref06_Same a b) fun r => r = true → a = b := same06 1000000 a b h
theorem same07 : ∀ (n : Nat) (a b : List api_Stmt), depSs a + 1 ≤ n → depSs a ≤ 1000 → Tot (lazarettoref07_Same_g n a b) fun r => r = true → a = b
  | 0, a, b, h, _ => by omega
  | n + 1, a, b, h, hd => by
    show Tot (lazarettoref07_Same_b (lazarettoref07_Same_g n) a b) _
    unfold lazarettoref07_Same_b
    refine Tot.ite (fun hl => ?_) fun _ => no_t
    refine after_t (same_loop (a := a) (b := b) (by omega) (fun i q1 q2 => ?_) (by simp [lazarettoref07_Same_L1])) (fun e => Tot.mk fun _ => e) rfl
    unfold lazarettoref07_Same_L1
    refine Tot.ite (fun _ => (Tot.get q1).bind fun x ⟨hx, ex⟩ => (Tot.get q2).bind fun y ⟨_, ey⟩ => ?_) fun h => by omega
    rw [← ex, ← ey]
    have dx := depSs_mem hx
    rw [depS_eq] at dx
    refine Tot.ite (fun h1 => Tot.ite (fun h2 => (same06' (by omega)).bind fun _ h3 => Tot.ite (fun t3 => (same06' (by omega)).bind fun _ h4 => Tot.ite (fun t4 => (same06' (by rw [depE_eq]; simp only; omega)).bind fun _ h5 => Tot.ite (fun t5 => (same07 n x.Body y.Body (by omega) (by omega)).bind fun _ h6 => Tot.ite (fun t6 => (same07 n x.Else y.Else (by omega) (by omega)).bind fun _ h7 => Tot.ite (fun t7 => Tot.mk (.inl ⟨rfl, ?_⟩)) fun _ => bad_t) fun _ => bad_t) fun _ => bad_t) fun _ => bad_t) fun _ => bad_t) fun _ => bad_t) fun _ => bad_t
    have e3 := h3 t3; have e4 := h4 t4; have e5 := h5 t5; have e6 := h6 t6; have e7 := h7 t7
    cases x; cases y
    simp only [api_Expr.mk.injEq, true_and] at h1 h2 e3 e4 e5 e6 e7
    simp [h1, h2, e3, e4, e5, e6, e7]
theorem ints04 (a b : List Int) : Tot (lazarettoref04_Ints a b) fun r => r = true → a = b := by
  unfold lazarettoref04_Ints
  refine Tot.ite (fun hl => ?_) fun _ => no_t
  refine after_t (same_loop (a := a) (b := b) (by omega) (fun i q1 q2 => ?_) (by simp [lazarettoref04_Ints_L1])) (fun e => Tot.mk fun _ => e) rfl
  unfold lazarettoref04_Ints_L1
  exact Tot.ite (fun _ => (Tot.get q1).bind fun x ⟨_, ex⟩ => (Tot.get q2).bind fun y ⟨_, ey⟩ => Tot.ite (fun e => Tot.mk (.inl ⟨rfl, by rw [← ex, ← ey]; exact e⟩)) fun _ => bad_t) fun h => by omega
theorem same01 (a b : api_Lattice) : Tot (lazarettoref01_Same a b) fun r => r = true → a = b := by
  unfold lazarettoref01_Same
  refine Tot.ite (fun l1 => Tot.ite (fun l2 => ?_) fun _ => no_t) fun _ => no_t
  refine after_t (same_loop (a := a.Names) (b := b.Names) (by omega) (fun i q1 q2 => ?_) (by simp [lazarettoref01_Same_L1])) (fun e1 => ?_) rfl
  · unfold lazarettoref01_Same_L1
    exact Tot.ite (fun _ => (Tot.get q1).bind fun x ⟨_, ex⟩ => (Tot.get q2).bind fun y ⟨_, ey⟩ => Tot.ite (fun e => Tot.mk (.inl ⟨rfl, by rw [← ex, ← ey]; exact e⟩)) fun _ => bad_t) fun h => by omega
  refine after_t (same_loop (a := a.Below) (b := b.Below) (by omega) (fun i q1 q2 => ?_) (by simp [lazarettoref01_Same_L2])) (fun e2 => Tot.mk fun _ => ?_) rfl
  · unfold lazarettoref01_Same_L2
    refine Tot.ite (fun _ => (Tot.get q1).bind fun x ⟨_, ex⟩ => (Tot.get q2).bind fun y ⟨_, ey⟩ => Tot.ite (fun e => Tot.mk (.inl ⟨rfl, ?_⟩)) fun _ => bad_t) fun h => by omega
    rw [← ex, ← ey]; cases x; cases y; simp only at e; simp [e]
  · cases a; cases b; simp only at e1 e2; simp [e1, e2]
theorem same08 {a b : api_Program} (hd : ∀ t ∈ a.Tasks, depSs t.Body ≤ 1000) : Tot (lazarettoref08_Same a b) fun r => r = true → a = b := by
  unfold lazarettoref08_Same
  refine (same01 _ _).bind fun r hr => Tot.ite (fun t0 => Tot.ite (fun l1 => Tot.ite (fun l2 => Tot.ite (fun l3 => Tot.ite (fun l4 => ?_) fun _ => no_t) fun _ => no_t) fun _ => no_t) fun _ => no_t) fun _ => no_t
  refine after_t (same_loop (a := a.Sites) (b := b.Sites) (by omega) (fun i q1 q2 => ?_) (by simp [lazarettoref08_Same_L1])) (fun e1 => ?_) rfl
  · unfold lazarettoref08_Same_L1
    refine Tot.ite (fun _ => (Tot.get q1).bind fun x ⟨_, ex⟩ => (Tot.get q2).bind fun y ⟨_, ey⟩ => Tot.ite (fun e => Tot.mk (.inl ⟨rfl, ?_⟩)) fun _ => bad_t) fun h => by omega
    rw [← ex, ← ey]; cases x; cases y; simp only at e; simp [e]
  refine after_t (same_loop (a := a.Vars) (b := b.Vars) (by omega) (fun i q1 q2 => ?_) (by simp [lazarettoref08_Same_L2])) (fun e2 => ?_) rfl
  · unfold lazarettoref08_Same_L2
    refine Tot.ite (fun _ => (Tot.get q1).bind fun x ⟨_, ex⟩ => (Tot.get q2).bind fun y ⟨_, ey⟩ => Tot.ite (fun e => Tot.mk (.inl ⟨rfl, ?_⟩)) fun _ => bad_t) fun h => by omega
    rw [← ex, ← ey]
    obtain ⟨n1, t1, m1, b1, s1⟩ := x; obtain ⟨n2, t2, m2, b2, s2⟩ := y
    cases t1; cases t2
    simp only at e; simp [e]
  refine after_t (same_loop (a := a.Blocks) (b := b.Blocks) (by omega) (fun i q1 q2 => ?_) (by simp [lazarettoref08_Same_L3])) (fun e3 => ?_) rfl
  · unfold lazarettoref08_Same_L3
    refine Tot.ite (fun _ => (Tot.get q1).bind fun x ⟨_, ex⟩ => (Tot.get q2).bind fun y ⟨_, ey⟩ => Tot.ite (fun e => Tot.mk (.inl ⟨rfl, ?_⟩)) fun _ => bad_t) fun h => by omega
    rw [← ex, ← ey]; cases x; cases y; simp only at e; simp [e]
  refine after_t (same_loop (a := a.Tasks) (b := b.Tasks) (by omega) (fun i q1 q2 => ?_) (by simp [lazarettoref08_Same_L4])) (fun e4 => Tot.mk fun _ => ?_) rfl
  · unfold lazarettoref08_Same_L4 lazarettoref08_sameTask
    refine Tot.ite (fun _ => (Tot.get q1).bind fun x ⟨hx, ex⟩ => (Tot.get q2).bind fun y ⟨_, ey⟩ => ?_) fun h => by omega
    have : Tot (if x.Every = y.Every then (if x.Priority = y.Priority then ((lazarettoref04_Ints x.Budget y.Budget).bind fun r_1 => if r_1 = true then ((lazarettoref07_Same x.Body y.Body).bind fun r_2 => some r_2) else (some false)) else (some false)) else (some false)) fun r => r = true → x = y := by
      refine Tot.ite (fun h1 => Tot.ite (fun h2 => (ints04 _ _).bind fun r3 h3 => Tot.ite (fun t3 => (same07 1000000 x.Body y.Body (by have := hd x hx; omega) (hd x hx)).bind fun r4 h4 => Tot.mk fun t4 => ?_) fun _ => no_t) fun _ => no_t) fun _ => no_t
      have e3 := h3 t3; have e4 := h4 t4
      cases x; cases y; simp only at h1 h2 e3 e4; simp [h1, h2, e3, e4]
    refine this.bind fun r hr => Tot.ite (fun t => Tot.mk (.inl ⟨rfl, ?_⟩)) fun _ => bad_t
    rw [← ex, ← ey]; exact hr t
  · have e0 := hr t0
    cases a; cases b; simp only at e0 e1 e2 e3 e4; simp [e0, e1, e2, e3, e4]
end Go.Lz

end
section
/- P14c (r8): whether a program may be is reckoned out; what one that may be is like. -/
namespace Go.Lz
set_option linter.unusedVariables false
set_option linter.unusedSimpArgs false
theorem set_loop {α : Type} (g : α → Int → α) {labels : List Int} {off : Nat} {xs0 : List α} (hl : off + xs0.length ≤ labels.length) {f : List α × Nat → Option ((List α × Nat) ⊕ List α)}
    (hf : ∀ (xs : List α) i, xs.length = xs0.length → i < xs.length → f (xs, i) = (labels[off + i]?).bind fun l => (xs[i]?).bind fun x => some (.inl (xs.set i (g x l), i + 1))) (last : ∀ xs : List α, f (xs, xs.length) = some (.inr xs)) :
    Tot (loop f (xs0, 0)) fun r => r.length = xs0.length ∧ ∀ i (h : i < r.length) (h0 : i < xs0.length) (h1 : off + i < labels.length), r[i] = g xs0[i] labels[off + i] := by
  refine Tot.loop (fun s : List α × Nat => s.2 ≤ s.1.length ∧ s.1.length = xs0.length ∧ (∀ i (h : i < s.1.length) (h0 : i < xs0.length) (h1 : off + i < labels.length), i < s.2 → s.1[i] = g xs0[i] labels[off + i]) ∧ ∀ i (h : i < s.1.length) (h0 : i < xs0.length), s.2 ≤ i → s.1[i] = xs0[i]) (fun s => xs0.length - s.2) ⟨Nat.zero_le _, rfl, fun i _ _ _ h => by simp only at h; omega, fun i _ _ _ => rfl⟩ fun ⟨xs, i⟩ ⟨hi, hn, h1, h2⟩ => ?_
  simp only at hi hn h1 h2
  by_cases h' : i < xs.length
  · rw [hf xs i hn h']
    refine (Tot.get (by omega)).bind fun l ⟨_, el⟩ => (Tot.get h').bind fun x ⟨_, ex⟩ => Tot.mk ⟨⟨by simp only [List.length_set]; omega, by simp only [List.length_set]; exact hn, fun j hj hj0 hj1 hlt => ?_, fun j hj hj0 hge => ?_⟩, by simp only; omega⟩
    · simp only [List.length_set] at hj hlt
      simp only [List.getElem_set]
      split
      · rename_i e; subst e; rw [ex, el, h2 i h' hj0 (Nat.le_refl _)]
      · exact h1 j hj hj0 hj1 (by omega)
    · simp only [List.length_set] at hj hge
      simp only [List.getElem_set]
      split
      · omega
      · exact h2 j hj hj0 (by omega)
  · have e : i = xs.length := by omega
    subst e
    exact ⟨_, last xs, hn, fun j hj hj0 hj1 => h1 j hj hj0 hj1 hj⟩
/-- What a program that may be is like. -/
structure MayP (p : api_Program) : Prop where
  G : GoodAll p
  L : Lat p.Lattice
  below : p.Lattice.Below.length ≤ 64
  names : ∀ t ∈ p.Tasks, stmtsN p t.Body = true
  typed : lazarettoref12_Check p = some 0
  inf : ∃ l, lazarettoref13_Infer p = some (l, 0) ∧ l.length = p.Vars.length + p.Blocks.length ∧ (∀ i (h : i < p.Vars.length) (h1 : i < l.length), p.Vars[i].Label = l[i]) ∧ ∀ i (h : i < p.Blocks.length) (h1 : p.Vars.length + i < l.length), p.Blocks[i].Label = l[p.Vars.length + i]
def setV (v : api_Var) (l : Int) : api_Var := ⟨v.Name, v.Type_, v.Mode, l, v.Safe⟩
def setB (b : api_Block) (l : Int) : api_Block := ⟨b.Name, b.Kind, l⟩
/-- A program's labels are some. -/
def Labd (p q : api_Program) (l : List Int) : Prop := q.Lattice = p.Lattice ∧ q.Tasks = p.Tasks ∧ (q.Vars.length = p.Vars.length ∧ ∀ i (h : i < q.Vars.length) (h1 : i < l.length), q.Vars[i].Label = l[i]) ∧ (q.Blocks.length = p.Blocks.length ∧ ∀ i (h : i < q.Blocks.length) (h1 : p.Vars.length + i < l.length), q.Blocks[i].Label = l[p.Vars.length + i])
theorem check14 {p : api_Program} (hd : ∀ t ∈ p.Tasks, depSs t.Body ≤ 120) : Tot (lazarettoref14_Check p) fun r => r.2 = 0 → GoodAll p ∧ Lat p.Lattice ∧ (∀ t ∈ p.Tasks, stmtsN p t.Body = true) ∧ lazarettoref12_Check p = some 0 ∧ ∃ l, lazarettoref13_Infer p = some (l, 0) ∧ l.length = p.Vars.length + p.Blocks.length ∧ Labd p r.1 l := by
  have hd' : ∀ t ∈ p.Tasks, depSs t.Body ≤ 1000 := fun t ht => Nat.le_trans (hd t ht) (by omega)
  have no : ∀ {x : api_Program} {e : Int} {Q : api_Program × Int → Prop}, e ≠ 0 → Tot (some (x, e)) fun r => r.2 = 0 → Q r := fun h => Tot.mk fun h' => (h h').elim
  unfold lazarettoref14_Check
  refine (caps_t14 p hd').bind fun b hb => Tot.ite (fun h => ?_) fun _ => no (by decide)
  have G := hb h
  have P := G.P
  have p1 := P.nv; have p2 := P.nb; have p3 := P.ns
  rw [refCheck, Option.bind_some]
  refine Tot.ite (fun hL => ?_) fun h => no h
  have L := lat_of hL
  refine (check10 p (by omega) (by omega) (by omega) hd').bind fun r h10 => Tot.ite (fun e10 => ?_) fun h => no h
  obtain ⟨r12, e12, _⟩ := check12 G
  refine Tot.bind (Q := fun r => r = r12) ⟨_, e12, rfl⟩ fun r12' hr12 => ?_
  subst hr12
  refine Tot.ite (fun z12 => ?_) fun h => no h
  rw [z12] at e12
  obtain ⟨⟨l, z⟩, e13, h13⟩ := infer_t13 G hd L
  refine Tot.bind (Q := fun r => r = (l, z)) ⟨_, e13, rfl⟩ fun r13 hr13 => ?_
  subst hr13
  refine Tot.ite (fun z13 => ?_) fun h => no h
  simp only at z13 h13
  subst z13
  have hl := h13 rfl
  have fin : ∀ q : api_Program, Labd p q l → Tot ((lazarettoref08_Check q).bind fun r_14 => if r_14 = true then (some (q, (0 : Int))) else (some ((⟨(⟨[], []⟩ : api_Lattice), [], [], [], []⟩ : api_Program), 3))) fun r => r.2 = 0 → GoodAll p ∧ Lat p.Lattice ∧ (∀ t ∈ p.Tasks, stmtsN p t.Body = true) ∧ lazarettoref12_Check p = some 0 ∧ ∃ l, lazarettoref13_Infer p = some (l, 0) ∧ l.length = p.Vars.length + p.Blocks.length ∧ Labd p r.1 l := fun q hq =>
    (check08 q (by rw [hq.2.1]; exact hd')).bind fun b _ => Tot.ite (fun _ => Tot.mk fun _ => ⟨G, L, h10 e10, e12, l, e13, hl, hq⟩) fun _ => no (by decide)
  have vs : ∀ f : List api_Var × Nat → Option ((List api_Var × Nat) ⊕ List api_Var), (∀ xs i, f (xs, i) = if (i : Int) < (xs.length : Int) then ((l[i]?).bind fun x_33 => (xs[i]?).bind fun x_34 => some (.inl ((xs.set i (⟨x_34.Name, x_34.Type_, x_34.Mode, x_33, x_34.Safe⟩ : api_Var)), (i + 1)))) else (some (.inr (xs)))) → Tot (loop f (p.Vars, 0)) fun r => r.length = p.Vars.length ∧ ∀ i (h : i < r.length) (h1 : i < l.length), r[i].Label = l[i] := fun f hf =>
    (set_loop setV (labels := l) (off := 0) (xs0 := p.Vars) (by omega) (fun xs i _ hi => by rw [hf, if_pos (by omega)]; simp only [Nat.zero_add]; rfl) (fun xs => by rw [hf, if_neg (by omega)])).imp fun r hr => ⟨hr.1, fun i h h1 => by have := hr.2 i h (by omega) (by omega); rw [this]; simp [setV]⟩
  have bs : ∀ (f : List api_Block × Nat → Option ((List api_Block × Nat) ⊕ List api_Block)) (m : Nat), m = p.Vars.length → (∀ xs i, f (xs, i) = if (i : Int) < (xs.length : Int) then ((idx l (w64 ((m : Int) + (i : Int)))).bind fun x_24 => (xs[i]?).bind fun x_25 => some (.inl ((xs.set i (⟨x_25.Name, x_25.Kind, x_24⟩ : api_Block)), (i + 1)))) else (some (.inr (xs)))) → Tot (loop f (p.Blocks, 0)) fun r => r.length = p.Blocks.length ∧ ∀ i (h : i < r.length) (h1 : p.Vars.length + i < l.length), r[i].Label = l[p.Vars.length + i] := fun f m hm hf =>
    (set_loop setB (labels := l) (off := p.Vars.length) (xs0 := p.Blocks) (by omega) (fun xs i _ hi => by
      rw [hf, if_pos (by omega), w64_id (by omega) (by omega), hm, show (p.Vars.length : Int) + (i : Int) = ((p.Vars.length + i : Nat) : Int) by omega, idx_nat]; rfl) (fun xs => by rw [hf, if_neg (by omega)])).imp fun r hr => ⟨hr.1, fun i h h1 => by have := hr.2 i h (by omega) h1; rw [this]; simp [setB]⟩
  refine Tot.ite (fun ev => Tot.ite (fun eb => ?_) fun eb => Tot.need (by omega) ?_) fun ev => Tot.need (by omega) (Tot.ite (fun eb => ?_) fun eb => Tot.need (by omega) ?_)
  · have ev' := List.isEmpty_iff.1 ev; have eb' := List.isEmpty_iff.1 eb
    rw [loop_inr (r := ()) (by simp [lazarettoref14_Check_L1]), Option.bind_some, loop_inr (r := ()) (by simp [lazarettoref14_Check_L2]), Option.bind_some]
    exact fin ⟨p.Lattice, p.Sites, [], [], p.Tasks⟩ ⟨rfl, rfl, ⟨by simp [ev'], fun i h => by simp at h⟩, by simp [eb'], fun i h => by simp at h⟩
  · have ev' := List.isEmpty_iff.1 ev
    rw [loop_inr (r := ()) (by simp [lazarettoref14_Check_L3]), Option.bind_some]
    exact (bs _ 0 (by simp [ev']) (fun xs i => by simp [lazarettoref14_Check_L4])).bind fun r hr => fin ⟨p.Lattice, p.Sites, [], r, p.Tasks⟩ ⟨rfl, rfl, ⟨by simp [ev'], fun i h => by simp at h⟩, hr⟩
  · have eb' := List.isEmpty_iff.1 eb
    refine (vs _ (fun xs i => rfl)).bind fun v hv => ?_
    rw [loop_inr (r := ()) (by simp [lazarettoref14_Check_L6]), Option.bind_some]
    exact fin ⟨p.Lattice, p.Sites, v, [], p.Tasks⟩ ⟨rfl, rfl, hv, by simp [eb'], fun i h => by simp at h⟩
  · exact (vs _ (fun xs i => rfl)).bind fun v hv => (bs _ v.length hv.1 (fun xs i => rfl)).bind fun r hr => fin ⟨p.Lattice, p.Sites, v, r, p.Tasks⟩ ⟨rfl, rfl, hv, hr⟩
theorem may14 {p : api_Program} (hd : ∀ t ∈ p.Tasks, depSs t.Body ≤ 120) : Tot (lazarettoref14_May p) fun b => b = true → GoodAll p ∧ Lat p.Lattice ∧ (∀ t ∈ p.Tasks, stmtsN p t.Body = true) ∧ lazarettoref12_Check p = some 0 ∧ ∃ l, lazarettoref13_Infer p = some (l, 0) ∧ l.length = p.Vars.length + p.Blocks.length ∧ Labd p p l := by
  have hd' : ∀ t ∈ p.Tasks, depSs t.Body ≤ 1000 := fun t ht => Nat.le_trans (hd t ht) (by omega)
  unfold lazarettoref14_May
  refine (check14 hd).bind fun r hr => Tot.ite (fun h => ?_) fun _ => Tot.mk fun h => by cases h
  obtain ⟨h1, h2, h3, h4, l, h5, h6, h7⟩ := hr h
  refine (same08 hd').bind fun b hb => Tot.mk fun t => ⟨h1, h2, h3, h4, l, h5, h6, ?_⟩
  have := hb t
  rw [← this] at h7
  exact h7
end Go.Lz

end
section
/- P15f: an empty run of a program that may be, by the program and by the reference. -/
namespace Go.Lz
set_option linter.unusedVariables false
set_option linter.unusedSimpArgs false
/-- The cells of variables, all 0. -/
def zeroCells (vars : List api_Var) : List (List Int) := vars.map fun v => List.replicate (sizeN v.Type_) 0
theorem evalZero_loop {vars : List api_Var} (hv : vars.length ≤ 1000) : loop (eval_Zero_L1 vars) ([], 0) = some (zeroCells vars) :=
  loop_for (fun i => ((List.range i).map fun k => ((zeroCells vars)[k]?).getD [], i)) vars.length (zeroCells vars) (fun i hi => by
    have hx : vars[i]? = some vars[i] := List.getElem?_eq_getElem hi
    have hl : ((List.range i).map fun k => ((zeroCells vars)[k]?).getD []).length = i := by simp
    simp only [eval_Zero_L1]
    rw [if_pos (by omega), hx, Option.bind_some, cellsZero, Option.bind_some, need_of (by rw [hl]; omega), ← range_snoc]
    simp [zeroCells, hx]) (by
    simp only [eval_Zero_L1]
    rw [if_neg (by omega)]
    congr 2
    apply List.ext_getElem
    · simp [zeroCells]
    · intro i h1 h2
      simp at h1
      simp [zeroCells, h1])
theorem evalZero {vars : List api_Var} {n : Nat} (hv : vars.length ≤ 1000) (hn : n ≤ 1000) : eval_Zero vars (n : Int) = some ⟨zeroCells vars, List.replicate n ⟨0, 0, 0, 0⟩⟩ := by
  unfold eval_Zero
  rw [need_of (by omega), evalZero_loop hv]
  simp
theorem refZero15_loop {vars : List api_Var} (hv : vars.length ≤ 1000) : loop (lazarettoref15_Zero_L1 vars) ([], 0) = some (zeroCells vars) :=
  loop_for (fun i => ((List.range i).map fun k => ((zeroCells vars)[k]?).getD [], i)) vars.length (zeroCells vars) (fun i hi => by
    have hx : vars[i]? = some vars[i] := List.getElem?_eq_getElem hi
    have hl : ((List.range i).map fun k => ((zeroCells vars)[k]?).getD []).length = i := by simp
    simp only [lazarettoref15_Zero_L1]
    rw [if_pos (by omega), hx, Option.bind_some, refZero, Option.bind_some, need_of (by rw [hl]; omega), ← range_snoc]
    simp [zeroCells, hx]) (by
    simp only [lazarettoref15_Zero_L1]
    rw [if_neg (by omega)]
    congr 2
    apply List.ext_getElem
    · simp [zeroCells]
    · intro i h1 h2
      simp at h1
      simp [zeroCells, h1])
theorem refZero15 {vars : List api_Var} {n : Nat} (hv : vars.length ≤ 1000) (hn : n ≤ 1000) : lazarettoref15_Zero vars (n : Int) = some ⟨zeroCells vars, List.replicate n ⟨0, 0, 0, 0⟩⟩ := by
  unfold lazarettoref15_Zero
  rw [refZero15_loop hv, Option.bind_some, need_of (by omega)]
  simp
/-- An empty run. -/
def freshRun (p : api_Program) (now : Int) : api_Run := ⟨⟨zeroCells p.Vars, List.replicate p.Blocks.length ⟨0, 0, 0, 0⟩⟩, List.replicate p.Lattice.Names.length 0, List.replicate p.Lattice.Names.length 0, [], now⟩
theorem evalFresh {p : api_Program} (now : Int) (hv : p.Vars.length ≤ 1000) (hb : p.Blocks.length ≤ 1000) (hn : p.Lattice.Names.length ≤ 1000) : eval_Fresh p now = some (freshRun p now) := by
  unfold eval_Fresh
  rw [evalZero hv hb, Option.bind_some, need_of (by omega), need_of (by omega)]
  rfl
theorem refFresh {p : api_Program} (now : Int) (hv : p.Vars.length ≤ 1000) (hb : p.Blocks.length ≤ 1000) (hn : p.Lattice.Names.length ≤ 1000) : lazarettoref15_Fresh p now = some (freshRun p now) := by
  unfold lazarettoref15_Fresh
  rw [refZero15 hv hb, Option.bind_some, need_of (by omega), need_of (by omega)]
  rfl
/-! One and the same run is the same. -/
theorem memory_self (m : api_Memory) : lazarettoref15_Memory m m = some true := by
  unfold lazarettoref15_Memory
  rw [if_pos rfl, if_pos rfl, loop_for (fun i => i) m.Cells.length (.inr ()) (fun i hi => by
    have hx : m.Cells[i]? = some m.Cells[i] := List.getElem?_eq_getElem hi
    simp only [lazarettoref15_Memory_L1]
    rw [if_pos (by omega), hx, Option.bind_some, Option.bind_some, intsEq]
    simp) (by simp [lazarettoref15_Memory_L1]), Option.bind_some]
  simp only
  rw [loop_for (fun i => i) m.Blocks.length (.inr ()) (fun i hi => by
    have hx : m.Blocks[i]? = some m.Blocks[i] := List.getElem?_eq_getElem hi
    simp only [lazarettoref15_Memory_L2]
    rw [if_pos (by omega), hx, Option.bind_some, Option.bind_some]
    simp) (by simp [lazarettoref15_Memory_L2]), Option.bind_some]
theorem events_self (l : List api_Event) : lazarettoref15_Events l l = some true := by
  unfold lazarettoref15_Events
  rw [if_pos rfl, loop_for (fun i => i) l.length (.inr ()) (fun i hi => by
    have hx : l[i]? = some l[i] := List.getElem?_eq_getElem hi
    simp only [lazarettoref15_Events_L1]
    rw [if_pos (by omega), hx, Option.bind_some, Option.bind_some]
    simp) (by simp [lazarettoref15_Events_L1]), Option.bind_some]
theorem same_self (r : api_Run) : lazarettoref15_Same r r = some true := by
  unfold lazarettoref15_Same
  simp [memory_self, events_self, intsEq]
end Go.Lz

end
section
/- LzF: a function that holds a range over a function: what lies ahead of the loop, what behind it. -/
namespace Go.Lz
set_option linter.unusedVariables false
set_option linter.unusedSimpArgs false
/-! ### Deferred calls that stand by. -/
def addD (ds : List Deferred) (a : Act) : Act := { a with defers := a.defers ++ ds }
theorem addD_put {ds : List Deferred} {a : Act} {d : Option Tmp} {v : Value} : (addD ds a).put d v = addD ds (a.put d v) := by cases d <;> rfl
theorem addD_eval {ds : List Deferred} {a : Act} : (addD ds a).eval = a.eval := by funext x; cases x <;> rfl
theorem wpOp_add {P : Program} {ds : List Deferred} {o : Oper} {a : Act} {w : World} {next next' : Act → World → Prop} {Q Q' : Exit → Act → World → Prop} (h : o.wp P a w next Q) (hn : ∀ a' w', next a' w' → next' (addD ds a') w') (hQ : ∀ e a' w', Q e a' w' → Q' e (addD ds a') w') : o.wp P (addD ds a) w next' Q' := by
  unfold Oper.wp at h ⊢
  rw [addD_eval]
  generalize (execOp a.eval o).run P w = r at h ⊢
  cases r with
  | ok x w' =>
    cases x with
    | value v => show next' ((addD ds a).put o.dst v) w'; rw [addD_put]; exact hn _ _ h
    | skip => show next' ((addD ds a).put o.dst undef) w'; rw [addD_put]; exact hn _ _ h
    | defer d => show next' ((addD ds { a with defers := d :: a.defers }).put o.dst undef) w'; rw [addD_put]; exact hn _ _ h
    | enter f args =>
      refine Calls.mono h ?_
      rintro e w2 hR
      cases e with
      | returned v => show next' ((addD ds a).put o.dst v) w2; rw [addD_put]; exact hn _ _ hR
      | panicked c => exact hQ _ _ _ hR
      | outgrown => obtain ⟨a', w', hq⟩ := hR; exact ⟨_, _, hQ _ _ _ hq⟩
    | row r args => exact Rows.mono h fun v w2 hR => by rw [addD_put]; exact hn _ _ hR
    | _ => exact h.elim
  | halt x w' =>
    cases x with
    | panic v => exact hQ _ _ _ h
    | _ => exact h.elim
theorem wpOps_add {P : Program} {ds : List Deferred} {ops : Array Oper} {Q Q' : Exit → Act → World → Prop} (hQ : ∀ e a' w', Q e a' w' → Q' e (addD ds a') w') : ∀ (l : List Nat) (a : Act) (w : World), wpOps P ops Q l a w → wpOps P ops Q' l (addD ds a) w
  | [], a, w, h => hQ _ _ _ h
  | i :: l, a, w, h => by
    simp only [wpOps] at h ⊢
    cases ho : ops[i]? with
    | none => simp only [ho] at h ⊢; exact wpOps_add hQ l a w h
    | some o =>
      simp only [ho] at h ⊢
      have ey : yielded ops (addD ds a).tmps = yielded ops a.tmps := rfl
      rw [ey]
      split
      · rename_i hw
        rw [if_pos hw] at h
        rcases h with h | ⟨h1, a', w', h2⟩
        · exact .inl (wpOp_add h (fun a' w' => wpOps_add hQ l a' w') hQ)
        · refine .inr ⟨?_, _, _, hQ _ _ _ h2⟩
          unfold Oper.asks at h1 ⊢
          rw [addD_eval]; exact h1
      · rename_i hw
        rw [if_neg hw] at h
        rw [addD_put]
        exact wpOps_add hQ l _ _ h
/-! ### The world turns where nothing of ours lies. -/
structure Mv (E E' : Env) : Prop where
  H : E'.H = E.H
  bd : E'.bd = E.bd
  free : ∀ b, E.free b → E'.free b
  cell : ∀ (a : Addr) v, E.free a.block → E.w.cell? a = some v → E'.w.cell? a = some v
theorem CRel.mv {E E' : Env} (t : Mv E E') {c : C} {v : Value} (h : CRel E c v) : CRel E' c v := by
  induction h with
  | int h => exact .int h
  | bool => exact .bool
  | str h hl => exact .str h hl
  | @sl rows a n cap vals sz hn hcap hlim hsz hb hv ih =>
    refine .sl vals sz hn hcap hlim hsz (fun hne => ?_) ih
    obtain ⟨b, off, ha, hf, hc⟩ := hb hne
    exact ⟨b, off, ha, t.free _ hf, fun i j c hij => t.cell _ _ hf (hc i j c hij)⟩
  | slf h hf ih => exact .slf ih hf
  | iptr vals he hb hc hv ih => exact .iptr vals he (t.free _ hb) (fun j c hj => t.cell _ _ hb (hc j c hj)) ih
  | fn hn hv ih => exact .fn hn ih
  | ifc hn hv ih => exact .ifc hn ih
  | nilfn => exact .nilfn
  | nilif => exact .nilif
  | nilp => exact .nilp
  | nilm => exact .nilm
  | @ref id ver row off v hid hc h =>
    refine .ref (by rw [t.H]; exact hid) hc fun cur sz rows ho => ?_
    rw [t.H] at ho; rw [t.bd]; exact h cur sz rows ho
  | @msl id ver lo hi v hid hc h =>
    refine .msl (by rw [t.H]; exact hid) hc fun cur sz rows ho => ?_
    rw [t.H] at ho; rw [t.bd]; exact h cur sz rows ho
  | @mp id v hid hc h =>
    refine .mp (by rw [t.H]; exact hid) hc fun es ho => ?_
    rw [t.H] at ho; rw [t.bd]; exact h es ho
theorem VRel.mv {E E' : Env} (t : Mv E E') {x : V} {v : Value} (h : VRel E x v) : VRel E' x v := by
  induction h with
  | one h => exact .one (h.mv t)
  | agg hn h => exact .agg hn fun j c hj => (h j c hj).mv t
  | tup hn h ih => exact .tup hn ih
  | un => exact .un
theorem ORel.mv {E E' : Env} (t : Mv E E') {id : Nat} {o : O} (h : ORel E id o) (hb : E.live id o → E'.w.heap[(E.bd id).blk]? = E.w.heap[(E.bd id).blk]?) : ORel E' id o := by
  cases o with
  | cells ver sz rows =>
    obtain ⟨h3, h4, h5, h6⟩ := h
    refine ⟨by rw [t.bd]; exact h3, h4, h5, fun hc => ?_⟩
    rw [t.bd] at hc
    obtain ⟨arr, ty, h1, h2, h6⟩ := h6 hc
    refine ⟨arr, ty, ?_, ?_, ?_⟩
    · rw [t.bd]; exact h1.congr (hb hc)
    · rw [t.bd]; exact h2
    · intro i j c hij
      obtain ⟨v, hv, hr⟩ := h6 i j c hij
      exact ⟨v, by rw [t.bd]; exact hv, hr.mv t⟩
  | map es =>
    obtain ⟨ents, clock, h1, h2, h3⟩ := h
    refine ⟨ents, clock, by rw [t.bd, hb trivial]; exact h1, h2, fun i k x hi => ?_⟩
    obtain ⟨e, he, hk, hx⟩ := h3 i k x hi
    exact ⟨e, he, hk.mv t, hx.mv t⟩
  | dead => trivial
theorem HRel.mv {E E' : Env} (h : HRel E) (t : Mv E E') (hob : ∀ id o, E.H[id]? = some o → E.live id o → E'.w.heap[(E.bd id).blk]? = E.w.heap[(E.bd id).blk]?)
    (hfr : ∀ b, E'.Fr b → b < E'.w.heap.size) (hno : ∀ id o, E.H[id]? = some o → E.live id o → ¬ E'.Fr (E.bd id).blk) : HRel E' := by
  have lv : ∀ {id : Nat} {o : O}, E'.live id o → E.live id o := fun {id o} h => (live_bd (by rw [t.bd])).1 h
  refine ⟨fun id o ho => ?_, fun i j x y hx hy lx ly hij => ?_, fun i x hx lx => ?_, hfr, fun p hp => ⟨t.free _ (h.glob p hp).1, fun j v hj => t.cell ⟨p.1, j, none⟩ v (h.glob p hp).1 ((h.glob p hp).2 j v hj)⟩⟩
  · rw [t.H] at ho; exact (h.obj id o ho).mv t (hob id o ho)
  · rw [t.H] at hx hy; rw [t.bd]; exact h.dist i j x y hx hy (lv lx) (lv ly) hij
  · rw [t.H] at hx; rw [t.bd]; exact hno i x hx (lv lx)
theorem SR.mv {ctx : Env} {n : Cf} {st : St} {a : Act} {E E' : Env} (h : SR ctx n st a E) (t : Mv E E') (hh : HRel E') (tr : Trans ctx E') : SR ctx n st a E' :=
  ⟨h.len, h.hm, h.defers, fun i => (h.tm i).mv t, by rw [t.H]; exact h.H, hh, tr⟩
/-- A block for deferred calls is nobody's. -/
theorem not_own_deferred {E : Env} (h : HRel E) {D : Nat} {d : Option (List Deferred)} (hD : E.w.heap[D]? = some (.deferred d)) : ¬ E.own D := by
  rintro ⟨id, o, ho, hl, rfl⟩
  have := h.obj id o ho
  cases o with
  | cells ver sz rows =>
    obtain ⟨_, _, _, h6⟩ := this
    obtain ⟨arr, ty, ⟨fz, h1, _⟩, _⟩ := h6 hl
    rw [hD] at h1; cases h1
  | map es =>
    obtain ⟨ents, clock, h1, _⟩ := this
    rw [hD] at h1; cases h1
  | dead => exact hl
theorem mvD {E : Env} (h : HRel E) {D : Nat} {d : Option (List Deferred)} (hD : E.w.heap[D]? = some (.deferred d)) (o : Obj) : Mv E { E with w := E.w.putObj D o } ∧ HRel { E with w := E.w.putObj D o } := by
  have hno := not_own_deferred h hD
  have hsz : (E.w.putObj D o).heap.size = E.w.heap.size := by simp [World.putObj]
  have lv : ∀ {id : Nat} {x : O}, ({ E with w := E.w.putObj D o } : Env).live id x → E.live id x := fun {id x} h => (live_bd (E := E) (E' := { E with w := E.w.putObj D o }) rfl).1 h
  have t : Mv E { E with w := E.w.putObj D o } := by
    refine ⟨rfl, rfl, fun b hb => ⟨by show _ < (E.w.putObj D o).heap.size; rw [hsz]; exact hb.1, hb.2.1, fun ⟨id, x, h1, h2, h3⟩ => hb.2.2 ⟨id, x, h1, lv h2, h3⟩⟩, fun a v hf hc => ?_⟩
    by_cases e : a.block = D
    · simp [World.cell?, e, hD] at hc
    · show (E.w.putObj D o).cell? a = some v
      rw [World.cell?_of_block (World.putObj_heap_other e)]; exact hc
  refine ⟨t, h.mv t (fun id x hx hl => ?_) (fun b hb => by show _ < (E.w.putObj D o).heap.size; rw [hsz]; exact h.frlt b hb) (fun id x hx hl => h.nofr id x hx hl)⟩
  exact World.putObj_heap_other (fun e => hno ⟨id, x, hx, hl, e⟩)
/-- From a context on, where the block is a new one. -/
theorem transD {ctx E : Env} (t : Trans ctx E) {D : Nat} (hD : ctx.w.heap.size ≤ D) (o : Obj) : Trans ctx { E with w := E.w.putObj D o } := by
  have lv : ∀ b, ({ E with w := E.w.putObj D o } : Env).own b → E.own b := by
    rintro b ⟨id, x, h1, h2, h3⟩
    exact ⟨id, x, h1, (live_bd (E := E) (E' := { E with w := E.w.putObj D o }) rfl).1 h2, h3⟩
  refine ⟨t.fr, by show _ ≤ (E.w.putObj D o).heap.size; simpa [World.putObj] using t.size, t.os, t.tape, t.output, fun b hb ho => ?_, fun b hb ho => t.own b hb (lv b ho), t.len, t.objC, t.objM⟩
  exact (World.putObj_heap_other (show b ≠ D by omega)).trans (t.keep b hb ho)
/-! ### Step by step through regions. -/
theorem step_reg {P : Program} {c rest : Code} {n : Cf} {ctx : Env} {st : St} {a : Act} {E : Env} {Qf : Exit → Act → World → Prop} (hs : SR ctx n st a E) {st' : St} (h : ∀ K : Ex → St → Prop, K .normal st' → awpS P n [.code c] st K) (hr : ∀ a E, SR ctx n st' a E → rest.wp P Qf a E.w) (hok : okC n.n c = true := by kernel_rfl) : (c.seq rest).wp P Qf a E.w := by
  refine wp_seq (wp_mono (awp_sound c st _ (h (fun e s => e = .normal ∧ s = st') ⟨rfl, rfl⟩) hok ctx a E hs) ?_)
  rintro _ a' _ ⟨_, _, E', rfl, rfl, ⟨rfl, rfl⟩, hs'⟩
  exact hr a' E' hs'
/-- The way out of such a function: its mark is taken, then its results. -/
theorem leave_mark {P : Program} {n : Nat} {fn : Func} {m : Cf} {ctx : Env} {st : St} {a : Act} {E : Env} {D : Nat} {K : V → List O → Prop} (hs : SR ctx m st a E) (hD : E.w.heap[D]? = some (.deferred (some []))) (hle : ctx.w.heap.size ≤ D) (hk : resK P fn.results.toList st K) :
    LeavesInM Fence.wide n P fn a.tmps (fun e w' => ∃ v x E', e = .returned v ∧ E'.w = w' ∧ K x E'.H ∧ VRel E' x v ∧ HRel E' ∧ Trans ctx E') [{ target := .collected D, args := #[] }] .returning E.w := by
  obtain ⟨t, hh⟩ := mvD hs.rel hD (.deferred none)
  have tr := transD hs.tr hle (.deferred none)
  obtain ⟨v, x, h1, h2, h3⟩ := res_ok (hs.mv t hh tr) hk
  exact ⟨by simp, .inl ⟨D, _, rfl, run_takeDeferred hD, ⟨v, h1, v, x, _, rfl, rfl, h3, h2, hh, tr⟩⟩⟩
theorem sr_start {E : Env} (hE : HRel E) {args : List V} {vs : Array Value} (n : Nat) (hn : vs.size = args.length) (hv : ∀ (j : Nat) (x : V), args[j]? = some x → VRel E x (vs.getD j undef)) :
    SR E ⟨n, E.H.length⟩ ⟨argsT 0 args, E.H⟩ { tmps := vs ++ Array.replicate (n - vs.size) undef, defers := [] } E := by
  refine ⟨by simp; omega, Nat.le_refl _, rfl, fun i => ?_, rfl, hE, Trans.refl E⟩
  simp only [look_argsT, Nat.zero_le, if_true, Nat.sub_zero]
  simp only [List.getD_eq_getElem?_getD]
  cases hx : args[i]? with
  | none => simp only [Option.getD_none]; exact .un
  | some x =>
    have hlt : i < vs.size := by rw [hn]; exact (List.getElem?_eq_some_iff.1 hx).1
    have := hv i x hx
    simp only [Option.getD_some]
    rw [Array.getD_eq_getD_getElem?] at this ⊢
    rw [Array.getElem?_append_left hlt]; exact this
/-- A call that hands back a plain truth or number only computes. -/
theorem pu_of_scalar {P : Program} {f : FuncId} {args : List V} {x : V} (hx : (∃ k n, x = .one (.int k n)) ∨ ∃ b, x = .one (.bool b)) (h : Ct P f args [] fun v _ => v = x) : Pu P f args x := by
  refine ⟨h.1, fun E vs hE hH hn hv => Calls.mono (h.2 E vs hE hH hn hv) ?_⟩
  rintro e w' ⟨u, y, E', rfl, rfl, rfl, hyv, hh, tr⟩
  refine ⟨u, _, E'.shut, rfl, rfl, ⟨rfl, rfl⟩, ?_, shut_rel hh, ?_⟩
  · rcases hx with ⟨k, n, rfl⟩ | ⟨b, rfl⟩
    · obtain ⟨rfl, h1⟩ := int_inv (one_inv hyv); exact .one (.int h1)
    · have := bool_inv (one_inv hyv); subst this; exact .one .bool
  have e0 : ∀ b, ¬ E.own b := by rintro b ⟨id, o, ho, _⟩; simp [hH] at ho
  refine ⟨tr.fr, tr.size, tr.os, tr.tape, tr.output, fun b hb _ => tr.keep b hb (e0 b), ?_, by simp [hH], by simp [Env.shut], by simp [Env.shut]⟩
  rintro b hb ⟨id, o, ho, _⟩
  simp [Env.shut] at ho
/-- A function that holds such a loop: its body, walked with the mark in sight. -/
theorem ct_marks {P : Program} {f : FuncId} {fn : Func} {c : Code} {args : List V} {H : List O} {K : V → List O → Prop} (n : Nat) (hf : P.funcs[f]? = some fn) (h : ∀ (E : Env) (a : Act), E.H = H → SR E ⟨fn.ntmps, H.length⟩ ⟨argsT 0 args, H⟩ a E →
    c.wp P (bodyPostM Fence.wide n P fn fun e w' => ∃ v x E', e = .returned v ∧ E'.w = w' ∧ K x E'.H ∧ VRel E' x v ∧ HRel E' ∧ Trans E E') a E.w) (hb : fn.body = some c := by rfl) (hname : (fn.name == "runtime.NumGoroutine") = false := by kernel_rfl) : Ct P f args H K := by
  refine ⟨⟨fn, hf, hname, by simp [hb]⟩, fun E vs hE hH hn hv => callsIn_wide.1 (callsIn_of_wp_marks (n := n) hf hb trivial (wpIn_wide.2 ?_))⟩
  subst hH
  exact h E _ rfl (sr_start hE fn.ntmps hn hv)
theorem reg_ops {P : Program} {id : Nat} {ops : Array Oper} {n : Cf} {ctx : Env} {st : St} {a : Act} {E : Env} {Q : Exit → Act → World → Prop} (hs : SR ctx n st a E) {st' : St} (h : ∀ K : Ex → St → Prop, K .normal st' → awpS P n [.code (.region id ops false)] st K) (hQ : ∀ a' E', SR ctx n st' a' E' → Q .normal a' E'.w) (hok : okC n.n (.region id ops false) = true := by kernel_rfl) : wpOps P ops Q (List.range ops.size) a E.w := by
  have hok' : ∀ o ∈ ops.toList, ∀ d, o.dst = some d → d < n.n := by
    intro o ho d hd
    simp only [okC, List.all_eq_true] at hok
    have := hok o ho
    simpa [hd] using this
  have h2 : awp P n (.region id ops false) st (fun e s => e = .normal ∧ s = st') := awp_of_S (h (fun e s => e = .normal ∧ s = st') ⟨rfl, rfl⟩)
  simp only [awp, true_and] at h2
  refine awpOps_ok (K := fun s => s = st') Q (fun s a' E' hK hs' => by subst hK; exact hQ a' E' hs') hok' (List.range ops.size) ops.toList (by simp) (fun k i hk => ?_) st a E hs h2
  have hlt := (List.getElem?_eq_some_iff.1 hk).1
  simp at hlt
  simp [hlt] at hk
  subst hk
  simp
/-- What only computes adds blocks and turns none. -/
theorem grown_of {E E' : Env} (t : Trans E E') (hH : E.H = []) : E.w.grownBy E'.w none :=
  ⟨t.os, t.tape, t.output, t.size, fun k hk _ => t.keep k hk (by rintro ⟨id, o, ho, _⟩; simp [hH] at ho)⟩
theorem run_callFunc {P : Program} {g : FuncId} (hfn : ∃ fn, P.funcs[g]? = some fn ∧ (fn.name == "runtime.NumGoroutine") = false ∧ fn.body.isNone = false) (args : Array Value) (w : World) : (callFunc g args).run P w = .ok (.enter g args) w := by
  obtain ⟨fn, h1, h2, h3⟩ := hfn
  have h2' : ¬ fn.name = "runtime.NumGoroutine" := by simpa using h2
  have h3' : ¬ fn.body = none := by intro e; simp [e] at h3
  simp [callFunc, h1, h2', h3']
end Go.Lz

end
