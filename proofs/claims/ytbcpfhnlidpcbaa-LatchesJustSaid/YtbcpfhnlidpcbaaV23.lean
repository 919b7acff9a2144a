/- V23 -/
import Derived.Test.YtbcpfhnlidpcbaaV01
namespace Go.Lz
set_option linter.unusedVariables false
set_option linter.unusedSimpArgs false
open Go.Proofs
attribute [-go_sem] q_cond g_b gd_b
set_option maxRecDepth 100000
noncomputable section
def lazarettoref04_Ints_L1 (a : List Int) (b : List Int) : Nat → Option ((Nat) ⊕ (Bool ⊕ Unit))
  | i_1 => if (i_1 : Int) < (a.length : Int) then ((a[i_1]?).bind fun x_4 => (b[i_1]?).bind fun x_5 => if x_4 = x_5 then (some (.inl (i_1 + 1))) else (some (.inr (.inl (false))))) else (some (.inr (.inr (()))))
def lazarettoref04_Ints (a : List Int) (b : List Int) : Option Bool :=
  if (a.length : Int) = (b.length : Int) then ((loop (lazarettoref04_Ints_L1 a b) 0).bind (fun e__ => match e__ with | (.inl e_6) => some e_6 | (.inr ()) => some true)) else (some false)
def latches_Forced_L1 (l : api_Lattice) (latches : List Int) (label : Int) : Nat → Option ((Nat) ⊕ (Bool ⊕ Unit))
  | x_1 => if (x_1 : Int) < (latches.length : Int) then ((latches[x_1]?).bind fun x_4 => if x_4 = 0 then (some (.inl (x_1 + 1))) else ((lattice_Leq l (x_1 : Int) label).bind fun r_5 => if r_5 = true then (some (.inr (.inl (true)))) else (some (.inl (x_1 + 1))))) else (some (.inr (.inr (()))))
def latches_Forced (l : api_Lattice) (latches : List Int) (label : Int) : Option Bool :=
  (loop (latches_Forced_L1 l latches label) 0).bind (fun e__ => match e__ with | (.inl e_6) => some e_6 | (.inr ()) => some false)
def latches_Outputs_L1 (m : api_Image) (mem : api_Memory) (latches : List Int) : ((List Int) × Nat) → Option (((List Int) × Nat) ⊕ (List Int))
  | (out_2, x_4) => if (x_4 : Int) < (m.Vars.length : Int) then ((m.Vars[x_4]?).bind fun x_7 => if x_7.Mode = 2 then (if (x_4 : Int) < (mem.Cells.length : Int) then ((mem.Cells[x_4]?).bind fun x_8 => if 0 < (x_8.length : Int) then ((x_8[0]?).bind fun x_9 => (latches_Forced m.Lattice latches x_7.Label).bind fun r_10 => if r_10 = true then (need ((out_2.length + 1) * 8 ≤ 140737488355328) (some (.inl ((out_2 ++ [x_7.Safe]), (x_4 + 1))))) else (need ((out_2.length + 1) * 8 ≤ 140737488355328) (some (.inl ((out_2 ++ [x_9]), (x_4 + 1)))))) else ((latches_Forced m.Lattice latches x_7.Label).bind fun r_13 => if r_13 = true then (need ((out_2.length + 1) * 8 ≤ 140737488355328) (some (.inl ((out_2 ++ [x_7.Safe]), (x_4 + 1))))) else (need ((out_2.length + 1) * 8 ≤ 140737488355328) (some (.inl ((out_2 ++ [0]), (x_4 + 1))))))) else ((latches_Forced m.Lattice latches x_7.Label).bind fun r_16 => if r_16 = true then (need ((out_2.length + 1) * 8 ≤ 140737488355328) (some (.inl ((out_2 ++ [x_7.Safe]), (x_4 + 1))))) else (need ((out_2.length + 1) * 8 ≤ 140737488355328) (some (.inl ((out_2 ++ [0]), (x_4 + 1))))))) else (some (.inl (out_2, (x_4 + 1))))) else (some (.inr (out_2)))
def latches_Outputs (m : api_Image) (mem : api_Memory) (latches : List Int) : Option (List Int) :=
  (loop (latches_Outputs_L1 m mem latches) ([], 0)).bind (fun e_5 => some e_5)
def latches_Merge_L1 (a : List Int) : ((List Int) × Nat) → Option (((List Int) × Nat) ⊕ (List Int))
  | (out_2, x_3) => if (x_3 : Int) < (a.length : Int) then ((a[x_3]?).bind fun x_6 => if x_6 = 0 then (some (.inl (out_2, (x_3 + 1)))) else ((out_2[x_3]?).bind fun x_7 => some (.inl ((out_2.set x_3 x_6), (x_3 + 1))))) else (some (.inr (out_2)))
def latches_Merge (a : List Int) (b : List Int) : Option (List Int) :=
  need (0 ≤ (max (a.length : Int) (b.length : Int)) ∧ 8 * (max (a.length : Int) (b.length : Int)) ≤ 140737488355328) ((loop (latches_Merge_L1 a) ((copyL (List.replicate (max (a.length : Int) (b.length : Int)).toNat 0) b), 0)).bind (fun e_4 => some e_4))
def lazarettolaw23_awake : Option Bool :=
  (latches_Outputs (⟨(⟨[([108, 111, 119] : Str), ([104, 105, 103, 104] : Str)], [(⟨0, 1⟩ : A2 Int)]⟩ : api_Lattice), [], [(⟨[], (⟨2, 0, 0⟩ : api_Type), 2, 0, 9⟩ : api_Var), (⟨[], (⟨2, 0, 0⟩ : api_Type), 2, 1, 8⟩ : api_Var)], [], [], []⟩ : api_Image) (⟨[[1], [2]], []⟩ : api_Memory) [0, 1]).bind fun r_1 => (lazarettoref04_Ints r_1 [1, 8]).bind fun r_2 => if r_2 = true then ((latches_Outputs (⟨(⟨[([108, 111, 119] : Str), ([104, 105, 103, 104] : Str)], [(⟨0, 1⟩ : A2 Int)]⟩ : api_Lattice), [], [(⟨[], (⟨2, 0, 0⟩ : api_Type), 2, 0, 9⟩ : api_Var), (⟨[], (⟨2, 0, 0⟩ : api_Type), 2, 1, 8⟩ : api_Var)], [], [], []⟩ : api_Image) (⟨[[1], [2]], []⟩ : api_Memory) [1, 0]).bind fun r_3 => (lazarettoref04_Ints r_3 [9, 8]).bind fun r_4 => if r_4 = true then ((latches_Forced (⟨[([108, 111, 119] : Str), ([104, 105, 103, 104] : Str)], [(⟨0, 1⟩ : A2 Int)]⟩ : api_Lattice) [1, 0] 1).bind fun r_5 => if r_5 = true then ((latches_Forced (⟨[([108, 111, 119] : Str), ([104, 105, 103, 104] : Str)], [(⟨0, 1⟩ : A2 Int)]⟩ : api_Lattice) [0, 1] 0).bind fun r_6 => if r_6 = true then (some false) else ((latches_Merge [0, 2] [1, 1, 1]).bind fun r_7 => (lazarettoref04_Ints r_7 [1, 2, 1]).bind fun r_8 => some r_8)) else (some false)) else (some false)) else (some false)
def lazarettoref23_Merge_L1 (a : List Int) (b : List Int) : ((List Int) × Nat) → Option (((List Int) × Nat) ⊕ (List Int))
  | (out_2, i_4) => if (i_4 : Int) < (a.length : Int) then ((a[i_4]?).bind fun x_7 => if x_7 = 0 then (if (i_4 : Int) < (b.length : Int) then ((b[i_4]?).bind fun x_8 => need ((out_2.length + 1) * 8 ≤ 140737488355328) (some (.inl ((out_2 ++ [x_8]), (i_4 + 1))))) else (need ((out_2.length + 1) * 8 ≤ 140737488355328) (some (.inl ((out_2 ++ [x_7]), (i_4 + 1)))))) else (need ((out_2.length + 1) * 8 ≤ 140737488355328) (some (.inl ((out_2 ++ [x_7]), (i_4 + 1)))))) else (if (i_4 : Int) < (b.length : Int) then ((b[i_4]?).bind fun x_12 => need ((out_2.length + 1) * 8 ≤ 140737488355328) (some (.inl ((out_2 ++ [x_12]), (i_4 + 1))))) else (some (.inr (out_2))))
def lazarettoref23_Merge (a : List Int) (b : List Int) : Option (List Int) :=
  (loop (lazarettoref23_Merge_L1 a b) ([], 0)).bind (fun e_5 => some e_5)
def lazarettolaw23_LatchesMerge (a : List Int) (b : List Int) (c : List Int) : Option Bool :=
  if 1000 < (a.length : Int) then ((lazarettolaw23_awake).bind fun r_1 => some r_1) else (if 1000 < (b.length : Int) then ((lazarettolaw23_awake).bind fun r_2 => some r_2) else (if 1000 < (c.length : Int) then ((lazarettolaw23_awake).bind fun r_3 => some r_3) else ((latches_Merge a b).bind fun r_4 => (lazarettoref23_Merge a b).bind fun r_5 => (lazarettoref04_Ints r_4 r_5).bind fun r_6 => if r_6 = true then ((latches_Merge a b).bind fun r_7 => (latches_Merge r_7 c).bind fun r_8 => (latches_Merge b c).bind fun r_9 => (latches_Merge a r_9).bind fun r_10 => (lazarettoref04_Ints r_8 r_10).bind fun r_11 => if r_11 = true then ((lazarettolaw23_awake).bind fun r_12 => some r_12) else (some false)) else (some false))))
end
theorem lazarettoref04_Ints_ok {a : List Int} {b : List Int} {r : Bool} (h : lazarettoref04_Ints a b = some r) :
    Pu Try.prog 17 [.one (.sl (a.map eI)), .one (.sl (b.map eI))] (.one (.bool r)) := by
  have F := trivial; have R := trivial
  refine pA Try.func17 ?_
  simp only [Try.f17]
  unfold lazarettoref04_Ints at h
  refine tt ?_
  repeat (with_reducible first | intro _ | refine ⟨ss, ?_⟩)
  refine fi h F (fun h _ F => ?_) (fun h _ F => ?_)
  refine bi h fun e_2 h he_2 => ?_
  refine tt ?_
  refine lE (fun (s__ : Nat) (a__ : Unit) => match s__, a__ with | i_1, _ => ⟨[(0, .one (.sl (a.map eI))), (1, .one (.sl (b.map eI))), (5, .one (.int .i64 (i_1 : Int)))], []⟩) (fun (e__ : Bool ⊕ Unit) (b__ : Unit) => match e__, b__ with | (.inl e_6), _ => ⟨[], []⟩ | (.inr ()), _ => ⟨[], []⟩) (fun (e__ : Bool ⊕ Unit) => match e__ with | (.inl _) => none | (.inr _) => some 0) () he_2 ?_ ?_
  intro i3 b3 hi3
  rcases e_2 with e_case | ⟨⟩
  cases hi3
  obtain rfl := Option.some.inj hi3
  obtain ⟨⟩ := b3
  dsimp only at h ⊢
  cases h; exact fin
  intro af3 m3 i_1 a3 o3 hf3 ho3 ih3
  obtain ⟨⟩ := a3
  dsimp only [lazarettoref04_Ints_L1] at hf3 ⊢
  refine tt ?_
  repeat (with_reducible first | intro _ | refine ⟨ss, ?_⟩)
  refine fl hf3 F (fun hf3 _ F => ?_) (fun hf3 _ F => ?_)
  refine bx hf3 F fun x_4 hf3 hx_4 F => ?_
  refine bx hf3 F fun x_5 hf3 hx_5 F => ?_
  refine tt ?_
  repeat (with_reducible first | intro _ | refine ⟨ss, ?_⟩)
  refine fi hf3 F (fun hf3 _ F => ?_) (fun hf3 _ F => ?_)
  cases hf3
  refine tt ?_
  refine wn i_1 F fun F => ?_
  exact bk ih3 ho3 ()
  cases hf3
  obtain rfl := sr ho3
  try dsimp only at h
  cases h
  exact fin
  cases hf3
  refine tt ?_
  exact xt ho3 af3 ()
  cases h; exact fin
theorem latches_Forced_ok {l : api_Lattice} {latches : List Int} {label : Int} {r : Bool} (h : latches_Forced l latches label = some r) :
    Pu Try.prog 48 [.agg (e_api_Lattice l), .one (.sl (latches.map eI)), .one (.int .i64 label)] (.one (.bool r)) := by
  have F := trivial; have R := trivial
  refine pA Try.func48 ?_
  simp only [Try.f48]
  unfold latches_Forced at h
  refine bi h fun e_2 h he_2 => ?_
  refine tt ?_
  repeat (with_reducible first | intro _ | refine ⟨ss, ?_⟩)
  refine lE (fun (s__ : Nat) (a__ : Unit) => match s__, a__ with | x_1, _ => ⟨[(1, .one (.sl (latches.map eI))), (2, .one (.int .i64 label)), (3, .one (.ref 0 0 0 0)), (9, .one (.int .i64 (latches.length : Int))), (10, .one (.int .i64 (x_1 : Int)))], [.cells 0 2 [[.sl (l.Names.map eS), .sl (l.Below.map (eA2 eI))]]]⟩) (fun (e__ : Bool ⊕ Unit) (b__ : Unit) => match e__, b__ with | (.inl e_6), _ => ⟨[], []⟩ | (.inr ()), _ => ⟨[], [.cells 0 2 [[.sl (l.Names.map eS), .sl (l.Below.map (eA2 eI))]]]⟩) (fun (e__ : Bool ⊕ Unit) => match e__ with | (.inl _) => none | (.inr _) => some 0) () he_2 ?_ ?_
  intro i3 b3 hi3
  rcases e_2 with e_case | ⟨⟩
  cases hi3
  obtain rfl := Option.some.inj hi3
  obtain ⟨⟩ := b3
  dsimp only at h ⊢
  cases h; exact fin
  intro af3 m3 x_1 a3 o3 hf3 ho3 ih3
  obtain ⟨⟩ := a3
  dsimp only [latches_Forced_L1] at hf3 ⊢
  refine fl hf3 F (fun hf3 _ F => ?_) (fun hf3 _ F => ?_)
  refine bx hf3 F fun x_4 hf3 hx_4 F => ?_
  refine tt ?_
  repeat (with_reducible first | intro _ | refine ⟨ss, ?_⟩)
  refine fi hf3 F (fun hf3 _ F => ?_) (fun hf3 _ F => ?_)
  cases hf3
  refine tt ?_
  refine wn x_1 F fun F => ?_
  exact bk ih3 ho3 ()
  refine bi hf3 fun r_5 hf3 hr_5 => ?_
  refine tt ?_
  repeat (with_reducible first | intro _ | refine ⟨ss, ?_⟩)
  refine cS (lattice_Leq_ok hr_5) ?_
  refine fv hf3 F (fun hf3 _ F => ?_) (fun hf3 _ F => ?_)
  cases hf3
  obtain rfl := sr ho3
  try dsimp only at h
  cases h
  exact fin
  cases hf3
  refine tt ?_
  refine wn x_1 F fun F => ?_
  exact bk ih3 ho3 ()
  cases hf3
  refine tt ?_
  exact xt ho3 af3 ()
theorem latches_Outputs_ok {m : api_Image} {mem : api_Memory} {latches : List Int} {r : List Int} (h : latches_Outputs m mem latches = some r) :
    Pu Try.prog 18 [.agg (e_api_Image m), .agg (e_api_Memory mem), .one (.sl (latches.map eI))] (.one (.sl (r.map eI))) := by
  have F := trivial; have R := trivial
  refine pA Try.func18 ?_
  simp only [Try.f18]
  unfold latches_Outputs at h
  refine bi h fun e_5 h he_5 => ?_
  refine tt ?_
  repeat (with_reducible first | intro _ | refine ⟨ss, ?_⟩)
  refine seed_L 7 1 (by simp [go_sem]) ?_
  refine lE (fun (s__ : (List Int) × Nat) (a__ : Nat) => match s__, a__ with | (out_2, x_4), v_1 => ⟨[(2, .one (.sl (latches.map eI))), (3, .one (.ref 0 0 0 0)), (4, .one (.ref 1 0 0 0)), (7, .one (.msl 2 v_1 0 out_2.length)), (12, .one (.sl (m.Vars.map e_api_Var))), (13, .one (.int .i64 (m.Vars.length : Int))), (14, .one (.int .i64 (x_4 : Int)))], [.cells 0 7 [[.sl (m.Lattice.Names.map eS), .sl (m.Lattice.Below.map (eA2 eI)), .sl (m.Sites.map e_api_Site), .sl (m.Vars.map e_api_Var), .sl (m.Blocks.map e_api_Block), .sl (m.Tasks.map e_api_Task), .sl (m.Code.map (eL e_api_Ins))]], .cells 0 2 [[.sl (mem.Cells.map (eL eI)), .sl (mem.Blocks.map (eA4 eI))]], .cells v_1 1 (out_2.map eI)]⟩) (fun (e__ : List Int) (b__ : Nat) => match e__, b__ with | e_5, b6 => ⟨[(7, .one (.msl 2 b6 0 e_5.length))], [.cells 0 7 [[.sl (m.Lattice.Names.map eS), .sl (m.Lattice.Below.map (eA2 eI)), .sl (m.Sites.map e_api_Site), .sl (m.Vars.map e_api_Var), .sl (m.Blocks.map e_api_Block), .sl (m.Tasks.map e_api_Task), .sl (m.Code.map (eL e_api_Ins))]], .cells 0 2 [[.sl (mem.Cells.map (eL eI)), .sl (mem.Blocks.map (eA4 eI))]], .cells b6 1 (e_5.map eI)]⟩) (fun (_ : List Int) => some 0) 0 he_5 ?_ ?_
  intro i6 b6 hi6
  obtain rfl := Option.some.inj hi6
  dsimp only at h ⊢
  cases h; exact fin
  intro af6 m6 s6 v_1 o6 hf6 ho6 ih6
  obtain ⟨out_2, x_4⟩ := s6
  dsimp only [latches_Outputs_L1] at hf6 ⊢
  refine fl hf6 F (fun hf6 _ F => ?_) (fun hf6 _ F => ?_)
  refine bx hf6 F fun x_7 hf6 hx_7 F => ?_
  refine tt ?_
  repeat (with_reducible first | intro _ | refine ⟨ss, ?_⟩)
  refine fi hf6 F (fun hf6 _ F => ?_) (fun hf6 _ F => ?_)
  refine tt ?_
  repeat (with_reducible first | intro _ | refine ⟨ss, ?_⟩)
  refine fl hf6 F (fun hf6 _ F => ?_) (fun hf6 _ F => ?_)
  refine bx hf6 F fun x_8 hf6 hx_8 F => ?_
  refine tt ?_
  repeat (with_reducible first | intro _ | refine ⟨ss, ?_⟩)
  refine fi hf6 F (fun hf6 _ F => ?_) (fun hf6 _ F => ?_)
  refine bx hf6 F fun x_9 hf6 hx_9 F => ?_
  refine bi hf6 fun r_10 hf6 hr_10 => ?_
  refine tt ?_
  repeat (with_reducible first | intro _ | refine ⟨ss, ?_⟩)
  refine cS (latches_Forced_ok hr_10) ?_
  refine fv hf6 F (fun hf6 _ F => ?_) (fun hf6 _ F => ?_)
  refine nd hf6 F fun hf6 F => ?_
  cases hf6
  refine tt ?_
  repeat (with_reducible first | intro _ | refine ⟨ss, ?_⟩)
  refine wn x_4 F fun F => ?_
  exact bk ih6 ho6 (v_1 + 1)
  refine nd hf6 F fun hf6 F => ?_
  cases hf6
  refine tt ?_
  repeat (with_reducible first | intro _ | refine ⟨ss, ?_⟩)
  refine wn x_4 F fun F => ?_
  exact bk ih6 ho6 (v_1 + 1)
  refine bi hf6 fun r_13 hf6 hr_13 => ?_
  refine tt ?_
  repeat (with_reducible first | intro _ | refine ⟨ss, ?_⟩)
  refine cS (latches_Forced_ok hr_13) ?_
  refine fv hf6 F (fun hf6 _ F => ?_) (fun hf6 _ F => ?_)
  refine nd hf6 F fun hf6 F => ?_
  cases hf6
  refine tt ?_
  repeat (with_reducible first | intro _ | refine ⟨ss, ?_⟩)
  refine wn x_4 F fun F => ?_
  exact bk ih6 ho6 (v_1 + 1)
  refine nd hf6 F fun hf6 F => ?_
  cases hf6
  refine tt ?_
  repeat (with_reducible first | intro _ | refine ⟨ss, ?_⟩)
  refine wn x_4 F fun F => ?_
  exact bk ih6 ho6 (v_1 + 1)
  refine bi hf6 fun r_16 hf6 hr_16 => ?_
  refine tt ?_
  repeat (with_reducible first | intro _ | refine ⟨ss, ?_⟩)
  refine cS (latches_Forced_ok hr_16) ?_
  refine fv hf6 F (fun hf6 _ F => ?_) (fun hf6 _ F => ?_)
  refine nd hf6 F fun hf6 F => ?_
  cases hf6
  refine tt ?_
  repeat (with_reducible first | intro _ | refine ⟨ss, ?_⟩)
  refine wn x_4 F fun F => ?_
  exact bk ih6 ho6 (v_1 + 1)
  refine nd hf6 F fun hf6 F => ?_
  cases hf6
  refine tt ?_
  repeat (with_reducible first | intro _ | refine ⟨ss, ?_⟩)
  refine wn x_4 F fun F => ?_
  exact bk ih6 ho6 (v_1 + 1)
  cases hf6
  refine tt ?_
  refine wn x_4 F fun F => ?_
  exact bk ih6 ho6 v_1
  cases hf6
  refine tt ?_
  exact xt ho6 af6 v_1
theorem latches_Merge_ok {a : List Int} {b : List Int} {r : List Int} (h : latches_Merge a b = some r) :
    Pu Try.prog 20 [.one (.sl (a.map eI)), .one (.sl (b.map eI))] (.one (.sl (r.map eI))) := by
  have F := trivial; have R := trivial
  refine pA Try.func20 ?_
  simp only [Try.f20]
  unfold latches_Merge at h
  refine nd h F fun h F => ?_
  have R := And.intro (show List.replicate ((max (a.length : Int) (b.length : Int)).toNat) [.int .i64 0] = List.map eI (List.replicate ((max (a.length : Int) (b.length : Int)).toNat) 0) by simp [go_sem]) R
  refine bi h fun e_4 h he_4 => ?_
  refine tt ?_
  repeat (with_reducible first | intro _ | refine ⟨ss, ?_⟩)
  refine lE (fun (s__ : (List Int) × Nat) (a__ : Unit) => match s__, a__ with | (out_2, x_3), _ => ⟨[(5, .one (.msl 0 0 0 out_2.length)), (17, .one (.sl (a.map eI))), (18, .one (.int .i64 (a.length : Int))), (19, .one (.int .i64 (x_3 : Int)))], [.cells 0 1 (out_2.map eI)]⟩) (fun (e__ : List Int) (b__ : Unit) => match e__, b__ with | e_4, _ => ⟨[(5, .one (.msl 0 0 0 e_4.length))], [.cells 0 1 (e_4.map eI)]⟩) (fun (_ : List Int) => some 0) () he_4 ?_ ?_
  intro i5 b5 hi5
  obtain rfl := Option.some.inj hi5
  obtain ⟨⟩ := b5
  dsimp only at h ⊢
  cases h; exact fin
  intro af5 m5 s5 a5 o5 hf5 ho5 ih5
  obtain ⟨out_2, x_3⟩ := s5
  obtain ⟨⟩ := a5
  dsimp only [latches_Merge_L1] at hf5 ⊢
  refine fl hf5 F (fun hf5 _ F => ?_) (fun hf5 _ F => ?_)
  refine bx hf5 F fun x_6 hf5 hx_6 F => ?_
  refine tt ?_
  repeat (with_reducible first | intro _ | refine ⟨ss, ?_⟩)
  refine fi hf5 F (fun hf5 _ F => ?_) (fun hf5 _ F => ?_)
  cases hf5
  refine tt ?_
  refine wn x_3 F fun F => ?_
  exact bk ih5 ho5 ()
  refine bx hf5 F fun x_7 hf5 hx_7 F => ?_
  have R := And.intro (show (List.map eI out_2).set x_3 [.int .i64 x_6] = List.map eI (out_2.set x_3 x_6) by simp [go_sem, List.map_set]) R
  cases hf5
  refine tt ?_
  repeat (with_reducible first | intro _ | refine ⟨ss, ?_⟩)
  refine wn x_3 F fun F => ?_
  exact bk ih5 ho5 ()
  cases hf5
  refine tt ?_
  exact xt ho5 af5 ()
theorem lazarettolaw23_awake_ok {r : Bool} (h : lazarettolaw23_awake = some r) :
    Pu Try.prog 16 [] (.one (.bool r)) := by
  have F := trivial; have R := trivial
  refine pA Try.func16 ?_
  simp only [Try.f16]
  unfold lazarettolaw23_awake at h
  refine bi h fun r_1 h hr_1 => ?_
  refine tt ?_
  repeat (with_reducible first | intro _ | refine ⟨ss, ?_⟩)
  refine cS (latches_Outputs_ok hr_1) ?_
  refine bi h fun r_2 h hr_2 => ?_
  refine tt ?_
  repeat (with_reducible first | intro _ | refine ⟨ss, ?_⟩)
  refine cS (lazarettoref04_Ints_ok hr_2) ?_
  refine fv h F (fun h _ F => ?_) (fun h _ F => ?_)
  refine bi h fun r_3 h hr_3 => ?_
  refine tt ?_
  repeat (with_reducible first | intro _ | refine ⟨ss, ?_⟩)
  refine cS (latches_Outputs_ok hr_3) ?_
  refine bi h fun r_4 h hr_4 => ?_
  refine tt ?_
  repeat (with_reducible first | intro _ | refine ⟨ss, ?_⟩)
  refine cS (lazarettoref04_Ints_ok hr_4) ?_
  refine fv h F (fun h _ F => ?_) (fun h _ F => ?_)
  refine bi h fun r_5 h hr_5 => ?_
  refine tt ?_
  repeat (with_reducible first | intro _ | refine ⟨ss, ?_⟩)
  refine cS (latches_Forced_ok hr_5) ?_
  refine fv h F (fun h _ F => ?_) (fun h _ F => ?_)
  refine bi h fun r_6 h hr_6 => ?_
  refine tt ?_
  repeat (with_reducible first | intro _ | refine ⟨ss, ?_⟩)
  refine cS (latches_Forced_ok hr_6) ?_
  refine fv h F (fun h _ F => ?_) (fun h _ F => ?_)
  cases h; exact fin
  refine bi h fun r_7 h hr_7 => ?_
  refine tt ?_
  repeat (with_reducible first | intro _ | refine ⟨ss, ?_⟩)
  refine cS (latches_Merge_ok hr_7) ?_
  refine bi h fun r_8 h hr_8 => ?_
  refine tt ?_
  repeat (with_reducible first | intro _ | refine ⟨ss, ?_⟩)
  refine cS (lazarettoref04_Ints_ok hr_8) ?_
  cases h; exact fin
  cases h; exact fin
  cases h; exact fin
  cases h; exact fin
theorem lazarettoref23_Merge_ok {a : List Int} {b : List Int} {r : List Int} (h : lazarettoref23_Merge a b = some r) :
    Pu Try.prog 21 [.one (.sl (a.map eI)), .one (.sl (b.map eI))] (.one (.sl (r.map eI))) := by
  have F := trivial; have R := trivial
  refine pA Try.func21 ?_
  simp only [Try.f21]
  unfold lazarettoref23_Merge at h
  refine bi h fun e_5 h he_5 => ?_
  refine tt ?_
  refine seed_L 5 1 (by simp [go_sem]) ?_
  refine lE (fun (s__ : (List Int) × Nat) (a__ : Nat) => match s__, a__ with | (out_2, i_4), v_1 => ⟨[(0, .one (.sl (a.map eI))), (1, .one (.sl (b.map eI))), (5, .one (.msl 0 v_1 0 out_2.length)), (6, .one (.int .i64 (i_4 : Int)))], [.cells v_1 1 (out_2.map eI)]⟩) (fun (e__ : List Int) (b__ : Nat) => match e__, b__ with | e_5, b6 => ⟨[(5, .one (.msl 0 b6 0 e_5.length))], [.cells b6 1 (e_5.map eI)]⟩) (fun (_ : List Int) => some 0) 0 he_5 ?_ ?_
  intro i6 b6 hi6
  obtain rfl := Option.some.inj hi6
  dsimp only at h ⊢
  cases h; exact fin
  intro af6 m6 s6 v_1 o6 hf6 ho6 ih6
  obtain ⟨out_2, i_4⟩ := s6
  dsimp only [lazarettoref23_Merge_L1] at hf6 ⊢
  refine tt ?_
  repeat (with_reducible first | intro _ | refine ⟨ss, ?_⟩)
  refine fl hf6 F (fun hf6 _ F => ?_) (fun hf6 _ F => ?_)
  refine bx hf6 F fun x_7 hf6 hx_7 F => ?_
  refine tt ?_
  repeat (with_reducible first | intro _ | refine ⟨ss, ?_⟩)
  refine fi hf6 F (fun hf6 _ F => ?_) (fun hf6 _ F => ?_)
  refine tt ?_
  repeat (with_reducible first | intro _ | refine ⟨ss, ?_⟩)
  refine fl hf6 F (fun hf6 _ F => ?_) (fun hf6 _ F => ?_)
  refine bx hf6 F fun x_8 hf6 hx_8 F => ?_
  refine nd hf6 F fun hf6 F => ?_
  cases hf6
  refine tt ?_
  repeat (with_reducible first | intro _ | refine ⟨ss, ?_⟩)
  refine wn i_4 F fun F => ?_
  exact bk ih6 ho6 (v_1 + 1)
  refine nd hf6 F fun hf6 F => ?_
  cases hf6
  refine tt ?_
  repeat (with_reducible first | intro _ | refine ⟨ss, ?_⟩)
  refine wn i_4 F fun F => ?_
  exact bk ih6 ho6 (v_1 + 1)
  refine nd hf6 F fun hf6 F => ?_
  cases hf6
  refine tt ?_
  repeat (with_reducible first | intro _ | refine ⟨ss, ?_⟩)
  refine wn i_4 F fun F => ?_
  exact bk ih6 ho6 (v_1 + 1)
  refine tt ?_
  repeat (with_reducible first | intro _ | refine ⟨ss, ?_⟩)
  refine fl hf6 F (fun hf6 _ F => ?_) (fun hf6 _ F => ?_)
  refine bx hf6 F fun x_12 hf6 hx_12 F => ?_
  refine nd hf6 F fun hf6 F => ?_
  cases hf6
  refine tt ?_
  repeat (with_reducible first | intro _ | refine ⟨ss, ?_⟩)
  refine wn i_4 F fun F => ?_
  exact bk ih6 ho6 (v_1 + 1)
  cases hf6
  refine tt ?_
  exact xt ho6 af6 v_1
theorem lazarettolaw23_LatchesMerge_ok {a : List Int} {b : List Int} {c : List Int} {r : Bool} (h : lazarettolaw23_LatchesMerge a b c = some r) :
    Pu Try.prog 4 [.one (.sl (a.map eI)), .one (.sl (b.map eI)), .one (.sl (c.map eI))] (.one (.bool r)) := by
  have F := trivial; have R := trivial
  refine pA Try.func4 ?_
  simp only [Try.f4]
  unfold lazarettolaw23_LatchesMerge at h
  refine tt ?_
  repeat (with_reducible first | intro _ | refine ⟨ss, ?_⟩)
  refine fi h F (fun h _ F => ?_) (fun h _ F => ?_)
  refine bi h fun r_1 h hr_1 => ?_
  refine tt ?_
  repeat (with_reducible first | intro _ | refine ⟨ss, ?_⟩)
  refine cS (lazarettolaw23_awake_ok hr_1) ?_
  cases h; exact fin
  refine tt ?_
  repeat (with_reducible first | intro _ | refine ⟨ss, ?_⟩)
  refine fi h F (fun h _ F => ?_) (fun h _ F => ?_)
  refine bi h fun r_2 h hr_2 => ?_
  refine tt ?_
  repeat (with_reducible first | intro _ | refine ⟨ss, ?_⟩)
  refine cS (lazarettolaw23_awake_ok hr_2) ?_
  cases h; exact fin
  refine tt ?_
  repeat (with_reducible first | intro _ | refine ⟨ss, ?_⟩)
  refine fi h F (fun h _ F => ?_) (fun h _ F => ?_)
  refine bi h fun r_3 h hr_3 => ?_
  refine tt ?_
  repeat (with_reducible first | intro _ | refine ⟨ss, ?_⟩)
  refine cS (lazarettolaw23_awake_ok hr_3) ?_
  cases h; exact fin
  refine bi h fun r_4 h hr_4 => ?_
  refine tt ?_
  repeat (with_reducible first | intro _ | refine ⟨ss, ?_⟩)
  refine cS (latches_Merge_ok hr_4) ?_
  refine bi h fun r_5 h hr_5 => ?_
  refine tt ?_
  repeat (with_reducible first | intro _ | refine ⟨ss, ?_⟩)
  refine cS (lazarettoref23_Merge_ok hr_5) ?_
  refine bi h fun r_6 h hr_6 => ?_
  refine tt ?_
  repeat (with_reducible first | intro _ | refine ⟨ss, ?_⟩)
  refine cS (lazarettoref04_Ints_ok hr_6) ?_
  refine fv h F (fun h _ F => ?_) (fun h _ F => ?_)
  refine bi h fun r_7 h hr_7 => ?_
  refine tt ?_
  repeat (with_reducible first | intro _ | refine ⟨ss, ?_⟩)
  refine cS (latches_Merge_ok hr_7) ?_
  refine bi h fun r_8 h hr_8 => ?_
  refine tt ?_
  repeat (with_reducible first | intro _ | refine ⟨ss, ?_⟩)
  refine cS (latches_Merge_ok hr_8) ?_
  refine bi h fun r_9 h hr_9 => ?_
  refine tt ?_
  repeat (with_reducible first | intro _ | refine ⟨ss, ?_⟩)
  refine cS (latches_Merge_ok hr_9) ?_
  refine bi h fun r_10 h hr_10 => ?_
  refine tt ?_
  repeat (with_reducible first | intro _ | refine ⟨ss, ?_⟩)
  refine cS (latches_Merge_ok hr_10) ?_
  refine bi h fun r_11 h hr_11 => ?_
  refine tt ?_
  repeat (with_reducible first | intro _ | refine ⟨ss, ?_⟩)
  refine cS (lazarettoref04_Ints_ok hr_11) ?_
  refine fv h F (fun h _ F => ?_) (fun h _ F => ?_)
  refine bi h fun r_12 h hr_12 => ?_
  refine tt ?_
  repeat (with_reducible first | intro _ | refine ⟨ss, ?_⟩)
  refine cS (lazarettolaw23_awake_ok hr_12) ?_
  cases h; exact fin
  cases h; exact fin
  cases h; exact fin
end Go.Lz
