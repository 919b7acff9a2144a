/- W23 -/
import Derived.Test.YtbcpfhnlidpcbaaLw1
import Derived.Test.YtbcpfhnlidpcbaaSD
namespace Go.Lz
set_option linter.unusedVariables false
set_option linter.unusedSimpArgs false
open Go.Proofs
attribute [-go_sem] q_cond g_b gd_b
noncomputable section
def lazarettoref04_Ints_L1 (a : List Int) (b : List Int) : Nat → Option ((Nat) ⊕ (Bool ⊕ Unit))
  | i_3 => if (i_3 : Int) < (a.length : Int) then ((a[i_3]?).bind fun x_9 => (b[i_3]?).bind fun x_11 => if x_9 = x_11 then (some (.inl (i_3 + 1))) else (some (.inr (.inl (false))))) else (some (.inr (.inr (()))))
def lazarettoref04_Ints (a : List Int) (b : List Int) : Option Bool :=
  if (a.length : Int) = (b.length : Int) then ((loop (lazarettoref04_Ints_L1 a b) 0).bind (fun e__ => match e__ with | (.inl e_19) => some e_19 | (.inr ()) => some true)) else (some false)
def lattice_is (l : api_Lattice) (a : Int) : Option Bool :=
  if 0 ≤ a then (some (decide (a < (l.Names.length : Int)))) else (some false)
def lattice_above_L2 (l : api_Lattice) (x_14 : Int) : ((List Bool) × (List Int) × Nat) → Option (((List Bool) × (List Int) × Nat) ⊕ ((List Bool) × (List Int)))
  | (out_20, todo_22, x_24) => if (x_24 : Int) < (l.Below.length : Int) then ((l.Below[x_24]?).bind fun x_30 => if x_30.a0 = x_14 then ((lattice_is l x_30.a1).bind fun r_34 => if r_34 = true then ((idx out_20 x_30.a1).bind fun x_36 => if x_36 = true then (some (.inl (out_20, todo_22, (x_24 + 1)))) else (need ((todo_22.length + 1) * 8 ≤ 140737488355328) (some (.inl ((out_20.set x_30.a1.toNat true), (todo_22 ++ [x_30.a1]), (x_24 + 1)))))) else (some (.inl (out_20, todo_22, (x_24 + 1))))) else (some (.inl (out_20, todo_22, (x_24 + 1))))) else (some (.inr ((out_20, todo_22))))
def lattice_above_L1 (l : api_Lattice) : ((List Bool) × (List Int)) → Option (((List Bool) × (List Int)) ⊕ ((List Bool) × (List Int)))
  | (out_6, todo_8) => if 0 < (todo_8.length : Int) then ((todo_8[0]?).bind fun x_14 => need ((1 : Int) ≤ (todo_8.length : Int)) ((loop (lattice_above_L2 l x_14) (out_6, (todo_8.drop 1), 0)).bind (fun (out_48, todo_49) => some (.inl (out_48, todo_49))))) else (some (.inr ((out_6, todo_8))))
def lattice_above (l : api_Lattice) (a : Int) : Option (List Bool) :=
  need (0 ≤ (l.Names.length : Int) ∧ 1 * (l.Names.length : Int) ≤ 140737488355328) ((idx (List.replicate l.Names.length false) a).bind fun x_3 => (loop (lattice_above_L1 l) (((List.replicate l.Names.length false).set a.toNat true), [a])).bind (fun (out_53, todo_54) => some out_53))
def lattice_Leq (l : api_Lattice) (a : Int) (b : Int) : Option Bool :=
  (lattice_is l a).bind fun r_1 => if r_1 = true then ((lattice_is l b).bind fun r_3 => if r_3 = true then ((lattice_above l a).bind fun r_5 => (idx r_5 b).bind fun x_6 => some x_6) else (some false)) else (some false)
def latches_Forced_L1 (l : api_Lattice) (latches : List Int) (label : Int) : Nat → Option ((Nat) ⊕ (Bool ⊕ Unit))
  | x_1 => if (x_1 : Int) < (latches.length : Int) then ((latches[x_1]?).bind fun x_7 => if x_7 = 0 then (some (.inl (x_1 + 1))) else ((lattice_Leq l (x_1 : Int) label).bind fun r_13 => if r_13 = true then (some (.inr (.inl (true)))) else (some (.inl (x_1 + 1))))) else (some (.inr (.inr (()))))
def latches_Forced (l : api_Lattice) (latches : List Int) (label : Int) : Option Bool :=
  (loop (latches_Forced_L1 l latches label) 0).bind (fun e__ => match e__ with | (.inl e_18) => some e_18 | (.inr ()) => some false)
def latches_Outputs_L1 (m : api_Image) (mem : api_Memory) (latches : List Int) : ((List Int) × Nat) → Option (((List Int) × Nat) ⊕ (List Int))
  | (out_2, x_4) => if (x_4 : Int) < (m.Vars.length : Int) then ((m.Vars[x_4]?).bind fun x_10 => if x_10.Mode = 2 then (if (x_4 : Int) < (mem.Cells.length : Int) then ((mem.Cells[x_4]?).bind fun x_17 => if 0 < (x_17.length : Int) then ((x_17[0]?).bind fun x_21 => (latches_Forced m.Lattice latches x_10.Label).bind fun r_23 => if r_23 = true then (need ((out_2.length + 1) * 8 ≤ 140737488355328) (some (.inl ((out_2 ++ [x_10.Safe]), (x_4 + 1))))) else (need ((out_2.length + 1) * 8 ≤ 140737488355328) (some (.inl ((out_2 ++ [x_21]), (x_4 + 1)))))) else ((latches_Forced m.Lattice latches x_10.Label).bind fun r_30 => if r_30 = true then (need ((out_2.length + 1) * 8 ≤ 140737488355328) (some (.inl ((out_2 ++ [x_10.Safe]), (x_4 + 1))))) else (need ((out_2.length + 1) * 8 ≤ 140737488355328) (some (.inl ((out_2 ++ [0]), (x_4 + 1))))))) else ((latches_Forced m.Lattice latches x_10.Label).bind fun r_38 => if r_38 = true then (need ((out_2.length + 1) * 8 ≤ 140737488355328) (some (.inl ((out_2 ++ [x_10.Safe]), (x_4 + 1))))) else (need ((out_2.length + 1) * 8 ≤ 140737488355328) (some (.inl ((out_2 ++ [0]), (x_4 + 1))))))) else (some (.inl (out_2, (x_4 + 1))))) else (some (.inr (out_2)))
def latches_Outputs (m : api_Image) (mem : api_Memory) (latches : List Int) : Option (List Int) :=
  (loop (latches_Outputs_L1 m mem latches) ([], 0)).bind (fun e_5 => some e_5)
def latches_Merge_L1 (a : List Int) : ((List Int) × Nat) → Option (((List Int) × Nat) ⊕ (List Int))
  | (out_3, x_4) => if (x_4 : Int) < (a.length : Int) then ((a[x_4]?).bind fun x_10 => if x_10 = 0 then (some (.inl (out_3, (x_4 + 1)))) else ((out_3[x_4]?).bind fun x_16 => some (.inl ((out_3.set x_4 x_10), (x_4 + 1))))) else (some (.inr (out_3)))
def latches_Merge (a : List Int) (b : List Int) : Option (List Int) :=
  need (0 ≤ (max (a.length : Int) (b.length : Int)) ∧ 8 * (max (a.length : Int) (b.length : Int)) ≤ 140737488355328) ((loop (latches_Merge_L1 a) ((copyL (List.replicate (max (a.length : Int) (b.length : Int)).toNat 0) b), 0)).bind (fun e_5 => some e_5))
def lazarettolaw23_awake : Option Bool :=
  (latches_Outputs (⟨(⟨[([108, 111, 119] : Str), ([104, 105, 103, 104] : Str)], [(⟨0, 1⟩ : A2 Int)]⟩ : api_Lattice), [], [(⟨[], (⟨2, 0, 0⟩ : api_Type), 2, 0, 9⟩ : api_Var), (⟨[], (⟨2, 0, 0⟩ : api_Type), 2, 1, 8⟩ : api_Var)], [], [], []⟩ : api_Image) (⟨[[1], [2]], []⟩ : api_Memory) [0, 1]).bind fun r_1 => (lazarettoref04_Ints r_1 [1, 8]).bind fun r_2 => if r_2 = true then ((latches_Outputs (⟨(⟨[([108, 111, 119] : Str), ([104, 105, 103, 104] : Str)], [(⟨0, 1⟩ : A2 Int)]⟩ : api_Lattice), [], [(⟨[], (⟨2, 0, 0⟩ : api_Type), 2, 0, 9⟩ : api_Var), (⟨[], (⟨2, 0, 0⟩ : api_Type), 2, 1, 8⟩ : api_Var)], [], [], []⟩ : api_Image) (⟨[[1], [2]], []⟩ : api_Memory) [1, 0]).bind fun r_4 => (lazarettoref04_Ints r_4 [9, 8]).bind fun r_5 => if r_5 = true then ((latches_Forced (⟨[([108, 111, 119] : Str), ([104, 105, 103, 104] : Str)], [(⟨0, 1⟩ : A2 Int)]⟩ : api_Lattice) [1, 0] 1).bind fun r_7 => if r_7 = true then ((latches_Forced (⟨[([108, 111, 119] : Str), ([104, 105, 103, 104] : Str)], [(⟨0, 1⟩ : A2 Int)]⟩ : api_Lattice) [0, 1] 0).bind fun r_9 => if r_9 = true then (some false) else ((latches_Merge [0, 2] [1, 1, 1]).bind fun r_11 => (lazarettoref04_Ints r_11 [1, 2, 1]).bind fun r_12 => some r_12)) else (some false)) else (some false)) else (some false)
def lazarettoref23_Merge_L1 (a : List Int) (b : List Int) : ((List Int) × Nat) → Option (((List Int) × Nat) ⊕ (List Int))
  | (out_2, i_4) => if (i_4 : Int) < (a.length : Int) then ((a[i_4]?).bind fun x_10 => if x_10 = 0 then (if (i_4 : Int) < (b.length : Int) then ((b[i_4]?).bind fun x_17 => need ((out_2.length + 1) * 8 ≤ 140737488355328) (some (.inl ((out_2 ++ [x_17]), (i_4 + 1))))) else (need ((out_2.length + 1) * 8 ≤ 140737488355328) (some (.inl ((out_2 ++ [x_10]), (i_4 + 1)))))) else (need ((out_2.length + 1) * 8 ≤ 140737488355328) (some (.inl ((out_2 ++ [x_10]), (i_4 + 1)))))) else (if (i_4 : Int) < (b.length : Int) then ((b[i_4]?).bind fun x_33 => need ((out_2.length + 1) * 8 ≤ 140737488355328) (some (.inl ((out_2 ++ [x_33]), (i_4 + 1))))) else (some (.inr (out_2))))
def lazarettoref23_Merge (a : List Int) (b : List Int) : Option (List Int) :=
  (loop (lazarettoref23_Merge_L1 a b) ([], 0)).bind (fun e_5 => some e_5)
def lazarettolaw23_LatchesMerge (a : List Int) (b : List Int) (c : List Int) : Option Bool :=
  if 1000 < (a.length : Int) then ((lazarettolaw23_awake).bind fun r_3 => some r_3) else (if 1000 < (b.length : Int) then ((lazarettolaw23_awake).bind fun r_7 => some r_7) else (if 1000 < (c.length : Int) then ((lazarettolaw23_awake).bind fun r_11 => some r_11) else ((latches_Merge a b).bind fun r_13 => (lazarettoref23_Merge a b).bind fun r_14 => (lazarettoref04_Ints r_13 r_14).bind fun r_15 => if r_15 = true then ((latches_Merge a b).bind fun r_17 => (latches_Merge r_17 c).bind fun r_18 => (latches_Merge b c).bind fun r_19 => (latches_Merge a r_19).bind fun r_20 => (lazarettoref04_Ints r_18 r_20).bind fun r_21 => if r_21 = true then ((lazarettolaw23_awake).bind fun r_23 => some r_23) else (some false)) else (some false))))
end
set_option maxRecDepth 100000 in
theorem lazarettoref04_Ints_ok {a : List Int} {b : List Int} {r : Bool} (h : lazarettoref04_Ints a b = some r) :
    Pu Try.prog 17 [.one (.sl (a.map eI)), .one (.sl (b.map eI))] (.one (.bool r)) := by
  refine pu_of_awp Try.func17 rfl (by kernel_rfl) (by kernel_rfl) (awp_of_S ?_)
  simp only [Try.f17]
  unfold lazarettoref04_Ints at h
  try simp -implicitDefEqProofs only [go_sem, simprocAttr]
  repeat (first | (with_reducible refine imp_i fun _ => ?_) | (with_reducible refine and_a ?_))
  by_cases hc_1 : (a.length : Int) = (b.length : Int)
  · replace h := if_t hc_1 h
    have hq_2 := eq_true hc_1
    obtain ⟨e_4, he_4, h⟩ := bind_inv h
    try simp -implicitDefEqProofs only [go_sem, simprocAttr, hq_2]
    repeat (first | (with_reducible refine imp_i fun _ => ?_) | (with_reducible refine and_a ?_))
    refine purge_to [0, 1, 5] 0 ((fun (s__ : Nat) (a__ : Unit) => match s__, a__ with | i_3, _ => ⟨[(0, .one (.sl (a.map eI))), (1, .one (.sl (b.map eI))), (5, .one (.int .i64 (i_3 : Int)))], []⟩) 0 ()) (by simp) (by simp [go_sem]) (by simp [go_sem]) (by simp [go_sem, copyL, List.map_set, hq_2] <;> omega) ?_
    refine loop_X (f := lazarettoref04_Ints_L1 a b) (s0 := 0) (fun (s__ : Nat) (a__ : Unit) => match s__, a__ with | i_3, _ => ⟨[(0, .one (.sl (a.map eI))), (1, .one (.sl (b.map eI))), (5, .one (.int .i64 (i_3 : Int)))], []⟩) (fun (e__ : Bool ⊕ Unit) (b__ : Unit) => match e__, b__ with | (.inl e_19), _ => ⟨[], []⟩ | (.inr ()), _ => ⟨[], []⟩) (fun (e__ : Bool ⊕ Unit) => match e__ with | (.inl _) => none | (.inr _) => some 0) () he_4 ?_ ?_
    · intro i5 b5 hi5
      rcases e_4 with e_case | ⟨⟩
      · cases hi5
      · obtain rfl := Option.some.inj hi5
        obtain ⟨⟩ := b5
        dsimp only at h ⊢
        obtain rfl := Option.some.inj h
        try simp -implicitDefEqProofs only [go_sem, simprocAttr, hq_2]
        all_goals (repeat (first | (with_reducible refine imp_i fun _ => ?_) | (with_reducible refine and_a ?_)))
        all_goals (try simp [go_sem, hq_2])
    · intro af5 m5 i_3 a5 o5 hf5 ho5 ih5
      obtain ⟨⟩ := a5
      dsimp only [lazarettoref04_Ints_L1] at hf5 ⊢ ih5
      try simp -implicitDefEqProofs only [go_sem, simprocAttr, hq_2]
      repeat (first | (with_reducible refine imp_i fun _ => ?_) | (with_reducible refine and_a ?_))
      by_cases hc_6 : (i_3 : Int) < (a.length : Int)
      · replace hf5 := if_t hc_6 hf5
        have hq_7 := eq_true hc_6
        have hn_8 : i_3 < a.length := by omega
        obtain ⟨x_9, hx_9, hf5⟩ := bind_inv hf5
        obtain ⟨f_101, f_102, f_103, f_104⟩ := nat_facts hx_9
        obtain ⟨x_11, hx_11, hf5⟩ := bind_inv hf5
        obtain ⟨f_121, f_122, f_123, f_124⟩ := nat_facts hx_11
        try simp -implicitDefEqProofs only [go_sem, simprocAttr, hq_2, hq_7, hn_8, f_101, f_102, f_103, f_104, f_121, f_122, f_123, f_124]
        repeat (first | (with_reducible refine imp_i fun _ => ?_) | (with_reducible refine and_a ?_))
        by_cases hc_13 : x_9 = x_11
        · replace hf5 := if_t hc_13 hf5
          have hq_14 := eq_true hc_13
          obtain rfl := Option.some.inj hf5
          try simp -implicitDefEqProofs only [go_sem, simprocAttr, hq_2, hq_7, hn_8, f_101, f_102, f_103, f_104, f_121, f_122, f_123, f_124, hq_14]
          repeat (first | (with_reducible refine imp_i fun _ => ?_) | (with_reducible refine and_a ?_))
          have hw_15 := wrap_nat (k := i_3) (by omega)
          refine purge_P [0, 1, 5] 0 ((fun (s__ : Nat) (a__ : Unit) => match s__, a__ with | i_3, _ => ⟨[(0, .one (.sl (a.map eI))), (1, .one (.sl (b.map eI))), (5, .one (.int .i64 (i_3 : Int)))], []⟩) (i_3 + 1) ()) (by simp) (by simp [go_sem]) (by simp [go_sem]) (by simp [go_sem, copyL, List.map_set, hq_2, hq_7, hn_8, f_101, f_102, f_103, f_104, f_121, f_122, f_123, f_124, hq_14, hw_15] <;> omega) ?_
          exact ih5 (i_3 + 1) () ho5
        · replace hf5 := if_f hc_13 hf5
          have hq_16 := eq_false hc_13
          obtain rfl := Option.some.inj hf5
          obtain rfl := Option.some.inj ho5
          try dsimp only at h
          obtain rfl := Option.some.inj h
          try simp -implicitDefEqProofs only [go_sem, simprocAttr, hq_2, hq_7, hn_8, f_101, f_102, f_103, f_104, f_121, f_122, f_123, f_124, hq_16]
          all_goals (repeat (first | (with_reducible refine imp_i fun _ => ?_) | (with_reducible refine and_a ?_)))
          all_goals (try simp [go_sem, hq_2, hq_7, hn_8, f_101, f_102, f_103, f_104, f_121, f_122, f_123, f_124, hq_16])
      · replace hf5 := if_f hc_6 hf5
        have hq_17 := eq_false hc_6
        have hn_18 : ¬ i_3 < a.length := by omega
        obtain rfl := Option.some.inj hf5
        obtain rfl := Option.some.inj ho5
        try simp -implicitDefEqProofs only [go_sem, simprocAttr, hq_2, hq_17, hn_18]
        repeat (first | (with_reducible refine imp_i fun _ => ?_) | (with_reducible refine and_a ?_))
        refine purge_E [] 0 ((fun (e__ : Bool ⊕ Unit) (b__ : Unit) => match e__, b__ with | (.inl e_19), _ => ⟨[], []⟩ | (.inr ()), _ => ⟨[], []⟩) (.inr ()) ()) (by simp) (by simp [go_sem]) (by simp [go_sem]) (by simp [go_sem, copyL, List.map_set, hq_2, hq_17, hn_18] <;> omega) ?_
        exact af5 _ () rfl
  · replace h := if_f hc_1 h
    have hq_20 := eq_false hc_1
    obtain rfl := Option.some.inj h
    try simp -implicitDefEqProofs only [go_sem, simprocAttr, hq_20]
    all_goals (repeat (first | (with_reducible refine imp_i fun _ => ?_) | (with_reducible refine and_a ?_)))
    all_goals (try simp [go_sem, hq_20])
set_option maxRecDepth 100000 in
theorem lattice_is_ok {l : api_Lattice} {a : Int} {r : Bool} (h : lattice_is l a = some r) :
    Pu Try.prog 61 [.agg (e_api_Lattice l), .one (.int .i64 a)] (.one (.bool r)) := by
  refine pu_of_awp Try.func61 rfl (by kernel_rfl) (by kernel_rfl) (awp_of_S ?_)
  simp only [Try.f61]
  unfold lattice_is at h
  try simp -implicitDefEqProofs only [go_sem, simprocAttr]
  repeat (first | (with_reducible refine imp_i fun _ => ?_) | (with_reducible refine and_a ?_))
  by_cases hc_1 : 0 ≤ a
  · replace h := if_t hc_1 h
    have hq_2 := eq_true hc_1
    obtain rfl := Option.some.inj h
    try simp -implicitDefEqProofs only [go_sem, simprocAttr, hq_2]
    all_goals (repeat (first | (with_reducible refine imp_i fun _ => ?_) | (with_reducible refine and_a ?_)))
    all_goals (try simp [go_sem, hq_2])
  · replace h := if_f hc_1 h
    have hq_3 := eq_false hc_1
    obtain rfl := Option.some.inj h
    try simp -implicitDefEqProofs only [go_sem, simprocAttr, hq_3]
    all_goals (repeat (first | (with_reducible refine imp_i fun _ => ?_) | (with_reducible refine and_a ?_)))
    all_goals (try simp [go_sem, hq_3])
set_option maxRecDepth 100000 in
theorem lattice_above_ok {l : api_Lattice} {a : Int} {r : List Bool} (h : lattice_above l a = some r) :
    Pu Try.prog 62 [.agg (e_api_Lattice l), .one (.int .i64 a)] (.one (.sl (r.map eB))) := by
  refine pu_of_awp Try.func62 rfl (by kernel_rfl) (by kernel_rfl) (awp_of_S ?_)
  simp only [Try.f62]
  unfold lattice_above at h
  obtain ⟨hn_1, h⟩ := need_inv h
  have hz_2 : List.replicate l.Names.length [.bool false] = List.map eB (List.replicate l.Names.length false) := by simp [go_sem]
  obtain ⟨x_3, hx_3, h⟩ := bind_inv h
  obtain ⟨f_41, f_42, f_43, f_44⟩ := idx_facts hx_3
  try simp only [List.length_replicate, List.length_set, List.length_append, List.length_cons, List.length_nil, List.length_map, List.length_take, List.length_drop, copyL_len] at f_42 f_43
  have hs_5 : (List.map eB (List.replicate l.Names.length false)).set a.toNat [.bool true] = List.map eB ((List.replicate l.Names.length false).set a.toNat true) := by simp [go_sem, List.map_set]
  obtain ⟨e_10, he_10, h⟩ := bind_inv h
  try simp -implicitDefEqProofs only [go_sem, simprocAttr, hn_1, hz_2, f_41, f_42, f_43, f_44, hs_5]
  repeat (first | (with_reducible refine imp_i fun _ => ?_) | (with_reducible refine and_a ?_))
  refine purge_to [2, 5, 6] 3 ((fun (s__ : (List Bool) × (List Int)) (a__ : Nat × (List Int)) => match s__, a__ with | (out_6, todo_8), (v_7, pre_9) => ⟨[(2, .one (.ref 0 0 0 0)), (5, .one (.msl 1 0 0 out_6.length)), (6, .one (.msl 2 v_7 pre_9.length (pre_9.length + todo_8.length)))], [.cells 0 2 [[.sl (l.Names.map eS), .sl (l.Below.map (eA2 eI))]], .cells 0 1 (out_6.map eB), .cells v_7 1 ((pre_9 ++ todo_8).map eI)]⟩) (((List.replicate l.Names.length false).set a.toNat true), [a]) (0, ([] : List Int))) (by simp) (by simp [go_sem]) (by simp [go_sem]) (by simp [go_sem, copyL, List.map_set, hn_1, f_41, f_42, f_43, f_44] <;> omega) ?_
  refine loop_X (f := lattice_above_L1 l) (s0 := (((List.replicate l.Names.length false).set a.toNat true), [a])) (fun (s__ : (List Bool) × (List Int)) (a__ : Nat × (List Int)) => match s__, a__ with | (out_6, todo_8), (v_7, pre_9) => ⟨[(2, .one (.ref 0 0 0 0)), (5, .one (.msl 1 0 0 out_6.length)), (6, .one (.msl 2 v_7 pre_9.length (pre_9.length + todo_8.length)))], [.cells 0 2 [[.sl (l.Names.map eS), .sl (l.Below.map (eA2 eI))]], .cells 0 1 (out_6.map eB), .cells v_7 1 ((pre_9 ++ todo_8).map eI)]⟩) (fun (e__ : (List Bool) × (List Int)) (b__ : Nat × (List Int)) => match e__, b__ with | (out_53, todo_54), (v_55, pre_56) => ⟨[(5, .one (.msl 1 0 0 out_53.length))], [.cells 0 2 [[.sl (l.Names.map eS), .sl (l.Below.map (eA2 eI))]], .cells 0 1 (out_53.map eB), .cells v_55 1 ((pre_56 ++ todo_54).map eI)]⟩) (fun (_ : (List Bool) × (List Int)) => some 0) (0, ([] : List Int)) he_10 ?_ ?_
  · intro i11 b11 hi11
    obtain rfl := Option.some.inj hi11
    obtain ⟨out_53, todo_54⟩ := e_10
    obtain ⟨v_55, pre_56⟩ := b11
    dsimp only at h ⊢
    obtain rfl := Option.some.inj h
    try simp -implicitDefEqProofs only [go_sem, simprocAttr, hn_1, hz_2, f_41, f_42, f_43, f_44, hs_5]
    all_goals (repeat (first | (with_reducible refine imp_i fun _ => ?_) | (with_reducible refine and_a ?_)))
    all_goals (try simp [go_sem, hn_1, f_41, f_42, f_43, f_44])
  · intro af11 m11 s11 a11 o11 hf11 ho11 ih11
    obtain ⟨out_6, todo_8⟩ := s11
    obtain ⟨v_7, pre_9⟩ := a11
    dsimp only [lattice_above_L1] at hf11 ⊢ ih11
    try simp -implicitDefEqProofs only [go_sem, simprocAttr, hn_1, hz_2, f_41, f_42, f_43, f_44, hs_5]
    repeat (first | (with_reducible refine imp_i fun _ => ?_) | (with_reducible refine and_a ?_))
    by_cases hc_12 : 0 < (todo_8.length : Int)
    · replace hf11 := if_t hc_12 hf11
      have hq_13 := eq_true hc_12
      obtain ⟨x_14, hx_14, hf11⟩ := bind_inv hf11
      obtain ⟨f_151, f_152, f_153, f_154⟩ := nat_facts hx_14
      have hp_16 : (pre_9 ++ todo_8)[pre_9.length]? = some x_14 := q_get f_154
      have hp_17 : pre_9.length < (pre_9 ++ todo_8).length := q_lt f_154
      obtain ⟨hn_18, hf11⟩ := need_inv hf11
      have hd_19 : List.drop (pre_9.length + 1) (List.map eI (pre_9 ++ todo_8)) = List.map eI (todo_8.drop 1) := q_drop _ _ _ _
      obtain ⟨e_25, he_25, hf11⟩ := bind_inv hf11
      try simp -implicitDefEqProofs only [go_sem, simprocAttr, hn_1, hz_2, f_41, f_42, f_43, f_44, hs_5, hq_13, f_151, f_152, f_153, f_154, hp_16, hp_17, hn_18, hd_19]
      repeat (first | (with_reducible refine imp_i fun _ => ?_) | (with_reducible refine and_a ?_))
      refine purge_to [2, 5, 6, 7, 28, 29, 30] 3 ((fun (s__ : (List Bool) × (List Int) × Nat) (a__ : Nat × (List Int)) => match s__, a__ with | (out_20, todo_22, x_24), (v_21, pre_23) => ⟨[(2, .one (.ref 0 0 0 0)), (5, .one (.msl 1 0 0 out_20.length)), (6, .one (.msl 2 v_21 pre_23.length (pre_23.length + todo_22.length))), (7, .one (.int .i64 x_14)), (28, .one (.sl (l.Below.map (eA2 eI)))), (29, .one (.int .i64 (l.Below.length : Int))), (30, .one (.int .i64 (x_24 : Int)))], [.cells 0 2 [[.sl (l.Names.map eS), .sl (l.Below.map (eA2 eI))]], .cells 0 1 (out_20.map eB), .cells v_21 1 ((pre_23 ++ todo_22).map eI)]⟩) (out_6, (todo_8.drop 1), 0) (v_7, (pre_9 ++ todo_8.take 1))) (by simp) (by simp [go_sem]) (by simp [go_sem]) (by simp [go_sem, copyL, List.map_set, hn_1, f_41, f_42, f_43, f_44, hq_13, f_151, f_152, f_153, f_154, hn_18] <;> omega) ?_
      refine loop_X (f := lattice_above_L2 l x_14) (s0 := (out_6, (todo_8.drop 1), 0)) (fun (s__ : (List Bool) × (List Int) × Nat) (a__ : Nat × (List Int)) => match s__, a__ with | (out_20, todo_22, x_24), (v_21, pre_23) => ⟨[(2, .one (.ref 0 0 0 0)), (5, .one (.msl 1 0 0 out_20.length)), (6, .one (.msl 2 v_21 pre_23.length (pre_23.length + todo_22.length))), (7, .one (.int .i64 x_14)), (28, .one (.sl (l.Below.map (eA2 eI)))), (29, .one (.int .i64 (l.Below.length : Int))), (30, .one (.int .i64 (x_24 : Int)))], [.cells 0 2 [[.sl (l.Names.map eS), .sl (l.Below.map (eA2 eI))]], .cells 0 1 (out_20.map eB), .cells v_21 1 ((pre_23 ++ todo_22).map eI)]⟩) (fun (e__ : (List Bool) × (List Int)) (b__ : Nat × (List Int)) => match e__, b__ with | (out_48, todo_49), (v_50, pre_51) => ⟨[(2, .one (.ref 0 0 0 0)), (5, .one (.msl 1 0 0 out_48.length)), (6, .one (.msl 2 v_50 pre_51.length (pre_51.length + todo_49.length)))], [.cells 0 2 [[.sl (l.Names.map eS), .sl (l.Below.map (eA2 eI))]], .cells 0 1 (out_48.map eB), .cells v_50 1 ((pre_51 ++ todo_49).map eI)]⟩) (fun (_ : (List Bool) × (List Int)) => some 2) (v_7, (pre_9 ++ todo_8.take 1)) he_25 ?_ ?_
      · intro i26 b26 hi26
        obtain rfl := Option.some.inj hi26
        obtain ⟨out_48, todo_49⟩ := e_25
        obtain ⟨v_50, pre_51⟩ := b26
        dsimp only at hf11 ⊢
        obtain rfl := Option.some.inj hf11
        try simp -implicitDefEqProofs only [go_sem, simprocAttr, hn_1, hz_2, f_41, f_42, f_43, f_44, hs_5, hq_13, f_151, f_152, f_153, f_154, hp_16, hp_17, hn_18, hd_19]
        repeat (first | (with_reducible refine imp_i fun _ => ?_) | (with_reducible refine and_a ?_))
        refine purge_P [2, 5, 6] 3 ((fun (s__ : (List Bool) × (List Int)) (a__ : Nat × (List Int)) => match s__, a__ with | (out_6, todo_8), (v_7, pre_9) => ⟨[(2, .one (.ref 0 0 0 0)), (5, .one (.msl 1 0 0 out_6.length)), (6, .one (.msl 2 v_7 pre_9.length (pre_9.length + todo_8.length)))], [.cells 0 2 [[.sl (l.Names.map eS), .sl (l.Below.map (eA2 eI))]], .cells 0 1 (out_6.map eB), .cells v_7 1 ((pre_9 ++ todo_8).map eI)]⟩) (out_48, todo_49) (v_50, pre_51)) (by simp) (by simp [go_sem]) (by simp [go_sem]) (by simp [go_sem, copyL, List.map_set, hn_1, f_41, f_42, f_43, f_44, hq_13, f_151, f_152, f_153, f_154, hn_18] <;> omega) ?_
        exact ih11 (out_48, todo_49) (v_50, pre_51) ho11
      · intro af26 m26 s26 a26 o26 hf26 ho26 ih26
        obtain ⟨out_20, todo_22, x_24⟩ := s26
        obtain ⟨v_21, pre_23⟩ := a26
        dsimp only [lattice_above_L2] at hf26 ⊢ ih26
        try simp -implicitDefEqProofs only [go_sem, simprocAttr, hn_1, hz_2, f_41, f_42, f_43, f_44, hs_5, hq_13, f_151, f_152, f_153, f_154, hp_16, hp_17, hn_18, hd_19]
        repeat (first | (with_reducible refine imp_i fun _ => ?_) | (with_reducible refine and_a ?_))
        by_cases hc_27 : (x_24 : Int) < (l.Below.length : Int)
        · replace hf26 := if_t hc_27 hf26
          have hq_28 := eq_true hc_27
          have hn_29 : x_24 < l.Below.length := by omega
          obtain ⟨x_30, hx_30, hf26⟩ := bind_inv hf26
          obtain ⟨f_311, f_312, f_313, f_314⟩ := nat_facts hx_30
          try simp -implicitDefEqProofs only [go_sem, simprocAttr, hn_1, hz_2, f_41, f_42, f_43, f_44, hs_5, hq_13, f_151, f_152, f_153, f_154, hp_16, hp_17, hn_18, hd_19, hq_28, hn_29, f_311, f_312, f_313, f_314]
          repeat (first | (with_reducible refine imp_i fun _ => ?_) | (with_reducible refine and_a ?_))
          by_cases hc_32 : x_30.a0 = x_14
          · replace hf26 := if_t hc_32 hf26
            have hq_33 := eq_true hc_32
            obtain ⟨r_34, hr_34, hf26⟩ := bind_inv hf26
            try simp -implicitDefEqProofs only [go_sem, simprocAttr, hn_1, hz_2, f_41, f_42, f_43, f_44, hs_5, hq_13, f_151, f_152, f_153, f_154, hp_16, hp_17, hn_18, hd_19, hq_28, hn_29, f_311, f_312, f_313, f_314, hq_33]
            repeat (first | (with_reducible refine imp_i fun _ => ?_) | (with_reducible refine and_a ?_))
            refine call_S (lattice_is_ok hr_34) (by simp [go_sem, hn_1, f_41, f_42, f_43, f_44, hq_13, f_151, f_152, f_153, f_154, hn_18, hq_28, hn_29, f_311, f_312, f_313, f_314, hq_33]) (by simp [go_sem]) (by simp [go_sem]) (by simp [go_sem]) ?_
            try simp -implicitDefEqProofs only [go_sem, simprocAttr, hn_1, hz_2, f_41, f_42, f_43, f_44, hs_5, hq_13, f_151, f_152, f_153, f_154, hp_16, hp_17, hn_18, hd_19, hq_28, hn_29, f_311, f_312, f_313, f_314, hq_33]
            repeat (first | (with_reducible refine imp_i fun _ => ?_) | (with_reducible refine and_a ?_))
            by_cases hc_35 : r_34 = true
            · replace hf26 := if_t hc_35 hf26
              obtain ⟨x_36, hx_36, hf26⟩ := bind_inv hf26
              obtain ⟨f_371, f_372, f_373, f_374⟩ := idx_facts hx_36
              try simp -implicitDefEqProofs only [go_sem, simprocAttr, hn_1, hz_2, f_41, f_42, f_43, f_44, hs_5, hq_13, f_151, f_152, f_153, f_154, hp_16, hp_17, hn_18, hd_19, hq_28, hn_29, f_311, f_312, f_313, f_314, hq_33, hc_35, f_371, f_372, f_373, f_374]
              repeat (first | (with_reducible refine imp_i fun _ => ?_) | (with_reducible refine and_a ?_))
              by_cases hc_38 : x_36 = true
              · replace hf26 := if_t hc_38 hf26
                obtain rfl := Option.some.inj hf26
                try simp -implicitDefEqProofs only [go_sem, simprocAttr, hn_1, hz_2, f_41, f_42, f_43, f_44, hs_5, hq_13, f_151, f_152, f_153, f_154, hp_16, hp_17, hn_18, hd_19, hq_28, hn_29, f_311, f_312, f_313, f_314, hq_33, hc_35, f_371, f_372, f_373, f_374, hc_38]
                repeat (first | (with_reducible refine imp_i fun _ => ?_) | (with_reducible refine and_a ?_))
                have hw_39 := wrap_nat (k := x_24) (by omega)
                refine purge_P [2, 5, 6, 7, 28, 29, 30] 3 ((fun (s__ : (List Bool) × (List Int) × Nat) (a__ : Nat × (List Int)) => match s__, a__ with | (out_20, todo_22, x_24), (v_21, pre_23) => ⟨[(2, .one (.ref 0 0 0 0)), (5, .one (.msl 1 0 0 out_20.length)), (6, .one (.msl 2 v_21 pre_23.length (pre_23.length + todo_22.length))), (7, .one (.int .i64 x_14)), (28, .one (.sl (l.Below.map (eA2 eI)))), (29, .one (.int .i64 (l.Below.length : Int))), (30, .one (.int .i64 (x_24 : Int)))], [.cells 0 2 [[.sl (l.Names.map eS), .sl (l.Below.map (eA2 eI))]], .cells 0 1 (out_20.map eB), .cells v_21 1 ((pre_23 ++ todo_22).map eI)]⟩) (out_20, todo_22, (x_24 + 1)) (v_21, pre_23)) (by simp) (by simp [go_sem]) (by simp [go_sem]) (by simp [go_sem, copyL, List.map_set, hn_1, f_41, f_42, f_43, f_44, hq_13, f_151, f_152, f_153, f_154, hn_18, hq_28, hn_29, f_311, f_312, f_313, f_314, hq_33, hc_35, f_371, f_372, f_373, f_374, hc_38, hw_39] <;> omega) ?_
                exact ih26 (out_20, todo_22, (x_24 + 1)) (v_21, pre_23) ho26
              · replace hf26 := if_f hc_38 hf26
                have hc_38 := nt_ hc_38
                have hs_40 : (List.map eB out_20).set x_30.a1.toNat [.bool true] = List.map eB (out_20.set x_30.a1.toNat true) := by simp [go_sem, List.map_set]
                obtain ⟨hn_41, hf26⟩ := need_inv hf26
                obtain rfl := Option.some.inj hf26
                try simp -implicitDefEqProofs only [go_sem, simprocAttr, hn_1, hz_2, f_41, f_42, f_43, f_44, hs_5, hq_13, f_151, f_152, f_153, f_154, hp_16, hp_17, hn_18, hd_19, hq_28, hn_29, f_311, f_312, f_313, f_314, hq_33, hc_35, f_371, f_372, f_373, f_374, hc_38, hs_40, hn_41]
                repeat (first | (with_reducible refine imp_i fun _ => ?_) | (with_reducible refine and_a ?_))
                have hw_42 := wrap_nat (k := x_24) (by omega)
                refine purge_P [2, 5, 6, 7, 28, 29, 30] 3 ((fun (s__ : (List Bool) × (List Int) × Nat) (a__ : Nat × (List Int)) => match s__, a__ with | (out_20, todo_22, x_24), (v_21, pre_23) => ⟨[(2, .one (.ref 0 0 0 0)), (5, .one (.msl 1 0 0 out_20.length)), (6, .one (.msl 2 v_21 pre_23.length (pre_23.length + todo_22.length))), (7, .one (.int .i64 x_14)), (28, .one (.sl (l.Below.map (eA2 eI)))), (29, .one (.int .i64 (l.Below.length : Int))), (30, .one (.int .i64 (x_24 : Int)))], [.cells 0 2 [[.sl (l.Names.map eS), .sl (l.Below.map (eA2 eI))]], .cells 0 1 (out_20.map eB), .cells v_21 1 ((pre_23 ++ todo_22).map eI)]⟩) ((out_20.set x_30.a1.toNat true), (todo_22 ++ [x_30.a1]), (x_24 + 1)) ((v_21 + 1), [])) (by simp) (by simp [go_sem]) (by simp [go_sem]) (by simp [go_sem, copyL, List.map_set, hn_1, f_41, f_42, f_43, f_44, hq_13, f_151, f_152, f_153, f_154, hn_18, hq_28, hn_29, f_311, f_312, f_313, f_314, hq_33, hc_35, f_371, f_372, f_373, f_374, hc_38, hn_41, hw_42] <;> omega) ?_
                exact ih26 ((out_20.set x_30.a1.toNat true), (todo_22 ++ [x_30.a1]), (x_24 + 1)) ((v_21 + 1), []) ho26
            · replace hf26 := if_f hc_35 hf26
              have hc_35 := nt_ hc_35
              obtain rfl := Option.some.inj hf26
              try simp -implicitDefEqProofs only [go_sem, simprocAttr, hn_1, hz_2, f_41, f_42, f_43, f_44, hs_5, hq_13, f_151, f_152, f_153, f_154, hp_16, hp_17, hn_18, hd_19, hq_28, hn_29, f_311, f_312, f_313, f_314, hq_33, hc_35]
              repeat (first | (with_reducible refine imp_i fun _ => ?_) | (with_reducible refine and_a ?_))
              have hw_43 := wrap_nat (k := x_24) (by omega)
              refine purge_P [2, 5, 6, 7, 28, 29, 30] 3 ((fun (s__ : (List Bool) × (List Int) × Nat) (a__ : Nat × (List Int)) => match s__, a__ with | (out_20, todo_22, x_24), (v_21, pre_23) => ⟨[(2, .one (.ref 0 0 0 0)), (5, .one (.msl 1 0 0 out_20.length)), (6, .one (.msl 2 v_21 pre_23.length (pre_23.length + todo_22.length))), (7, .one (.int .i64 x_14)), (28, .one (.sl (l.Below.map (eA2 eI)))), (29, .one (.int .i64 (l.Below.length : Int))), (30, .one (.int .i64 (x_24 : Int)))], [.cells 0 2 [[.sl (l.Names.map eS), .sl (l.Below.map (eA2 eI))]], .cells 0 1 (out_20.map eB), .cells v_21 1 ((pre_23 ++ todo_22).map eI)]⟩) (out_20, todo_22, (x_24 + 1)) (v_21, pre_23)) (by simp) (by simp [go_sem]) (by simp [go_sem]) (by simp [go_sem, copyL, List.map_set, hn_1, f_41, f_42, f_43, f_44, hq_13, f_151, f_152, f_153, f_154, hn_18, hq_28, hn_29, f_311, f_312, f_313, f_314, hq_33, hc_35, hw_43] <;> omega) ?_
              exact ih26 (out_20, todo_22, (x_24 + 1)) (v_21, pre_23) ho26
          · replace hf26 := if_f hc_32 hf26
            have hq_44 := eq_false hc_32
            obtain rfl := Option.some.inj hf26
            try simp -implicitDefEqProofs only [go_sem, simprocAttr, hn_1, hz_2, f_41, f_42, f_43, f_44, hs_5, hq_13, f_151, f_152, f_153, f_154, hp_16, hp_17, hn_18, hd_19, hq_28, hn_29, f_311, f_312, f_313, f_314, hq_44]
            repeat (first | (with_reducible refine imp_i fun _ => ?_) | (with_reducible refine and_a ?_))
            have hw_45 := wrap_nat (k := x_24) (by omega)
            refine purge_P [2, 5, 6, 7, 28, 29, 30] 3 ((fun (s__ : (List Bool) × (List Int) × Nat) (a__ : Nat × (List Int)) => match s__, a__ with | (out_20, todo_22, x_24), (v_21, pre_23) => ⟨[(2, .one (.ref 0 0 0 0)), (5, .one (.msl 1 0 0 out_20.length)), (6, .one (.msl 2 v_21 pre_23.length (pre_23.length + todo_22.length))), (7, .one (.int .i64 x_14)), (28, .one (.sl (l.Below.map (eA2 eI)))), (29, .one (.int .i64 (l.Below.length : Int))), (30, .one (.int .i64 (x_24 : Int)))], [.cells 0 2 [[.sl (l.Names.map eS), .sl (l.Below.map (eA2 eI))]], .cells 0 1 (out_20.map eB), .cells v_21 1 ((pre_23 ++ todo_22).map eI)]⟩) (out_20, todo_22, (x_24 + 1)) (v_21, pre_23)) (by simp) (by simp [go_sem]) (by simp [go_sem]) (by simp [go_sem, copyL, List.map_set, hn_1, f_41, f_42, f_43, f_44, hq_13, f_151, f_152, f_153, f_154, hn_18, hq_28, hn_29, f_311, f_312, f_313, f_314, hq_44, hw_45] <;> omega) ?_
            exact ih26 (out_20, todo_22, (x_24 + 1)) (v_21, pre_23) ho26
        · replace hf26 := if_f hc_27 hf26
          have hq_46 := eq_false hc_27
          have hn_47 : ¬ x_24 < l.Below.length := by omega
          obtain rfl := Option.some.inj hf26
          obtain rfl := Option.some.inj ho26
          try simp -implicitDefEqProofs only [go_sem, simprocAttr, hn_1, hz_2, f_41, f_42, f_43, f_44, hs_5, hq_13, f_151, f_152, f_153, f_154, hp_16, hp_17, hn_18, hd_19, hq_46, hn_47]
          repeat (first | (with_reducible refine imp_i fun _ => ?_) | (with_reducible refine and_a ?_))
          refine purge_E [2, 5, 6] 3 ((fun (e__ : (List Bool) × (List Int)) (b__ : Nat × (List Int)) => match e__, b__ with | (out_48, todo_49), (v_50, pre_51) => ⟨[(2, .one (.ref 0 0 0 0)), (5, .one (.msl 1 0 0 out_48.length)), (6, .one (.msl 2 v_50 pre_51.length (pre_51.length + todo_49.length)))], [.cells 0 2 [[.sl (l.Names.map eS), .sl (l.Below.map (eA2 eI))]], .cells 0 1 (out_48.map eB), .cells v_50 1 ((pre_51 ++ todo_49).map eI)]⟩) (out_20, todo_22) (v_21, pre_23)) (by simp) (by simp [go_sem]) (by simp [go_sem]) (by simp [go_sem, copyL, List.map_set, hn_1, f_41, f_42, f_43, f_44, hq_13, f_151, f_152, f_153, f_154, hn_18, hq_46, hn_47] <;> omega) ?_
          exact af26 _ (v_21, pre_23) rfl
    · replace hf11 := if_f hc_12 hf11
      have hq_52 := eq_false hc_12
      obtain rfl := Option.some.inj hf11
      obtain rfl := Option.some.inj ho11
      try simp -implicitDefEqProofs only [go_sem, simprocAttr, hn_1, hz_2, f_41, f_42, f_43, f_44, hs_5, hq_52]
      repeat (first | (with_reducible refine imp_i fun _ => ?_) | (with_reducible refine and_a ?_))
      refine purge_E [5] 3 ((fun (e__ : (List Bool) × (List Int)) (b__ : Nat × (List Int)) => match e__, b__ with | (out_53, todo_54), (v_55, pre_56) => ⟨[(5, .one (.msl 1 0 0 out_53.length))], [.cells 0 2 [[.sl (l.Names.map eS), .sl (l.Below.map (eA2 eI))]], .cells 0 1 (out_53.map eB), .cells v_55 1 ((pre_56 ++ todo_54).map eI)]⟩) (out_6, todo_8) (v_7, pre_9)) (by simp) (by simp [go_sem]) (by simp [go_sem]) (by simp [go_sem, copyL, List.map_set, hn_1, f_41, f_42, f_43, f_44, hq_52] <;> omega) ?_
      exact af11 _ (v_7, pre_9) rfl
set_option maxRecDepth 100000 in
theorem lattice_Leq_ok {l : api_Lattice} {a : Int} {b : Int} {r : Bool} (h : lattice_Leq l a b = some r) :
    Pu Try.prog 34 [.agg (e_api_Lattice l), .one (.int .i64 a), .one (.int .i64 b)] (.one (.bool r)) := by
  refine pu_of_awp Try.func34 rfl (by kernel_rfl) (by kernel_rfl) (awp_of_S ?_)
  simp only [Try.f34]
  unfold lattice_Leq at h
  obtain ⟨r_1, hr_1, h⟩ := bind_inv h
  try simp -implicitDefEqProofs only [go_sem, simprocAttr]
  repeat (first | (with_reducible refine imp_i fun _ => ?_) | (with_reducible refine and_a ?_))
  refine call_S (lattice_is_ok hr_1) (by simp [go_sem]) (by simp [go_sem]) (by simp [go_sem]) (by simp [go_sem]) ?_
  try simp -implicitDefEqProofs only [go_sem, simprocAttr]
  repeat (first | (with_reducible refine imp_i fun _ => ?_) | (with_reducible refine and_a ?_))
  by_cases hc_2 : r_1 = true
  · replace h := if_t hc_2 h
    obtain ⟨r_3, hr_3, h⟩ := bind_inv h
    try simp -implicitDefEqProofs only [go_sem, simprocAttr, hc_2]
    repeat (first | (with_reducible refine imp_i fun _ => ?_) | (with_reducible refine and_a ?_))
    refine call_S (lattice_is_ok hr_3) (by simp [go_sem, hc_2]) (by simp [go_sem]) (by simp [go_sem]) (by simp [go_sem]) ?_
    try simp -implicitDefEqProofs only [go_sem, simprocAttr, hc_2]
    repeat (first | (with_reducible refine imp_i fun _ => ?_) | (with_reducible refine and_a ?_))
    by_cases hc_4 : r_3 = true
    · replace h := if_t hc_4 h
      obtain ⟨r_5, hr_5, h⟩ := bind_inv h
      try simp -implicitDefEqProofs only [go_sem, simprocAttr, hc_2, hc_4]
      repeat (first | (with_reducible refine imp_i fun _ => ?_) | (with_reducible refine and_a ?_))
      refine call_S (lattice_above_ok hr_5) (by simp [go_sem, hc_2, hc_4]) (by simp [go_sem]) (by simp [go_sem]) (by simp [go_sem]) ?_
      obtain ⟨x_6, hx_6, h⟩ := bind_inv h
      obtain ⟨f_71, f_72, f_73, f_74⟩ := idx_facts hx_6
      obtain rfl := Option.some.inj h
      try simp -implicitDefEqProofs only [go_sem, simprocAttr, hc_2, hc_4, f_71, f_72, f_73, f_74]
      all_goals (repeat (first | (with_reducible refine imp_i fun _ => ?_) | (with_reducible refine and_a ?_)))
      all_goals (try simp [go_sem, hc_2, hc_4, f_71, f_72, f_73, f_74])
    · replace h := if_f hc_4 h
      have hc_4 := nt_ hc_4
      obtain rfl := Option.some.inj h
      try simp -implicitDefEqProofs only [go_sem, simprocAttr, hc_2, hc_4]
      all_goals (repeat (first | (with_reducible refine imp_i fun _ => ?_) | (with_reducible refine and_a ?_)))
      all_goals (try simp [go_sem, hc_2, hc_4])
  · replace h := if_f hc_2 h
    have hc_2 := nt_ hc_2
    obtain rfl := Option.some.inj h
    try simp -implicitDefEqProofs only [go_sem, simprocAttr, hc_2]
    all_goals (repeat (first | (with_reducible refine imp_i fun _ => ?_) | (with_reducible refine and_a ?_)))
    all_goals (try simp [go_sem, hc_2])
set_option maxRecDepth 100000 in
theorem latches_Forced_ok {l : api_Lattice} {latches : List Int} {label : Int} {r : Bool} (h : latches_Forced l latches label = some r) :
    Pu Try.prog 48 [.agg (e_api_Lattice l), .one (.sl (latches.map eI)), .one (.int .i64 label)] (.one (.bool r)) := by
  refine pu_of_awp Try.func48 rfl (by kernel_rfl) (by kernel_rfl) (awp_of_S ?_)
  simp only [Try.f48]
  unfold latches_Forced at h
  obtain ⟨e_2, he_2, h⟩ := bind_inv h
  try simp -implicitDefEqProofs only [go_sem, simprocAttr]
  repeat (first | (with_reducible refine imp_i fun _ => ?_) | (with_reducible refine and_a ?_))
  refine purge_to [1, 2, 3, 9, 10] 1 ((fun (s__ : Nat) (a__ : Unit) => match s__, a__ with | x_1, _ => ⟨[(1, .one (.sl (latches.map eI))), (2, .one (.int .i64 label)), (3, .one (.ref 0 0 0 0)), (9, .one (.int .i64 (latches.length : Int))), (10, .one (.int .i64 (x_1 : Int)))], [.cells 0 2 [[.sl (l.Names.map eS), .sl (l.Below.map (eA2 eI))]]]⟩) 0 ()) (by simp) (by simp [go_sem]) (by simp [go_sem]) (by simp [go_sem, copyL, List.map_set] <;> omega) ?_
  refine loop_X (f := latches_Forced_L1 l latches label) (s0 := 0) (fun (s__ : Nat) (a__ : Unit) => match s__, a__ with | x_1, _ => ⟨[(1, .one (.sl (latches.map eI))), (2, .one (.int .i64 label)), (3, .one (.ref 0 0 0 0)), (9, .one (.int .i64 (latches.length : Int))), (10, .one (.int .i64 (x_1 : Int)))], [.cells 0 2 [[.sl (l.Names.map eS), .sl (l.Below.map (eA2 eI))]]]⟩) (fun (e__ : Bool ⊕ Unit) (b__ : Unit) => match e__, b__ with | (.inl e_18), _ => ⟨[], []⟩ | (.inr ()), _ => ⟨[], [.cells 0 2 [[.sl (l.Names.map eS), .sl (l.Below.map (eA2 eI))]]]⟩) (fun (e__ : Bool ⊕ Unit) => match e__ with | (.inl _) => none | (.inr _) => some 0) () he_2 ?_ ?_
  · intro i3 b3 hi3
    rcases e_2 with e_case | ⟨⟩
    · cases hi3
    · obtain rfl := Option.some.inj hi3
      obtain ⟨⟩ := b3
      dsimp only at h ⊢
      obtain rfl := Option.some.inj h
      try simp -implicitDefEqProofs only [go_sem, simprocAttr]
      all_goals (repeat (first | (with_reducible refine imp_i fun _ => ?_) | (with_reducible refine and_a ?_)))
      all_goals (try simp [go_sem])
  · intro af3 m3 x_1 a3 o3 hf3 ho3 ih3
    obtain ⟨⟩ := a3
    dsimp only [latches_Forced_L1] at hf3 ⊢ ih3
    try simp -implicitDefEqProofs only [go_sem, simprocAttr]
    repeat (first | (with_reducible refine imp_i fun _ => ?_) | (with_reducible refine and_a ?_))
    by_cases hc_4 : (x_1 : Int) < (latches.length : Int)
    · replace hf3 := if_t hc_4 hf3
      have hq_5 := eq_true hc_4
      have hn_6 : x_1 < latches.length := by omega
      obtain ⟨x_7, hx_7, hf3⟩ := bind_inv hf3
      obtain ⟨f_81, f_82, f_83, f_84⟩ := nat_facts hx_7
      try simp -implicitDefEqProofs only [go_sem, simprocAttr, hq_5, hn_6, f_81, f_82, f_83, f_84]
      repeat (first | (with_reducible refine imp_i fun _ => ?_) | (with_reducible refine and_a ?_))
      by_cases hc_9 : x_7 = 0
      · replace hf3 := if_t hc_9 hf3
        have hq_10 := eq_true hc_9
        obtain rfl := Option.some.inj hf3
        try simp -implicitDefEqProofs only [go_sem, simprocAttr, hq_5, hn_6, f_81, f_82, f_83, f_84, hq_10]
        repeat (first | (with_reducible refine imp_i fun _ => ?_) | (with_reducible refine and_a ?_))
        have hw_11 := wrap_nat (k := x_1) (by omega)
        refine purge_P [1, 2, 3, 9, 10] 1 ((fun (s__ : Nat) (a__ : Unit) => match s__, a__ with | x_1, _ => ⟨[(1, .one (.sl (latches.map eI))), (2, .one (.int .i64 label)), (3, .one (.ref 0 0 0 0)), (9, .one (.int .i64 (latches.length : Int))), (10, .one (.int .i64 (x_1 : Int)))], [.cells 0 2 [[.sl (l.Names.map eS), .sl (l.Below.map (eA2 eI))]]]⟩) (x_1 + 1) ()) (by simp) (by simp [go_sem]) (by simp [go_sem]) (by simp [go_sem, copyL, List.map_set, hq_5, hn_6, f_81, f_82, f_83, f_84, hq_10, hw_11] <;> omega) ?_
        exact ih3 (x_1 + 1) () ho3
      · replace hf3 := if_f hc_9 hf3
        have hq_12 := eq_false hc_9
        obtain ⟨r_13, hr_13, hf3⟩ := bind_inv hf3
        try simp -implicitDefEqProofs only [go_sem, simprocAttr, hq_5, hn_6, f_81, f_82, f_83, f_84, hq_12]
        repeat (first | (with_reducible refine imp_i fun _ => ?_) | (with_reducible refine and_a ?_))
        refine call_S (lattice_Leq_ok hr_13) (by simp [go_sem, hq_5, hn_6, f_81, f_82, f_83, f_84, hq_12]) (by simp [go_sem]) (by simp [go_sem]) (by simp [go_sem]) ?_
        try simp -implicitDefEqProofs only [go_sem, simprocAttr, hq_5, hn_6, f_81, f_82, f_83, f_84, hq_12]
        repeat (first | (with_reducible refine imp_i fun _ => ?_) | (with_reducible refine and_a ?_))
        by_cases hc_14 : r_13 = true
        · replace hf3 := if_t hc_14 hf3
          obtain rfl := Option.some.inj hf3
          obtain rfl := Option.some.inj ho3
          try dsimp only at h
          obtain rfl := Option.some.inj h
          try simp -implicitDefEqProofs only [go_sem, simprocAttr, hq_5, hn_6, f_81, f_82, f_83, f_84, hq_12, hc_14]
          all_goals (repeat (first | (with_reducible refine imp_i fun _ => ?_) | (with_reducible refine and_a ?_)))
          all_goals (try simp [go_sem, hq_5, hn_6, f_81, f_82, f_83, f_84, hq_12, hc_14])
        · replace hf3 := if_f hc_14 hf3
          have hc_14 := nt_ hc_14
          obtain rfl := Option.some.inj hf3
          try simp -implicitDefEqProofs only [go_sem, simprocAttr, hq_5, hn_6, f_81, f_82, f_83, f_84, hq_12, hc_14]
          repeat (first | (with_reducible refine imp_i fun _ => ?_) | (with_reducible refine and_a ?_))
          have hw_15 := wrap_nat (k := x_1) (by omega)
          refine purge_P [1, 2, 3, 9, 10] 1 ((fun (s__ : Nat) (a__ : Unit) => match s__, a__ with | x_1, _ => ⟨[(1, .one (.sl (latches.map eI))), (2, .one (.int .i64 label)), (3, .one (.ref 0 0 0 0)), (9, .one (.int .i64 (latches.length : Int))), (10, .one (.int .i64 (x_1 : Int)))], [.cells 0 2 [[.sl (l.Names.map eS), .sl (l.Below.map (eA2 eI))]]]⟩) (x_1 + 1) ()) (by simp) (by simp [go_sem]) (by simp [go_sem]) (by simp [go_sem, copyL, List.map_set, hq_5, hn_6, f_81, f_82, f_83, f_84, hq_12, hc_14, hw_15] <;> omega) ?_
          exact ih3 (x_1 + 1) () ho3
    · replace hf3 := if_f hc_4 hf3
      have hq_16 := eq_false hc_4
      have hn_17 : ¬ x_1 < latches.length := by omega
      obtain rfl := Option.some.inj hf3
      obtain rfl := Option.some.inj ho3
      try simp -implicitDefEqProofs only [go_sem, simprocAttr, hq_16, hn_17]
      repeat (first | (with_reducible refine imp_i fun _ => ?_) | (with_reducible refine and_a ?_))
      refine purge_E [] 1 ((fun (e__ : Bool ⊕ Unit) (b__ : Unit) => match e__, b__ with | (.inl e_18), _ => ⟨[], []⟩ | (.inr ()), _ => ⟨[], [.cells 0 2 [[.sl (l.Names.map eS), .sl (l.Below.map (eA2 eI))]]]⟩) (.inr ()) ()) (by simp) (by simp [go_sem]) (by simp [go_sem]) (by simp [go_sem, copyL, List.map_set, hq_16, hn_17] <;> omega) ?_
      exact af3 _ () rfl
set_option maxRecDepth 100000 in
theorem latches_Outputs_ok {m : api_Image} {mem : api_Memory} {latches : List Int} {r : List Int} (h : latches_Outputs m mem latches = some r) :
    Pu Try.prog 18 [.agg (e_api_Image m), .agg (e_api_Memory mem), .one (.sl (latches.map eI))] (.one (.sl (r.map eI))) := by
  refine pu_of_awp Try.func18 rfl (by kernel_rfl) (by kernel_rfl) (awp_of_S ?_)
  simp only [Try.f18]
  unfold latches_Outputs at h
  obtain ⟨e_5, he_5, h⟩ := bind_inv h
  try simp -implicitDefEqProofs only [go_sem, simprocAttr]
  repeat (first | (with_reducible refine imp_i fun _ => ?_) | (with_reducible refine and_a ?_))
  refine seed_L 7 1 (by simp [go_sem]) ?_
  refine purge_to [2, 3, 4, 7, 12, 13, 14] 3 ((fun (s__ : (List Int) × Nat) (a__ : Nat) => match s__, a__ with | (out_2, x_4), v_1 => ⟨[(2, .one (.sl (latches.map eI))), (3, .one (.ref 0 0 0 0)), (4, .one (.ref 1 0 0 0)), (7, .one (.msl 2 v_1 0 out_2.length)), (12, .one (.sl (m.Vars.map e_api_Var))), (13, .one (.int .i64 (m.Vars.length : Int))), (14, .one (.int .i64 (x_4 : Int)))], [.cells 0 7 [[.sl (m.Lattice.Names.map eS), .sl (m.Lattice.Below.map (eA2 eI)), .sl (m.Sites.map e_api_Site), .sl (m.Vars.map e_api_Var), .sl (m.Blocks.map e_api_Block), .sl (m.Tasks.map e_api_Task), .sl (m.Code.map (eL e_api_Ins))]], .cells 0 2 [[.sl (mem.Cells.map (eL eI)), .sl (mem.Blocks.map (eA4 eI))]], .cells v_1 1 (out_2.map eI)]⟩) ([], 0) 0) (by simp) (by simp [go_sem]) (by simp [go_sem]) (by simp [go_sem, copyL, List.map_set] <;> omega) ?_
  refine loop_X (f := latches_Outputs_L1 m mem latches) (s0 := ([], 0)) (fun (s__ : (List Int) × Nat) (a__ : Nat) => match s__, a__ with | (out_2, x_4), v_1 => ⟨[(2, .one (.sl (latches.map eI))), (3, .one (.ref 0 0 0 0)), (4, .one (.ref 1 0 0 0)), (7, .one (.msl 2 v_1 0 out_2.length)), (12, .one (.sl (m.Vars.map e_api_Var))), (13, .one (.int .i64 (m.Vars.length : Int))), (14, .one (.int .i64 (x_4 : Int)))], [.cells 0 7 [[.sl (m.Lattice.Names.map eS), .sl (m.Lattice.Below.map (eA2 eI)), .sl (m.Sites.map e_api_Site), .sl (m.Vars.map e_api_Var), .sl (m.Blocks.map e_api_Block), .sl (m.Tasks.map e_api_Task), .sl (m.Code.map (eL e_api_Ins))]], .cells 0 2 [[.sl (mem.Cells.map (eL eI)), .sl (mem.Blocks.map (eA4 eI))]], .cells v_1 1 (out_2.map eI)]⟩) (fun (e__ : List Int) (b__ : Nat) => match e__, b__ with | e_5, b6 => ⟨[(7, .one (.msl 2 b6 0 e_5.length))], [.cells 0 7 [[.sl (m.Lattice.Names.map eS), .sl (m.Lattice.Below.map (eA2 eI)), .sl (m.Sites.map e_api_Site), .sl (m.Vars.map e_api_Var), .sl (m.Blocks.map e_api_Block), .sl (m.Tasks.map e_api_Task), .sl (m.Code.map (eL e_api_Ins))]], .cells 0 2 [[.sl (mem.Cells.map (eL eI)), .sl (mem.Blocks.map (eA4 eI))]], .cells b6 1 (e_5.map eI)]⟩) (fun (_ : List Int) => some 0) 0 he_5 ?_ ?_
  · intro i6 b6 hi6
    obtain rfl := Option.some.inj hi6
    dsimp only at h ⊢
    obtain rfl := Option.some.inj h
    try simp -implicitDefEqProofs only [go_sem, simprocAttr]
    all_goals (repeat (first | (with_reducible refine imp_i fun _ => ?_) | (with_reducible refine and_a ?_)))
    all_goals (try simp [go_sem])
  · intro af6 m6 s6 v_1 o6 hf6 ho6 ih6
    obtain ⟨out_2, x_4⟩ := s6
    dsimp only [latches_Outputs_L1] at hf6 ⊢ ih6
    try simp -implicitDefEqProofs only [go_sem, simprocAttr]
    repeat (first | (with_reducible refine imp_i fun _ => ?_) | (with_reducible refine and_a ?_))
    by_cases hc_7 : (x_4 : Int) < (m.Vars.length : Int)
    · replace hf6 := if_t hc_7 hf6
      have hq_8 := eq_true hc_7
      have hn_9 : x_4 < m.Vars.length := by omega
      obtain ⟨x_10, hx_10, hf6⟩ := bind_inv hf6
      obtain ⟨f_111, f_112, f_113, f_114⟩ := nat_facts hx_10
      try simp -implicitDefEqProofs only [go_sem, simprocAttr, hq_8, hn_9, f_111, f_112, f_113, f_114]
      repeat (first | (with_reducible refine imp_i fun _ => ?_) | (with_reducible refine and_a ?_))
      by_cases hc_12 : x_10.Mode = 2
      · replace hf6 := if_t hc_12 hf6
        have hq_13 := eq_true hc_12
        try simp -implicitDefEqProofs only [go_sem, simprocAttr, hq_8, hn_9, f_111, f_112, f_113, f_114, hq_13]
        repeat (first | (with_reducible refine imp_i fun _ => ?_) | (with_reducible refine and_a ?_))
        by_cases hc_14 : (x_4 : Int) < (mem.Cells.length : Int)
        · replace hf6 := if_t hc_14 hf6
          have hq_15 := eq_true hc_14
          have hn_16 : x_4 < mem.Cells.length := by omega
          obtain ⟨x_17, hx_17, hf6⟩ := bind_inv hf6
          obtain ⟨f_181, f_182, f_183, f_184⟩ := nat_facts hx_17
          try simp -implicitDefEqProofs only [go_sem, simprocAttr, hq_8, hn_9, f_111, f_112, f_113, f_114, hq_13, hq_15, hn_16, f_181, f_182, f_183, f_184]
          repeat (first | (with_reducible refine imp_i fun _ => ?_) | (with_reducible refine and_a ?_))
          by_cases hc_19 : 0 < (x_17.length : Int)
          · replace hf6 := if_t hc_19 hf6
            have hq_20 := eq_true hc_19
            obtain ⟨x_21, hx_21, hf6⟩ := bind_inv hf6
            obtain ⟨f_221, f_222, f_223, f_224⟩ := nat_facts hx_21
            obtain ⟨r_23, hr_23, hf6⟩ := bind_inv hf6
            try simp -implicitDefEqProofs only [go_sem, simprocAttr, hq_8, hn_9, f_111, f_112, f_113, f_114, hq_13, hq_15, hn_16, f_181, f_182, f_183, f_184, hq_20, f_221, f_222, f_223, f_224]
            repeat (first | (with_reducible refine imp_i fun _ => ?_) | (with_reducible refine and_a ?_))
            refine call_S (latches_Forced_ok hr_23) (by simp [go_sem, hq_8, hn_9, f_111, f_112, f_113, f_114, hq_13, hq_15, hn_16, f_181, f_182, f_183, f_184, hq_20, f_221, f_222, f_223, f_224]) (by simp [go_sem]) (by simp [go_sem]) (by simp [go_sem]) ?_
            try simp -implicitDefEqProofs only [go_sem, simprocAttr, hq_8, hn_9, f_111, f_112, f_113, f_114, hq_13, hq_15, hn_16, f_181, f_182, f_183, f_184, hq_20, f_221, f_222, f_223, f_224]
            repeat (first | (with_reducible refine imp_i fun _ => ?_) | (with_reducible refine and_a ?_))
            by_cases hc_24 : r_23 = true
            · replace hf6 := if_t hc_24 hf6
              obtain ⟨hn_25, hf6⟩ := need_inv hf6
              obtain rfl := Option.some.inj hf6
              try simp -implicitDefEqProofs only [go_sem, simprocAttr, hq_8, hn_9, f_111, f_112, f_113, f_114, hq_13, hq_15, hn_16, f_181, f_182, f_183, f_184, hq_20, f_221, f_222, f_223, f_224, hc_24, hn_25]
              repeat (first | (with_reducible refine imp_i fun _ => ?_) | (with_reducible refine and_a ?_))
              have hw_26 := wrap_nat (k := x_4) (by omega)
              refine purge_P [2, 3, 4, 7, 12, 13, 14] 3 ((fun (s__ : (List Int) × Nat) (a__ : Nat) => match s__, a__ with | (out_2, x_4), v_1 => ⟨[(2, .one (.sl (latches.map eI))), (3, .one (.ref 0 0 0 0)), (4, .one (.ref 1 0 0 0)), (7, .one (.msl 2 v_1 0 out_2.length)), (12, .one (.sl (m.Vars.map e_api_Var))), (13, .one (.int .i64 (m.Vars.length : Int))), (14, .one (.int .i64 (x_4 : Int)))], [.cells 0 7 [[.sl (m.Lattice.Names.map eS), .sl (m.Lattice.Below.map (eA2 eI)), .sl (m.Sites.map e_api_Site), .sl (m.Vars.map e_api_Var), .sl (m.Blocks.map e_api_Block), .sl (m.Tasks.map e_api_Task), .sl (m.Code.map (eL e_api_Ins))]], .cells 0 2 [[.sl (mem.Cells.map (eL eI)), .sl (mem.Blocks.map (eA4 eI))]], .cells v_1 1 (out_2.map eI)]⟩) ((out_2 ++ [x_10.Safe]), (x_4 + 1)) (v_1 + 1)) (by simp) (by simp [go_sem]) (by simp [go_sem]) (by simp [go_sem, copyL, List.map_set, hq_8, hn_9, f_111, f_112, f_113, f_114, hq_13, hq_15, hn_16, f_181, f_182, f_183, f_184, hq_20, f_221, f_222, f_223, f_224, hc_24, hn_25, hw_26] <;> omega) ?_
              exact ih6 ((out_2 ++ [x_10.Safe]), (x_4 + 1)) (v_1 + 1) ho6
            · replace hf6 := if_f hc_24 hf6
              have hc_24 := nt_ hc_24
              obtain ⟨hn_27, hf6⟩ := need_inv hf6
              obtain rfl := Option.some.inj hf6
              try simp -implicitDefEqProofs only [go_sem, simprocAttr, hq_8, hn_9, f_111, f_112, f_113, f_114, hq_13, hq_15, hn_16, f_181, f_182, f_183, f_184, hq_20, f_221, f_222, f_223, f_224, hc_24, hn_27]
              repeat (first | (with_reducible refine imp_i fun _ => ?_) | (with_reducible refine and_a ?_))
              have hw_28 := wrap_nat (k := x_4) (by omega)
              refine purge_P [2, 3, 4, 7, 12, 13, 14] 3 ((fun (s__ : (List Int) × Nat) (a__ : Nat) => match s__, a__ with | (out_2, x_4), v_1 => ⟨[(2, .one (.sl (latches.map eI))), (3, .one (.ref 0 0 0 0)), (4, .one (.ref 1 0 0 0)), (7, .one (.msl 2 v_1 0 out_2.length)), (12, .one (.sl (m.Vars.map e_api_Var))), (13, .one (.int .i64 (m.Vars.length : Int))), (14, .one (.int .i64 (x_4 : Int)))], [.cells 0 7 [[.sl (m.Lattice.Names.map eS), .sl (m.Lattice.Below.map (eA2 eI)), .sl (m.Sites.map e_api_Site), .sl (m.Vars.map e_api_Var), .sl (m.Blocks.map e_api_Block), .sl (m.Tasks.map e_api_Task), .sl (m.Code.map (eL e_api_Ins))]], .cells 0 2 [[.sl (mem.Cells.map (eL eI)), .sl (mem.Blocks.map (eA4 eI))]], .cells v_1 1 (out_2.map eI)]⟩) ((out_2 ++ [x_21]), (x_4 + 1)) (v_1 + 1)) (by simp) (by simp [go_sem]) (by simp [go_sem]) (by simp [go_sem, copyL, List.map_set, hq_8, hn_9, f_111, f_112, f_113, f_114, hq_13, hq_15, hn_16, f_181, f_182, f_183, f_184, hq_20, f_221, f_222, f_223, f_224, hc_24, hn_27, hw_28] <;> omega) ?_
              exact ih6 ((out_2 ++ [x_21]), (x_4 + 1)) (v_1 + 1) ho6
          · replace hf6 := if_f hc_19 hf6
            have hq_29 := eq_false hc_19
            obtain ⟨r_30, hr_30, hf6⟩ := bind_inv hf6
            try simp -implicitDefEqProofs only [go_sem, simprocAttr, hq_8, hn_9, f_111, f_112, f_113, f_114, hq_13, hq_15, hn_16, f_181, f_182, f_183, f_184, hq_29]
            repeat (first | (with_reducible refine imp_i fun _ => ?_) | (with_reducible refine and_a ?_))
            refine call_S (latches_Forced_ok hr_30) (by simp [go_sem, hq_8, hn_9, f_111, f_112, f_113, f_114, hq_13, hq_15, hn_16, f_181, f_182, f_183, f_184, hq_29]) (by simp [go_sem]) (by simp [go_sem]) (by simp [go_sem]) ?_
            try simp -implicitDefEqProofs only [go_sem, simprocAttr, hq_8, hn_9, f_111, f_112, f_113, f_114, hq_13, hq_15, hn_16, f_181, f_182, f_183, f_184, hq_29]
            repeat (first | (with_reducible refine imp_i fun _ => ?_) | (with_reducible refine and_a ?_))
            by_cases hc_31 : r_30 = true
            · replace hf6 := if_t hc_31 hf6
              obtain ⟨hn_32, hf6⟩ := need_inv hf6
              obtain rfl := Option.some.inj hf6
              try simp -implicitDefEqProofs only [go_sem, simprocAttr, hq_8, hn_9, f_111, f_112, f_113, f_114, hq_13, hq_15, hn_16, f_181, f_182, f_183, f_184, hq_29, hc_31, hn_32]
              repeat (first | (with_reducible refine imp_i fun _ => ?_) | (with_reducible refine and_a ?_))
              have hw_33 := wrap_nat (k := x_4) (by omega)
              refine purge_P [2, 3, 4, 7, 12, 13, 14] 3 ((fun (s__ : (List Int) × Nat) (a__ : Nat) => match s__, a__ with | (out_2, x_4), v_1 => ⟨[(2, .one (.sl (latches.map eI))), (3, .one (.ref 0 0 0 0)), (4, .one (.ref 1 0 0 0)), (7, .one (.msl 2 v_1 0 out_2.length)), (12, .one (.sl (m.Vars.map e_api_Var))), (13, .one (.int .i64 (m.Vars.length : Int))), (14, .one (.int .i64 (x_4 : Int)))], [.cells 0 7 [[.sl (m.Lattice.Names.map eS), .sl (m.Lattice.Below.map (eA2 eI)), .sl (m.Sites.map e_api_Site), .sl (m.Vars.map e_api_Var), .sl (m.Blocks.map e_api_Block), .sl (m.Tasks.map e_api_Task), .sl (m.Code.map (eL e_api_Ins))]], .cells 0 2 [[.sl (mem.Cells.map (eL eI)), .sl (mem.Blocks.map (eA4 eI))]], .cells v_1 1 (out_2.map eI)]⟩) ((out_2 ++ [x_10.Safe]), (x_4 + 1)) (v_1 + 1)) (by simp) (by simp [go_sem]) (by simp [go_sem]) (by simp [go_sem, copyL, List.map_set, hq_8, hn_9, f_111, f_112, f_113, f_114, hq_13, hq_15, hn_16, f_181, f_182, f_183, f_184, hq_29, hc_31, hn_32, hw_33] <;> omega) ?_
              exact ih6 ((out_2 ++ [x_10.Safe]), (x_4 + 1)) (v_1 + 1) ho6
            · replace hf6 := if_f hc_31 hf6
              have hc_31 := nt_ hc_31
              obtain ⟨hn_34, hf6⟩ := need_inv hf6
              obtain rfl := Option.some.inj hf6
              try simp -implicitDefEqProofs only [go_sem, simprocAttr, hq_8, hn_9, f_111, f_112, f_113, f_114, hq_13, hq_15, hn_16, f_181, f_182, f_183, f_184, hq_29, hc_31, hn_34]
              repeat (first | (with_reducible refine imp_i fun _ => ?_) | (with_reducible refine and_a ?_))
              have hw_35 := wrap_nat (k := x_4) (by omega)
              refine purge_P [2, 3, 4, 7, 12, 13, 14] 3 ((fun (s__ : (List Int) × Nat) (a__ : Nat) => match s__, a__ with | (out_2, x_4), v_1 => ⟨[(2, .one (.sl (latches.map eI))), (3, .one (.ref 0 0 0 0)), (4, .one (.ref 1 0 0 0)), (7, .one (.msl 2 v_1 0 out_2.length)), (12, .one (.sl (m.Vars.map e_api_Var))), (13, .one (.int .i64 (m.Vars.length : Int))), (14, .one (.int .i64 (x_4 : Int)))], [.cells 0 7 [[.sl (m.Lattice.Names.map eS), .sl (m.Lattice.Below.map (eA2 eI)), .sl (m.Sites.map e_api_Site), .sl (m.Vars.map e_api_Var), .sl (m.Blocks.map e_api_Block), .sl (m.Tasks.map e_api_Task), .sl (m.Code.map (eL e_api_Ins))]], .cells 0 2 [[.sl (mem.Cells.map (eL eI)), .sl (mem.Blocks.map (eA4 eI))]], .cells v_1 1 (out_2.map eI)]⟩) ((out_2 ++ [0]), (x_4 + 1)) (v_1 + 1)) (by simp) (by simp [go_sem]) (by simp [go_sem]) (by simp [go_sem, copyL, List.map_set, hq_8, hn_9, f_111, f_112, f_113, f_114, hq_13, hq_15, hn_16, f_181, f_182, f_183, f_184, hq_29, hc_31, hn_34, hw_35] <;> omega) ?_
              exact ih6 ((out_2 ++ [0]), (x_4 + 1)) (v_1 + 1) ho6
        · replace hf6 := if_f hc_14 hf6
          have hq_36 := eq_false hc_14
          have hn_37 : ¬ x_4 < mem.Cells.length := by omega
          obtain ⟨r_38, hr_38, hf6⟩ := bind_inv hf6
          try simp -implicitDefEqProofs only [go_sem, simprocAttr, hq_8, hn_9, f_111, f_112, f_113, f_114, hq_13, hq_36, hn_37]
          repeat (first | (with_reducible refine imp_i fun _ => ?_) | (with_reducible refine and_a ?_))
          refine call_S (latches_Forced_ok hr_38) (by simp [go_sem, hq_8, hn_9, f_111, f_112, f_113, f_114, hq_13, hq_36, hn_37]) (by simp [go_sem]) (by simp [go_sem]) (by simp [go_sem]) ?_
          try simp -implicitDefEqProofs only [go_sem, simprocAttr, hq_8, hn_9, f_111, f_112, f_113, f_114, hq_13, hq_36, hn_37]
          repeat (first | (with_reducible refine imp_i fun _ => ?_) | (with_reducible refine and_a ?_))
          by_cases hc_39 : r_38 = true
          · replace hf6 := if_t hc_39 hf6
            obtain ⟨hn_40, hf6⟩ := need_inv hf6
            obtain rfl := Option.some.inj hf6
            try simp -implicitDefEqProofs only [go_sem, simprocAttr, hq_8, hn_9, f_111, f_112, f_113, f_114, hq_13, hq_36, hn_37, hc_39, hn_40]
            repeat (first | (with_reducible refine imp_i fun _ => ?_) | (with_reducible refine and_a ?_))
            have hw_41 := wrap_nat (k := x_4) (by omega)
            refine purge_P [2, 3, 4, 7, 12, 13, 14] 3 ((fun (s__ : (List Int) × Nat) (a__ : Nat) => match s__, a__ with | (out_2, x_4), v_1 => ⟨[(2, .one (.sl (latches.map eI))), (3, .one (.ref 0 0 0 0)), (4, .one (.ref 1 0 0 0)), (7, .one (.msl 2 v_1 0 out_2.length)), (12, .one (.sl (m.Vars.map e_api_Var))), (13, .one (.int .i64 (m.Vars.length : Int))), (14, .one (.int .i64 (x_4 : Int)))], [.cells 0 7 [[.sl (m.Lattice.Names.map eS), .sl (m.Lattice.Below.map (eA2 eI)), .sl (m.Sites.map e_api_Site), .sl (m.Vars.map e_api_Var), .sl (m.Blocks.map e_api_Block), .sl (m.Tasks.map e_api_Task), .sl (m.Code.map (eL e_api_Ins))]], .cells 0 2 [[.sl (mem.Cells.map (eL eI)), .sl (mem.Blocks.map (eA4 eI))]], .cells v_1 1 (out_2.map eI)]⟩) ((out_2 ++ [x_10.Safe]), (x_4 + 1)) (v_1 + 1)) (by simp) (by simp [go_sem]) (by simp [go_sem]) (by simp [go_sem, copyL, List.map_set, hq_8, hn_9, f_111, f_112, f_113, f_114, hq_13, hq_36, hn_37, hc_39, hn_40, hw_41] <;> omega) ?_
            exact ih6 ((out_2 ++ [x_10.Safe]), (x_4 + 1)) (v_1 + 1) ho6
          · replace hf6 := if_f hc_39 hf6
            have hc_39 := nt_ hc_39
            obtain ⟨hn_42, hf6⟩ := need_inv hf6
            obtain rfl := Option.some.inj hf6
            try simp -implicitDefEqProofs only [go_sem, simprocAttr, hq_8, hn_9, f_111, f_112, f_113, f_114, hq_13, hq_36, hn_37, hc_39, hn_42]
            repeat (first | (with_reducible refine imp_i fun _ => ?_) | (with_reducible refine and_a ?_))
            have hw_43 := wrap_nat (k := x_4) (by omega)
            refine purge_P [2, 3, 4, 7, 12, 13, 14] 3 ((fun (s__ : (List Int) × Nat) (a__ : Nat) => match s__, a__ with | (out_2, x_4), v_1 => ⟨[(2, .one (.sl (latches.map eI))), (3, .one (.ref 0 0 0 0)), (4, .one (.ref 1 0 0 0)), (7, .one (.msl 2 v_1 0 out_2.length)), (12, .one (.sl (m.Vars.map e_api_Var))), (13, .one (.int .i64 (m.Vars.length : Int))), (14, .one (.int .i64 (x_4 : Int)))], [.cells 0 7 [[.sl (m.Lattice.Names.map eS), .sl (m.Lattice.Below.map (eA2 eI)), .sl (m.Sites.map e_api_Site), .sl (m.Vars.map e_api_Var), .sl (m.Blocks.map e_api_Block), .sl (m.Tasks.map e_api_Task), .sl (m.Code.map (eL e_api_Ins))]], .cells 0 2 [[.sl (mem.Cells.map (eL eI)), .sl (mem.Blocks.map (eA4 eI))]], .cells v_1 1 (out_2.map eI)]⟩) ((out_2 ++ [0]), (x_4 + 1)) (v_1 + 1)) (by simp) (by simp [go_sem]) (by simp [go_sem]) (by simp [go_sem, copyL, List.map_set, hq_8, hn_9, f_111, f_112, f_113, f_114, hq_13, hq_36, hn_37, hc_39, hn_42, hw_43] <;> omega) ?_
            exact ih6 ((out_2 ++ [0]), (x_4 + 1)) (v_1 + 1) ho6
      · replace hf6 := if_f hc_12 hf6
        have hq_44 := eq_false hc_12
        obtain rfl := Option.some.inj hf6
        try simp -implicitDefEqProofs only [go_sem, simprocAttr, hq_8, hn_9, f_111, f_112, f_113, f_114, hq_44]
        repeat (first | (with_reducible refine imp_i fun _ => ?_) | (with_reducible refine and_a ?_))
        have hw_45 := wrap_nat (k := x_4) (by omega)
        refine purge_P [2, 3, 4, 7, 12, 13, 14] 3 ((fun (s__ : (List Int) × Nat) (a__ : Nat) => match s__, a__ with | (out_2, x_4), v_1 => ⟨[(2, .one (.sl (latches.map eI))), (3, .one (.ref 0 0 0 0)), (4, .one (.ref 1 0 0 0)), (7, .one (.msl 2 v_1 0 out_2.length)), (12, .one (.sl (m.Vars.map e_api_Var))), (13, .one (.int .i64 (m.Vars.length : Int))), (14, .one (.int .i64 (x_4 : Int)))], [.cells 0 7 [[.sl (m.Lattice.Names.map eS), .sl (m.Lattice.Below.map (eA2 eI)), .sl (m.Sites.map e_api_Site), .sl (m.Vars.map e_api_Var), .sl (m.Blocks.map e_api_Block), .sl (m.Tasks.map e_api_Task), .sl (m.Code.map (eL e_api_Ins))]], .cells 0 2 [[.sl (mem.Cells.map (eL eI)), .sl (mem.Blocks.map (eA4 eI))]], .cells v_1 1 (out_2.map eI)]⟩) (out_2, (x_4 + 1)) v_1) (by simp) (by simp [go_sem]) (by simp [go_sem]) (by simp [go_sem, copyL, List.map_set, hq_8, hn_9, f_111, f_112, f_113, f_114, hq_44, hw_45] <;> omega) ?_
        exact ih6 (out_2, (x_4 + 1)) v_1 ho6
    · replace hf6 := if_f hc_7 hf6
      have hq_46 := eq_false hc_7
      have hn_47 : ¬ x_4 < m.Vars.length := by omega
      obtain rfl := Option.some.inj hf6
      obtain rfl := Option.some.inj ho6
      try simp -implicitDefEqProofs only [go_sem, simprocAttr, hq_46, hn_47]
      repeat (first | (with_reducible refine imp_i fun _ => ?_) | (with_reducible refine and_a ?_))
      refine purge_E [7] 3 ((fun (e__ : List Int) (b__ : Nat) => match e__, b__ with | e_5, b6 => ⟨[(7, .one (.msl 2 b6 0 e_5.length))], [.cells 0 7 [[.sl (m.Lattice.Names.map eS), .sl (m.Lattice.Below.map (eA2 eI)), .sl (m.Sites.map e_api_Site), .sl (m.Vars.map e_api_Var), .sl (m.Blocks.map e_api_Block), .sl (m.Tasks.map e_api_Task), .sl (m.Code.map (eL e_api_Ins))]], .cells 0 2 [[.sl (mem.Cells.map (eL eI)), .sl (mem.Blocks.map (eA4 eI))]], .cells b6 1 (e_5.map eI)]⟩) out_2 v_1) (by simp) (by simp [go_sem]) (by simp [go_sem]) (by simp [go_sem, copyL, List.map_set, hq_46, hn_47] <;> omega) ?_
      exact af6 _ v_1 rfl
set_option maxRecDepth 100000 in
theorem latches_Merge_ok {a : List Int} {b : List Int} {r : List Int} (h : latches_Merge a b = some r) :
    Pu Try.prog 20 [.one (.sl (a.map eI)), .one (.sl (b.map eI))] (.one (.sl (r.map eI))) := by
  refine pu_of_awp Try.func20 rfl (by kernel_rfl) (by kernel_rfl) (awp_of_S ?_)
  simp only [Try.f20]
  unfold latches_Merge at h
  obtain ⟨hn_1, h⟩ := need_inv h
  have hz_2 : List.replicate ((max (a.length : Int) (b.length : Int)).toNat) [.int .i64 0] = List.map eI (List.replicate ((max (a.length : Int) (b.length : Int)).toNat) 0) := by simp [go_sem]
  obtain ⟨e_5, he_5, h⟩ := bind_inv h
  try simp -implicitDefEqProofs only [go_sem, simprocAttr, hn_1, hz_2]
  repeat (first | (with_reducible refine imp_i fun _ => ?_) | (with_reducible refine and_a ?_))
  refine purge_to [5, 17, 18, 19] 1 ((fun (s__ : (List Int) × Nat) (a__ : Unit) => match s__, a__ with | (out_3, x_4), _ => ⟨[(5, .one (.msl 0 0 0 out_3.length)), (17, .one (.sl (a.map eI))), (18, .one (.int .i64 (a.length : Int))), (19, .one (.int .i64 (x_4 : Int)))], [.cells 0 1 (out_3.map eI)]⟩) ((copyL (List.replicate (max (a.length : Int) (b.length : Int)).toNat 0) b), 0) ()) (by simp) (by simp [go_sem]) (by simp [go_sem]) (by simp [go_sem, copyL, List.map_set, hn_1] <;> omega) ?_
  refine loop_X (f := latches_Merge_L1 a) (s0 := ((copyL (List.replicate (max (a.length : Int) (b.length : Int)).toNat 0) b), 0)) (fun (s__ : (List Int) × Nat) (a__ : Unit) => match s__, a__ with | (out_3, x_4), _ => ⟨[(5, .one (.msl 0 0 0 out_3.length)), (17, .one (.sl (a.map eI))), (18, .one (.int .i64 (a.length : Int))), (19, .one (.int .i64 (x_4 : Int)))], [.cells 0 1 (out_3.map eI)]⟩) (fun (e__ : List Int) (b__ : Unit) => match e__, b__ with | e_5, _ => ⟨[(5, .one (.msl 0 0 0 e_5.length))], [.cells 0 1 (e_5.map eI)]⟩) (fun (_ : List Int) => some 0) () he_5 ?_ ?_
  · intro i6 b6 hi6
    obtain rfl := Option.some.inj hi6
    obtain ⟨⟩ := b6
    dsimp only at h ⊢
    obtain rfl := Option.some.inj h
    try simp -implicitDefEqProofs only [go_sem, simprocAttr, hn_1, hz_2]
    all_goals (repeat (first | (with_reducible refine imp_i fun _ => ?_) | (with_reducible refine and_a ?_)))
    all_goals (try simp [go_sem, hn_1])
  · intro af6 m6 s6 a6 o6 hf6 ho6 ih6
    obtain ⟨out_3, x_4⟩ := s6
    obtain ⟨⟩ := a6
    dsimp only [latches_Merge_L1] at hf6 ⊢ ih6
    try simp -implicitDefEqProofs only [go_sem, simprocAttr, hn_1, hz_2]
    repeat (first | (with_reducible refine imp_i fun _ => ?_) | (with_reducible refine and_a ?_))
    by_cases hc_7 : (x_4 : Int) < (a.length : Int)
    · replace hf6 := if_t hc_7 hf6
      have hq_8 := eq_true hc_7
      have hn_9 : x_4 < a.length := by omega
      obtain ⟨x_10, hx_10, hf6⟩ := bind_inv hf6
      obtain ⟨f_111, f_112, f_113, f_114⟩ := nat_facts hx_10
      try simp -implicitDefEqProofs only [go_sem, simprocAttr, hn_1, hz_2, hq_8, hn_9, f_111, f_112, f_113, f_114]
      repeat (first | (with_reducible refine imp_i fun _ => ?_) | (with_reducible refine and_a ?_))
      by_cases hc_12 : x_10 = 0
      · replace hf6 := if_t hc_12 hf6
        have hq_13 := eq_true hc_12
        obtain rfl := Option.some.inj hf6
        try simp -implicitDefEqProofs only [go_sem, simprocAttr, hn_1, hz_2, hq_8, hn_9, f_111, f_112, f_113, f_114, hq_13]
        repeat (first | (with_reducible refine imp_i fun _ => ?_) | (with_reducible refine and_a ?_))
        have hw_14 := wrap_nat (k := x_4) (by omega)
        refine purge_P [5, 17, 18, 19] 1 ((fun (s__ : (List Int) × Nat) (a__ : Unit) => match s__, a__ with | (out_3, x_4), _ => ⟨[(5, .one (.msl 0 0 0 out_3.length)), (17, .one (.sl (a.map eI))), (18, .one (.int .i64 (a.length : Int))), (19, .one (.int .i64 (x_4 : Int)))], [.cells 0 1 (out_3.map eI)]⟩) (out_3, (x_4 + 1)) ()) (by simp) (by simp [go_sem]) (by simp [go_sem]) (by simp [go_sem, copyL, List.map_set, hn_1, hq_8, hn_9, f_111, f_112, f_113, f_114, hq_13, hw_14] <;> omega) ?_
        exact ih6 (out_3, (x_4 + 1)) () ho6
      · replace hf6 := if_f hc_12 hf6
        have hq_15 := eq_false hc_12
        obtain ⟨x_16, hx_16, hf6⟩ := bind_inv hf6
        obtain ⟨f_171, f_172, f_173, f_174⟩ := nat_facts hx_16
        have hs_18 : (List.map eI out_3).set x_4 [.int .i64 x_10] = List.map eI (out_3.set x_4 x_10) := by simp [go_sem, List.map_set]
        obtain rfl := Option.some.inj hf6
        try simp -implicitDefEqProofs only [go_sem, simprocAttr, hn_1, hz_2, hq_8, hn_9, f_111, f_112, f_113, f_114, hq_15, f_171, f_172, f_173, f_174, hs_18]
        repeat (first | (with_reducible refine imp_i fun _ => ?_) | (with_reducible refine and_a ?_))
        have hw_19 := wrap_nat (k := x_4) (by omega)
        refine purge_P [5, 17, 18, 19] 1 ((fun (s__ : (List Int) × Nat) (a__ : Unit) => match s__, a__ with | (out_3, x_4), _ => ⟨[(5, .one (.msl 0 0 0 out_3.length)), (17, .one (.sl (a.map eI))), (18, .one (.int .i64 (a.length : Int))), (19, .one (.int .i64 (x_4 : Int)))], [.cells 0 1 (out_3.map eI)]⟩) ((out_3.set x_4 x_10), (x_4 + 1)) ()) (by simp) (by simp [go_sem]) (by simp [go_sem]) (by simp [go_sem, copyL, List.map_set, hn_1, hq_8, hn_9, f_111, f_112, f_113, f_114, hq_15, f_171, f_172, f_173, f_174, hw_19] <;> omega) ?_
        exact ih6 ((out_3.set x_4 x_10), (x_4 + 1)) () ho6
    · replace hf6 := if_f hc_7 hf6
      have hq_20 := eq_false hc_7
      have hn_21 : ¬ x_4 < a.length := by omega
      obtain rfl := Option.some.inj hf6
      obtain rfl := Option.some.inj ho6
      try simp -implicitDefEqProofs only [go_sem, simprocAttr, hn_1, hz_2, hq_20, hn_21]
      repeat (first | (with_reducible refine imp_i fun _ => ?_) | (with_reducible refine and_a ?_))
      refine purge_E [5] 1 ((fun (e__ : List Int) (b__ : Unit) => match e__, b__ with | e_5, _ => ⟨[(5, .one (.msl 0 0 0 e_5.length))], [.cells 0 1 (e_5.map eI)]⟩) out_3 ()) (by simp) (by simp [go_sem]) (by simp [go_sem]) (by simp [go_sem, copyL, List.map_set, hn_1, hq_20, hn_21] <;> omega) ?_
      exact af6 _ () rfl
set_option maxRecDepth 100000 in
theorem lazarettolaw23_awake_ok {r : Bool} (h : lazarettolaw23_awake = some r) :
    Pu Try.prog 16 [] (.one (.bool r)) := by
  refine pu_of_awp Try.func16 rfl (by kernel_rfl) (by kernel_rfl) (awp_of_S ?_)
  simp only [Try.f16]
  unfold lazarettolaw23_awake at h
  obtain ⟨r_1, hr_1, h⟩ := bind_inv h
  try simp -implicitDefEqProofs only [go_sem, simprocAttr]
  repeat (first | (with_reducible refine imp_i fun _ => ?_) | (with_reducible refine and_a ?_))
  refine call_S (latches_Outputs_ok hr_1) (by simp [go_sem]) (by simp [go_sem]) (by simp [go_sem]) (by simp [go_sem]) ?_
  obtain ⟨r_2, hr_2, h⟩ := bind_inv h
  try simp -implicitDefEqProofs only [go_sem, simprocAttr]
  repeat (first | (with_reducible refine imp_i fun _ => ?_) | (with_reducible refine and_a ?_))
  refine call_S (lazarettoref04_Ints_ok hr_2) (by simp [go_sem]) (by simp [go_sem]) (by simp [go_sem]) (by simp [go_sem]) ?_
  try simp -implicitDefEqProofs only [go_sem, simprocAttr]
  repeat (first | (with_reducible refine imp_i fun _ => ?_) | (with_reducible refine and_a ?_))
  by_cases hc_3 : r_2 = true
  · replace h := if_t hc_3 h
    obtain ⟨r_4, hr_4, h⟩ := bind_inv h
    try simp -implicitDefEqProofs only [go_sem, simprocAttr, hc_3]
    repeat (first | (with_reducible refine imp_i fun _ => ?_) | (with_reducible refine and_a ?_))
    refine call_S (latches_Outputs_ok hr_4) (by simp [go_sem, hc_3]) (by simp [go_sem]) (by simp [go_sem]) (by simp [go_sem]) ?_
    obtain ⟨r_5, hr_5, h⟩ := bind_inv h
    try simp -implicitDefEqProofs only [go_sem, simprocAttr, hc_3]
    repeat (first | (with_reducible refine imp_i fun _ => ?_) | (with_reducible refine and_a ?_))
    refine call_S (lazarettoref04_Ints_ok hr_5) (by simp [go_sem, hc_3]) (by simp [go_sem]) (by simp [go_sem]) (by simp [go_sem]) ?_
    try simp -implicitDefEqProofs only [go_sem, simprocAttr, hc_3]
    repeat (first | (with_reducible refine imp_i fun _ => ?_) | (with_reducible refine and_a ?_))
    by_cases hc_6 : r_5 = true
    · replace h := if_t hc_6 h
      obtain ⟨r_7, hr_7, h⟩ := bind_inv h
      try simp -implicitDefEqProofs only [go_sem, simprocAttr, hc_3, hc_6]
      repeat (first | (with_reducible refine imp_i fun _ => ?_) | (with_reducible refine and_a ?_))
      refine call_S (latches_Forced_ok hr_7) (by simp [go_sem, hc_3, hc_6]) (by simp [go_sem]) (by simp [go_sem]) (by simp [go_sem]) ?_
      try simp -implicitDefEqProofs only [go_sem, simprocAttr, hc_3, hc_6]
      repeat (first | (with_reducible refine imp_i fun _ => ?_) | (with_reducible refine and_a ?_))
      by_cases hc_8 : r_7 = true
      · replace h := if_t hc_8 h
        obtain ⟨r_9, hr_9, h⟩ := bind_inv h
        try simp -implicitDefEqProofs only [go_sem, simprocAttr, hc_3, hc_6, hc_8]
        repeat (first | (with_reducible refine imp_i fun _ => ?_) | (with_reducible refine and_a ?_))
        refine call_S (latches_Forced_ok hr_9) (by simp [go_sem, hc_3, hc_6, hc_8]) (by simp [go_sem]) (by simp [go_sem]) (by simp [go_sem]) ?_
        try simp -implicitDefEqProofs only [go_sem, simprocAttr, hc_3, hc_6, hc_8]
        repeat (first | (with_reducible refine imp_i fun _ => ?_) | (with_reducible refine and_a ?_))
        by_cases hc_10 : r_9 = true
        · replace h := if_t hc_10 h
          obtain rfl := Option.some.inj h
          try simp -implicitDefEqProofs only [go_sem, simprocAttr, hc_3, hc_6, hc_8, hc_10]
          all_goals (repeat (first | (with_reducible refine imp_i fun _ => ?_) | (with_reducible refine and_a ?_)))
          all_goals (try simp [go_sem, hc_3, hc_6, hc_8, hc_10])
        · replace h := if_f hc_10 h
          have hc_10 := nt_ hc_10
          obtain ⟨r_11, hr_11, h⟩ := bind_inv h
          try simp -implicitDefEqProofs only [go_sem, simprocAttr, hc_3, hc_6, hc_8, hc_10]
          repeat (first | (with_reducible refine imp_i fun _ => ?_) | (with_reducible refine and_a ?_))
          refine call_S (latches_Merge_ok hr_11) (by simp [go_sem, hc_3, hc_6, hc_8, hc_10]) (by simp [go_sem]) (by simp [go_sem]) (by simp [go_sem]) ?_
          obtain ⟨r_12, hr_12, h⟩ := bind_inv h
          try simp -implicitDefEqProofs only [go_sem, simprocAttr, hc_3, hc_6, hc_8, hc_10]
          repeat (first | (with_reducible refine imp_i fun _ => ?_) | (with_reducible refine and_a ?_))
          refine call_S (lazarettoref04_Ints_ok hr_12) (by simp [go_sem, hc_3, hc_6, hc_8, hc_10]) (by simp [go_sem]) (by simp [go_sem]) (by simp [go_sem]) ?_
          obtain rfl := Option.some.inj h
          try simp -implicitDefEqProofs only [go_sem, simprocAttr, hc_3, hc_6, hc_8, hc_10]
          all_goals (repeat (first | (with_reducible refine imp_i fun _ => ?_) | (with_reducible refine and_a ?_)))
          all_goals (try simp [go_sem, hc_3, hc_6, hc_8, hc_10])
      · replace h := if_f hc_8 h
        have hc_8 := nt_ hc_8
        obtain rfl := Option.some.inj h
        try simp -implicitDefEqProofs only [go_sem, simprocAttr, hc_3, hc_6, hc_8]
        all_goals (repeat (first | (with_reducible refine imp_i fun _ => ?_) | (with_reducible refine and_a ?_)))
        all_goals (try simp [go_sem, hc_3, hc_6, hc_8])
    · replace h := if_f hc_6 h
      have hc_6 := nt_ hc_6
      obtain rfl := Option.some.inj h
      try simp -implicitDefEqProofs only [go_sem, simprocAttr, hc_3, hc_6]
      all_goals (repeat (first | (with_reducible refine imp_i fun _ => ?_) | (with_reducible refine and_a ?_)))
      all_goals (try simp [go_sem, hc_3, hc_6])
  · replace h := if_f hc_3 h
    have hc_3 := nt_ hc_3
    obtain rfl := Option.some.inj h
    try simp -implicitDefEqProofs only [go_sem, simprocAttr, hc_3]
    all_goals (repeat (first | (with_reducible refine imp_i fun _ => ?_) | (with_reducible refine and_a ?_)))
    all_goals (try simp [go_sem, hc_3])
set_option maxRecDepth 100000 in
theorem lazarettoref23_Merge_ok {a : List Int} {b : List Int} {r : List Int} (h : lazarettoref23_Merge a b = some r) :
    Pu Try.prog 21 [.one (.sl (a.map eI)), .one (.sl (b.map eI))] (.one (.sl (r.map eI))) := by
  refine pu_of_awp Try.func21 rfl (by kernel_rfl) (by kernel_rfl) (awp_of_S ?_)
  simp only [Try.f21]
  unfold lazarettoref23_Merge at h
  obtain ⟨e_5, he_5, h⟩ := bind_inv h
  try simp -implicitDefEqProofs only [go_sem, simprocAttr]
  repeat (first | (with_reducible refine imp_i fun _ => ?_) | (with_reducible refine and_a ?_))
  refine seed_L 5 1 (by simp [go_sem]) ?_
  refine purge_to [0, 1, 5, 6] 1 ((fun (s__ : (List Int) × Nat) (a__ : Nat) => match s__, a__ with | (out_2, i_4), v_1 => ⟨[(0, .one (.sl (a.map eI))), (1, .one (.sl (b.map eI))), (5, .one (.msl 0 v_1 0 out_2.length)), (6, .one (.int .i64 (i_4 : Int)))], [.cells v_1 1 (out_2.map eI)]⟩) ([], 0) 0) (by simp) (by simp [go_sem]) (by simp [go_sem]) (by simp [go_sem, copyL, List.map_set] <;> omega) ?_
  refine loop_X (f := lazarettoref23_Merge_L1 a b) (s0 := ([], 0)) (fun (s__ : (List Int) × Nat) (a__ : Nat) => match s__, a__ with | (out_2, i_4), v_1 => ⟨[(0, .one (.sl (a.map eI))), (1, .one (.sl (b.map eI))), (5, .one (.msl 0 v_1 0 out_2.length)), (6, .one (.int .i64 (i_4 : Int)))], [.cells v_1 1 (out_2.map eI)]⟩) (fun (e__ : List Int) (b__ : Nat) => match e__, b__ with | e_5, b6 => ⟨[(5, .one (.msl 0 b6 0 e_5.length))], [.cells b6 1 (e_5.map eI)]⟩) (fun (_ : List Int) => some 0) 0 he_5 ?_ ?_
  · intro i6 b6 hi6
    obtain rfl := Option.some.inj hi6
    dsimp only at h ⊢
    obtain rfl := Option.some.inj h
    try simp -implicitDefEqProofs only [go_sem, simprocAttr]
    all_goals (repeat (first | (with_reducible refine imp_i fun _ => ?_) | (with_reducible refine and_a ?_)))
    all_goals (try simp [go_sem])
  · intro af6 m6 s6 v_1 o6 hf6 ho6 ih6
    obtain ⟨out_2, i_4⟩ := s6
    dsimp only [lazarettoref23_Merge_L1] at hf6 ⊢ ih6
    try simp -implicitDefEqProofs only [go_sem, simprocAttr]
    repeat (first | (with_reducible refine imp_i fun _ => ?_) | (with_reducible refine and_a ?_))
    by_cases hc_7 : (i_4 : Int) < (a.length : Int)
    · replace hf6 := if_t hc_7 hf6
      have hq_8 := eq_true hc_7
      have hn_9 : i_4 < a.length := by omega
      obtain ⟨x_10, hx_10, hf6⟩ := bind_inv hf6
      obtain ⟨f_111, f_112, f_113, f_114⟩ := nat_facts hx_10
      try simp -implicitDefEqProofs only [go_sem, simprocAttr, hq_8, hn_9, f_111, f_112, f_113, f_114]
      repeat (first | (with_reducible refine imp_i fun _ => ?_) | (with_reducible refine and_a ?_))
      by_cases hc_12 : x_10 = 0
      · replace hf6 := if_t hc_12 hf6
        have hq_13 := eq_true hc_12
        try simp -implicitDefEqProofs only [go_sem, simprocAttr, hq_8, hn_9, f_111, f_112, f_113, f_114, hq_13]
        repeat (first | (with_reducible refine imp_i fun _ => ?_) | (with_reducible refine and_a ?_))
        by_cases hc_14 : (i_4 : Int) < (b.length : Int)
        · replace hf6 := if_t hc_14 hf6
          have hq_15 := eq_true hc_14
          have hn_16 : i_4 < b.length := by omega
          obtain ⟨x_17, hx_17, hf6⟩ := bind_inv hf6
          obtain ⟨f_181, f_182, f_183, f_184⟩ := nat_facts hx_17
          obtain ⟨hn_19, hf6⟩ := need_inv hf6
          obtain rfl := Option.some.inj hf6
          try simp -implicitDefEqProofs only [go_sem, simprocAttr, hq_8, hn_9, f_111, f_112, f_113, f_114, hq_13, hq_15, hn_16, f_181, f_182, f_183, f_184, hn_19]
          repeat (first | (with_reducible refine imp_i fun _ => ?_) | (with_reducible refine and_a ?_))
          have hw_20 := wrap_nat (k := i_4) (by omega)
          refine purge_P [0, 1, 5, 6] 1 ((fun (s__ : (List Int) × Nat) (a__ : Nat) => match s__, a__ with | (out_2, i_4), v_1 => ⟨[(0, .one (.sl (a.map eI))), (1, .one (.sl (b.map eI))), (5, .one (.msl 0 v_1 0 out_2.length)), (6, .one (.int .i64 (i_4 : Int)))], [.cells v_1 1 (out_2.map eI)]⟩) ((out_2 ++ [x_17]), (i_4 + 1)) (v_1 + 1)) (by simp) (by simp [go_sem]) (by simp [go_sem]) (by simp [go_sem, copyL, List.map_set, hq_8, hn_9, f_111, f_112, f_113, f_114, hq_13, hq_15, hn_16, f_181, f_182, f_183, f_184, hn_19, hw_20] <;> omega) ?_
          exact ih6 ((out_2 ++ [x_17]), (i_4 + 1)) (v_1 + 1) ho6
        · replace hf6 := if_f hc_14 hf6
          have hq_21 := eq_false hc_14
          have hn_22 : ¬ i_4 < b.length := by omega
          obtain ⟨hn_23, hf6⟩ := need_inv hf6
          obtain rfl := Option.some.inj hf6
          try simp -implicitDefEqProofs only [go_sem, simprocAttr, hq_8, hn_9, f_111, f_112, f_113, f_114, hq_13, hq_21, hn_22, hn_23]
          repeat (first | (with_reducible refine imp_i fun _ => ?_) | (with_reducible refine and_a ?_))
          have hw_24 := wrap_nat (k := i_4) (by omega)
          refine purge_P [0, 1, 5, 6] 1 ((fun (s__ : (List Int) × Nat) (a__ : Nat) => match s__, a__ with | (out_2, i_4), v_1 => ⟨[(0, .one (.sl (a.map eI))), (1, .one (.sl (b.map eI))), (5, .one (.msl 0 v_1 0 out_2.length)), (6, .one (.int .i64 (i_4 : Int)))], [.cells v_1 1 (out_2.map eI)]⟩) ((out_2 ++ [x_10]), (i_4 + 1)) (v_1 + 1)) (by simp) (by simp [go_sem]) (by simp [go_sem]) (by simp [go_sem, copyL, List.map_set, hq_8, hn_9, f_111, f_112, f_113, f_114, hq_13, hq_21, hn_22, hn_23, hw_24] <;> omega) ?_
          exact ih6 ((out_2 ++ [x_10]), (i_4 + 1)) (v_1 + 1) ho6
      · replace hf6 := if_f hc_12 hf6
        have hq_25 := eq_false hc_12
        obtain ⟨hn_26, hf6⟩ := need_inv hf6
        obtain rfl := Option.some.inj hf6
        try simp -implicitDefEqProofs only [go_sem, simprocAttr, hq_8, hn_9, f_111, f_112, f_113, f_114, hq_25, hn_26]
        repeat (first | (with_reducible refine imp_i fun _ => ?_) | (with_reducible refine and_a ?_))
        have hw_27 := wrap_nat (k := i_4) (by omega)
        refine purge_P [0, 1, 5, 6] 1 ((fun (s__ : (List Int) × Nat) (a__ : Nat) => match s__, a__ with | (out_2, i_4), v_1 => ⟨[(0, .one (.sl (a.map eI))), (1, .one (.sl (b.map eI))), (5, .one (.msl 0 v_1 0 out_2.length)), (6, .one (.int .i64 (i_4 : Int)))], [.cells v_1 1 (out_2.map eI)]⟩) ((out_2 ++ [x_10]), (i_4 + 1)) (v_1 + 1)) (by simp) (by simp [go_sem]) (by simp [go_sem]) (by simp [go_sem, copyL, List.map_set, hq_8, hn_9, f_111, f_112, f_113, f_114, hq_25, hn_26, hw_27] <;> omega) ?_
        exact ih6 ((out_2 ++ [x_10]), (i_4 + 1)) (v_1 + 1) ho6
    · replace hf6 := if_f hc_7 hf6
      have hq_28 := eq_false hc_7
      have hn_29 : ¬ i_4 < a.length := by omega
      try simp -implicitDefEqProofs only [go_sem, simprocAttr, hq_28, hn_29]
      repeat (first | (with_reducible refine imp_i fun _ => ?_) | (with_reducible refine and_a ?_))
      by_cases hc_30 : (i_4 : Int) < (b.length : Int)
      · replace hf6 := if_t hc_30 hf6
        have hq_31 := eq_true hc_30
        have hn_32 : i_4 < b.length := by omega
        obtain ⟨x_33, hx_33, hf6⟩ := bind_inv hf6
        obtain ⟨f_341, f_342, f_343, f_344⟩ := nat_facts hx_33
        obtain ⟨hn_35, hf6⟩ := need_inv hf6
        obtain rfl := Option.some.inj hf6
        try simp -implicitDefEqProofs only [go_sem, simprocAttr, hq_28, hn_29, hq_31, hn_32, f_341, f_342, f_343, f_344, hn_35]
        repeat (first | (with_reducible refine imp_i fun _ => ?_) | (with_reducible refine and_a ?_))
        have hw_36 := wrap_nat (k := i_4) (by omega)
        refine purge_P [0, 1, 5, 6] 1 ((fun (s__ : (List Int) × Nat) (a__ : Nat) => match s__, a__ with | (out_2, i_4), v_1 => ⟨[(0, .one (.sl (a.map eI))), (1, .one (.sl (b.map eI))), (5, .one (.msl 0 v_1 0 out_2.length)), (6, .one (.int .i64 (i_4 : Int)))], [.cells v_1 1 (out_2.map eI)]⟩) ((out_2 ++ [x_33]), (i_4 + 1)) (v_1 + 1)) (by simp) (by simp [go_sem]) (by simp [go_sem]) (by simp [go_sem, copyL, List.map_set, hq_28, hn_29, hq_31, hn_32, f_341, f_342, f_343, f_344, hn_35, hw_36] <;> omega) ?_
        exact ih6 ((out_2 ++ [x_33]), (i_4 + 1)) (v_1 + 1) ho6
      · replace hf6 := if_f hc_30 hf6
        have hq_37 := eq_false hc_30
        have hn_38 : ¬ i_4 < b.length := by omega
        obtain rfl := Option.some.inj hf6
        obtain rfl := Option.some.inj ho6
        try simp -implicitDefEqProofs only [go_sem, simprocAttr, hq_28, hn_29, hq_37, hn_38]
        repeat (first | (with_reducible refine imp_i fun _ => ?_) | (with_reducible refine and_a ?_))
        refine purge_E [5] 1 ((fun (e__ : List Int) (b__ : Nat) => match e__, b__ with | e_5, b6 => ⟨[(5, .one (.msl 0 b6 0 e_5.length))], [.cells b6 1 (e_5.map eI)]⟩) out_2 v_1) (by simp) (by simp [go_sem]) (by simp [go_sem]) (by simp [go_sem, copyL, List.map_set, hq_28, hn_29, hq_37, hn_38] <;> omega) ?_
        exact af6 _ v_1 rfl
set_option maxRecDepth 100000 in
theorem lazarettolaw23_LatchesMerge_ok {a : List Int} {b : List Int} {c : List Int} {r : Bool} (h : lazarettolaw23_LatchesMerge a b c = some r) :
    Pu Try.prog 4 [.one (.sl (a.map eI)), .one (.sl (b.map eI)), .one (.sl (c.map eI))] (.one (.bool r)) := by
  refine pu_of_awp Try.func4 rfl (by kernel_rfl) (by kernel_rfl) (awp_of_S ?_)
  simp only [Try.f4]
  unfold lazarettolaw23_LatchesMerge at h
  try simp -implicitDefEqProofs only [go_sem, simprocAttr]
  repeat (first | (with_reducible refine imp_i fun _ => ?_) | (with_reducible refine and_a ?_))
  by_cases hc_1 : 1000 < (a.length : Int)
  · replace h := if_t hc_1 h
    have hq_2 := eq_true hc_1
    obtain ⟨r_3, hr_3, h⟩ := bind_inv h
    try simp -implicitDefEqProofs only [go_sem, simprocAttr, hq_2]
    repeat (first | (with_reducible refine imp_i fun _ => ?_) | (with_reducible refine and_a ?_))
    refine call_S (lazarettolaw23_awake_ok hr_3) (by simp [go_sem, hq_2]) (by simp [go_sem]) (by simp [go_sem]) (by simp [go_sem]) ?_
    obtain rfl := Option.some.inj h
    try simp -implicitDefEqProofs only [go_sem, simprocAttr, hq_2]
    all_goals (repeat (first | (with_reducible refine imp_i fun _ => ?_) | (with_reducible refine and_a ?_)))
    all_goals (try simp [go_sem, hq_2])
  · replace h := if_f hc_1 h
    have hq_4 := eq_false hc_1
    try simp -implicitDefEqProofs only [go_sem, simprocAttr, hq_4]
    repeat (first | (with_reducible refine imp_i fun _ => ?_) | (with_reducible refine and_a ?_))
    by_cases hc_5 : 1000 < (b.length : Int)
    · replace h := if_t hc_5 h
      have hq_6 := eq_true hc_5
      obtain ⟨r_7, hr_7, h⟩ := bind_inv h
      try simp -implicitDefEqProofs only [go_sem, simprocAttr, hq_4, hq_6]
      repeat (first | (with_reducible refine imp_i fun _ => ?_) | (with_reducible refine and_a ?_))
      refine call_S (lazarettolaw23_awake_ok hr_7) (by simp [go_sem, hq_4, hq_6]) (by simp [go_sem]) (by simp [go_sem]) (by simp [go_sem]) ?_
      obtain rfl := Option.some.inj h
      try simp -implicitDefEqProofs only [go_sem, simprocAttr, hq_4, hq_6]
      all_goals (repeat (first | (with_reducible refine imp_i fun _ => ?_) | (with_reducible refine and_a ?_)))
      all_goals (try simp [go_sem, hq_4, hq_6])
    · replace h := if_f hc_5 h
      have hq_8 := eq_false hc_5
      try simp -implicitDefEqProofs only [go_sem, simprocAttr, hq_4, hq_8]
      repeat (first | (with_reducible refine imp_i fun _ => ?_) | (with_reducible refine and_a ?_))
      by_cases hc_9 : 1000 < (c.length : Int)
      · replace h := if_t hc_9 h
        have hq_10 := eq_true hc_9
        obtain ⟨r_11, hr_11, h⟩ := bind_inv h
        try simp -implicitDefEqProofs only [go_sem, simprocAttr, hq_4, hq_8, hq_10]
        repeat (first | (with_reducible refine imp_i fun _ => ?_) | (with_reducible refine and_a ?_))
        refine call_S (lazarettolaw23_awake_ok hr_11) (by simp [go_sem, hq_4, hq_8, hq_10]) (by simp [go_sem]) (by simp [go_sem]) (by simp [go_sem]) ?_
        obtain rfl := Option.some.inj h
        try simp -implicitDefEqProofs only [go_sem, simprocAttr, hq_4, hq_8, hq_10]
        all_goals (repeat (first | (with_reducible refine imp_i fun _ => ?_) | (with_reducible refine and_a ?_)))
        all_goals (try simp [go_sem, hq_4, hq_8, hq_10])
      · replace h := if_f hc_9 h
        have hq_12 := eq_false hc_9
        obtain ⟨r_13, hr_13, h⟩ := bind_inv h
        try simp -implicitDefEqProofs only [go_sem, simprocAttr, hq_4, hq_8, hq_12]
        repeat (first | (with_reducible refine imp_i fun _ => ?_) | (with_reducible refine and_a ?_))
        refine call_S (latches_Merge_ok hr_13) (by simp [go_sem, hq_4, hq_8, hq_12]) (by simp [go_sem]) (by simp [go_sem]) (by simp [go_sem]) ?_
        obtain ⟨r_14, hr_14, h⟩ := bind_inv h
        try simp -implicitDefEqProofs only [go_sem, simprocAttr, hq_4, hq_8, hq_12]
        repeat (first | (with_reducible refine imp_i fun _ => ?_) | (with_reducible refine and_a ?_))
        refine call_S (lazarettoref23_Merge_ok hr_14) (by simp [go_sem, hq_4, hq_8, hq_12]) (by simp [go_sem]) (by simp [go_sem]) (by simp [go_sem]) ?_
        obtain ⟨r_15, hr_15, h⟩ := bind_inv h
        try simp -implicitDefEqProofs only [go_sem, simprocAttr, hq_4, hq_8, hq_12]
        repeat (first | (with_reducible refine imp_i fun _ => ?_) | (with_reducible refine and_a ?_))
        refine call_S (lazarettoref04_Ints_ok hr_15) (by simp [go_sem, hq_4, hq_8, hq_12]) (by simp [go_sem]) (by simp [go_sem]) (by simp [go_sem]) ?_
        try simp -implicitDefEqProofs only [go_sem, simprocAttr, hq_4, hq_8, hq_12]
        repeat (first | (with_reducible refine imp_i fun _ => ?_) | (with_reducible refine and_a ?_))
        by_cases hc_16 : r_15 = true
        · replace h := if_t hc_16 h
          obtain ⟨r_17, hr_17, h⟩ := bind_inv h
          try simp -implicitDefEqProofs only [go_sem, simprocAttr, hq_4, hq_8, hq_12, hc_16]
          repeat (first | (with_reducible refine imp_i fun _ => ?_) | (with_reducible refine and_a ?_))
          refine call_S (latches_Merge_ok hr_17) (by simp [go_sem, hq_4, hq_8, hq_12, hc_16]) (by simp [go_sem]) (by simp [go_sem]) (by simp [go_sem]) ?_
          obtain ⟨r_18, hr_18, h⟩ := bind_inv h
          try simp -implicitDefEqProofs only [go_sem, simprocAttr, hq_4, hq_8, hq_12, hc_16]
          repeat (first | (with_reducible refine imp_i fun _ => ?_) | (with_reducible refine and_a ?_))
          refine call_S (latches_Merge_ok hr_18) (by simp [go_sem, hq_4, hq_8, hq_12, hc_16]) (by simp [go_sem]) (by simp [go_sem]) (by simp [go_sem]) ?_
          obtain ⟨r_19, hr_19, h⟩ := bind_inv h
          try simp -implicitDefEqProofs only [go_sem, simprocAttr, hq_4, hq_8, hq_12, hc_16]
          repeat (first | (with_reducible refine imp_i fun _ => ?_) | (with_reducible refine and_a ?_))
          refine call_S (latches_Merge_ok hr_19) (by simp [go_sem, hq_4, hq_8, hq_12, hc_16]) (by simp [go_sem]) (by simp [go_sem]) (by simp [go_sem]) ?_
          obtain ⟨r_20, hr_20, h⟩ := bind_inv h
          try simp -implicitDefEqProofs only [go_sem, simprocAttr, hq_4, hq_8, hq_12, hc_16]
          repeat (first | (with_reducible refine imp_i fun _ => ?_) | (with_reducible refine and_a ?_))
          refine call_S (latches_Merge_ok hr_20) (by simp [go_sem, hq_4, hq_8, hq_12, hc_16]) (by simp [go_sem]) (by simp [go_sem]) (by simp [go_sem]) ?_
          obtain ⟨r_21, hr_21, h⟩ := bind_inv h
          try simp -implicitDefEqProofs only [go_sem, simprocAttr, hq_4, hq_8, hq_12, hc_16]
          repeat (first | (with_reducible refine imp_i fun _ => ?_) | (with_reducible refine and_a ?_))
          refine call_S (lazarettoref04_Ints_ok hr_21) (by simp [go_sem, hq_4, hq_8, hq_12, hc_16]) (by simp [go_sem]) (by simp [go_sem]) (by simp [go_sem]) ?_
          try simp -implicitDefEqProofs only [go_sem, simprocAttr, hq_4, hq_8, hq_12, hc_16]
          repeat (first | (with_reducible refine imp_i fun _ => ?_) | (with_reducible refine and_a ?_))
          by_cases hc_22 : r_21 = true
          · replace h := if_t hc_22 h
            obtain ⟨r_23, hr_23, h⟩ := bind_inv h
            try simp -implicitDefEqProofs only [go_sem, simprocAttr, hq_4, hq_8, hq_12, hc_16, hc_22]
            repeat (first | (with_reducible refine imp_i fun _ => ?_) | (with_reducible refine and_a ?_))
            refine call_S (lazarettolaw23_awake_ok hr_23) (by simp [go_sem, hq_4, hq_8, hq_12, hc_16, hc_22]) (by simp [go_sem]) (by simp [go_sem]) (by simp [go_sem]) ?_
            obtain rfl := Option.some.inj h
            try simp -implicitDefEqProofs only [go_sem, simprocAttr, hq_4, hq_8, hq_12, hc_16, hc_22]
            all_goals (repeat (first | (with_reducible refine imp_i fun _ => ?_) | (with_reducible refine and_a ?_)))
            all_goals (try simp [go_sem, hq_4, hq_8, hq_12, hc_16, hc_22])
          · replace h := if_f hc_22 h
            have hc_22 := nt_ hc_22
            obtain rfl := Option.some.inj h
            try simp -implicitDefEqProofs only [go_sem, simprocAttr, hq_4, hq_8, hq_12, hc_16, hc_22]
            all_goals (repeat (first | (with_reducible refine imp_i fun _ => ?_) | (with_reducible refine and_a ?_)))
            all_goals (try simp [go_sem, hq_4, hq_8, hq_12, hc_16, hc_22])
        · replace h := if_f hc_16 h
          have hc_16 := nt_ hc_16
          obtain rfl := Option.some.inj h
          try simp -implicitDefEqProofs only [go_sem, simprocAttr, hq_4, hq_8, hq_12, hc_16]
          all_goals (repeat (first | (with_reducible refine imp_i fun _ => ?_) | (with_reducible refine and_a ?_)))
          all_goals (try simp [go_sem, hq_4, hq_8, hq_12, hc_16])
end Go.Lz
