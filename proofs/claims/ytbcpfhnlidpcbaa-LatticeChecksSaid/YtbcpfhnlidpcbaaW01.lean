/- W01 -/
import Derived.Test.YtbcpfhnlidpcbaaLw1
import Derived.Test.YtbcpfhnlidpcbaaSD
namespace Go.Lz
set_option linter.unusedVariables false
set_option linter.unusedSimpArgs false
open Go.Proofs
attribute [-go_sem] q_cond g_b gd_b
noncomputable section
def lazarettoref01_Is (l : api_Lattice) (a : Int) : Option Bool :=
  if 0 ≤ a then (some (decide (a < (l.Names.length : Int)))) else (some false)
def lazarettoref01_Leq_L2 (l : api_Lattice) : ((List Bool) × Bool × Nat) → Option (((List Bool) × Bool × Nat) ⊕ ((List Bool) × Bool))
  | (above_15, more_16, i_17) => if (i_17 : Int) < (l.Below.length : Int) then ((l.Below[i_17]?).bind fun x_23 => (lazarettoref01_Is l x_23.a0).bind fun r_25 => if r_25 = true then ((lazarettoref01_Is l x_23.a1).bind fun r_27 => if r_27 = true then ((idx above_15 x_23.a0).bind fun x_29 => if x_29 = true then ((idx above_15 x_23.a1).bind fun x_32 => if x_32 = true then (some (.inl (above_15, more_16, (i_17 + 1)))) else (some (.inl ((above_15.set x_23.a1.toNat true), true, (i_17 + 1))))) else (some (.inl (above_15, more_16, (i_17 + 1))))) else (some (.inl (above_15, more_16, (i_17 + 1))))) else (some (.inl (above_15, more_16, (i_17 + 1))))) else (some (.inr ((above_15, more_16))))
def lazarettoref01_Leq_L1 (l : api_Lattice) : ((List Bool) × Bool) → Option (((List Bool) × Bool) ⊕ (List Bool))
  | (above_10, more_11) => if more_11 = true then ((loop (lazarettoref01_Leq_L2 l) (above_10, false, 0)).bind (fun (above_43, more_44) => some (.inl (above_43, more_44)))) else (some (.inr (above_10)))
def lazarettoref01_Leq (l : api_Lattice) (a : Int) (b : Int) : Option Bool :=
  (lazarettoref01_Is l a).bind fun r_1 => if r_1 = true then ((lazarettoref01_Is l b).bind fun r_3 => if r_3 = true then (need (0 ≤ (l.Names.length : Int) ∧ 1 * (l.Names.length : Int) ≤ 140737488355328) ((idx (List.replicate l.Names.length false) a).bind fun x_7 => (loop (lazarettoref01_Leq_L1 l) (((List.replicate l.Names.length false).set a.toNat true), true)).bind (fun e_12 => (idx e_12 b).bind fun x_46 => some x_46))) else (some false)) else (some false)
def lattice_is (l : api_Lattice) (a : Int) : Option Bool :=
  if 0 ≤ a then (some (decide (a < (l.Names.length : Int)))) else (some false)
def lattice_above_L2 (l : api_Lattice) (x_14 : Int) : ((List Bool) × (List Int) × Nat) → Option (((List Bool) × (List Int) × Nat) ⊕ ((List Bool) × (List Int)))
  | (out_20, todo_22, x_24) => if (x_24 : Int) < (l.Below.length : Int) then ((l.Below[x_24]?).bind fun x_30 => if x_30.a0 = x_14 then ((lattice_is l x_30.a1).bind fun r_34 => if r_34 = true then ((idx out_20 x_30.a1).bind fun x_36 => if x_36 = true then (some (.inl (out_20, todo_22, (x_24 + 1)))) else (need ((todo_22.length + 1) * 8 ≤ 140737488355328) (some (.inl ((out_20.set x_30.a1.toNat true), (todo_22 ++ [x_30.a1]), (x_24 + 1)))))) else (some (.inl (out_20, todo_22, (x_24 + 1))))) else (some (.inl (out_20, todo_22, (x_24 + 1))))) else (some (.inr ((out_20, todo_22))))
def lattice_above_L1 (l : api_Lattice) : ((List Bool) × (List Int)) → Option (((List Bool) × (List Int)) ⊕ ((List Bool) × (List Int)))
  | (out_6, todo_8) => if 0 < (todo_8.length : Int) then ((todo_8[0]?).bind fun x_14 => need ((1 : Int) ≤ (todo_8.length : Int)) ((loop (lattice_above_L2 l x_14) (out_6, (todo_8.drop 1), 0)).bind (fun (out_48, todo_49) => some (.inl (out_48, todo_49))))) else (some (.inr ((out_6, todo_8))))
def lattice_above (l : api_Lattice) (a : Int) : Option (List Bool) :=
  need (0 ≤ (l.Names.length : Int) ∧ 1 * (l.Names.length : Int) ≤ 140737488355328) ((idx (List.replicate l.Names.length false) a).bind fun x_3 => (loop (lattice_above_L1 l) (((List.replicate l.Names.length false).set a.toNat true), [a])).bind (fun (out_53, todo_54) => some out_53))
def lattice_Leq (l : api_Lattice) (a : Int) (b : Int) : Option Bool :=
  (lattice_is l a).bind fun r_1 => if r_1 = true then ((lattice_is l b).bind fun r_3 => if r_3 = true then ((lattice_above l a).bind fun r_5 => (idx r_5 b).bind fun x_6 => some x_6) else (some false)) else (some false)
end
set_option maxRecDepth 100000 in
theorem lazarettoref01_Is_ok {l : api_Lattice} {a : Int} {r : Bool} (h : lazarettoref01_Is l a = some r) :
    Pu Try.prog 50 [.agg (e_api_Lattice l), .one (.int .i64 a)] (.one (.bool r)) := by
  refine pu_of_awp Try.func50 rfl (by kernel_rfl) (by kernel_rfl) (awp_of_S ?_)
  simp only [Try.f50]
  unfold lazarettoref01_Is at h
  try simp -implicitDefEqProofs only [go_sem, simprocAttr]
  repeat (first | (with_reducible refine imp_i fun _ => ?_) | (with_reducible refine and_a ?_))
  by_cases hc_1 : 0 ≤ a
  · replace h := if_t hc_1 h
    have hq_2 := eq_true hc_1
    obtain rfl := Option.some.inj h
    try simp -implicitDefEqProofs only [go_sem, simprocAttr, hq_2]
    all_goals (repeat (first | (with_reducible refine imp_i fun _ => ?_) | (with_reducible refine and_a ?_)))
    all_goals (try simp [go_sem, hq_2])
  · replace h := if_f hc_1 h
    have hq_3 := eq_false hc_1
    obtain rfl := Option.some.inj h
    try simp -implicitDefEqProofs only [go_sem, simprocAttr, hq_3]
    all_goals (repeat (first | (with_reducible refine imp_i fun _ => ?_) | (with_reducible refine and_a ?_)))
    all_goals (try simp [go_sem, hq_3])
set_option maxRecDepth 100000 in
theorem lazarettoref01_Leq_ok {l : api_Lattice} {a : Int} {b : Int} {r : Bool} (h : lazarettoref01_Leq l a b = some r) :
    Pu Try.prog 22 [.agg (e_api_Lattice l), .one (.int .i64 a), .one (.int .i64 b)] (.one (.bool r)) := by
  refine pu_of_awp Try.func22 rfl (by kernel_rfl) (by kernel_rfl) (awp_of_S ?_)
  simp only [Try.f22]
  unfold lazarettoref01_Leq at h
  obtain ⟨r_1, hr_1, h⟩ := bind_inv h
  try simp -implicitDefEqProofs only [go_sem, simprocAttr]
  repeat (first | (with_reducible refine imp_i fun _ => ?_) | (with_reducible refine and_a ?_))
  refine call_S (lazarettoref01_Is_ok hr_1) (by simp [go_sem]) (by simp [go_sem]) (by simp [go_sem]) (by simp [go_sem]) ?_
  try simp -implicitDefEqProofs only [go_sem, simprocAttr]
  repeat (first | (with_reducible refine imp_i fun _ => ?_) | (with_reducible refine and_a ?_))
  by_cases hc_2 : r_1 = true
  · replace h := if_t hc_2 h
    obtain ⟨r_3, hr_3, h⟩ := bind_inv h
    try simp -implicitDefEqProofs only [go_sem, simprocAttr, hc_2]
    repeat (first | (with_reducible refine imp_i fun _ => ?_) | (with_reducible refine and_a ?_))
    refine call_S (lazarettoref01_Is_ok hr_3) (by simp [go_sem, hc_2]) (by simp [go_sem]) (by simp [go_sem]) (by simp [go_sem]) ?_
    try simp -implicitDefEqProofs only [go_sem, simprocAttr, hc_2]
    repeat (first | (with_reducible refine imp_i fun _ => ?_) | (with_reducible refine and_a ?_))
    by_cases hc_4 : r_3 = true
    · replace h := if_t hc_4 h
      obtain ⟨hn_5, h⟩ := need_inv h
      have hz_6 : List.replicate l.Names.length [.bool false] = List.map eB (List.replicate l.Names.length false) := by simp [go_sem]
      obtain ⟨x_7, hx_7, h⟩ := bind_inv h
      obtain ⟨f_81, f_82, f_83, f_84⟩ := idx_facts hx_7
      try simp only [List.length_replicate, List.length_set, List.length_append, List.length_cons, List.length_nil, List.length_map, List.length_take, List.length_drop, copyL_len] at f_82 f_83
      have hs_9 : (List.map eB (List.replicate l.Names.length false)).set a.toNat [.bool true] = List.map eB ((List.replicate l.Names.length false).set a.toNat true) := by simp [go_sem, List.map_set]
      obtain ⟨e_12, he_12, h⟩ := bind_inv h
      try simp -implicitDefEqProofs only [go_sem, simprocAttr, hc_2, hc_4, hn_5, hz_6, f_81, f_82, f_83, f_84, hs_9]
      repeat (first | (with_reducible refine imp_i fun _ => ?_) | (with_reducible refine and_a ?_))
      refine purge_to [2, 3, 7, 8] 2 ((fun (s__ : (List Bool) × Bool) (a__ : Unit) => match s__, a__ with | (above_10, more_11), _ => ⟨[(2, .one (.int .i64 b)), (3, .one (.ref 0 0 0 0)), (7, .one (.msl 1 0 0 above_10.length)), (8, .one (.bool more_11))], [.cells 0 2 [[.sl (l.Names.map eS), .sl (l.Below.map (eA2 eI))]], .cells 0 1 (above_10.map eB)]⟩) (((List.replicate l.Names.length false).set a.toNat true), true) ()) (by simp) (by simp [go_sem]) (by simp [go_sem]) (by simp [go_sem, copyL, List.map_set, hc_2, hc_4, hn_5, f_81, f_82, f_83, f_84] <;> omega) ?_
      refine loop_X (f := lazarettoref01_Leq_L1 l) (s0 := (((List.replicate l.Names.length false).set a.toNat true), true)) (fun (s__ : (List Bool) × Bool) (a__ : Unit) => match s__, a__ with | (above_10, more_11), _ => ⟨[(2, .one (.int .i64 b)), (3, .one (.ref 0 0 0 0)), (7, .one (.msl 1 0 0 above_10.length)), (8, .one (.bool more_11))], [.cells 0 2 [[.sl (l.Names.map eS), .sl (l.Below.map (eA2 eI))]], .cells 0 1 (above_10.map eB)]⟩) (fun (e__ : List Bool) (b__ : Unit) => match e__, b__ with | e_12, _ => ⟨[(2, .one (.int .i64 b)), (7, .one (.msl 1 0 0 e_12.length))], [.cells 0 2 [[.sl (l.Names.map eS), .sl (l.Below.map (eA2 eI))]], .cells 0 1 (e_12.map eB)]⟩) (fun (_ : List Bool) => some 0) () he_12 ?_ ?_
      · intro i13 b13 hi13
        obtain rfl := Option.some.inj hi13
        obtain ⟨⟩ := b13
        dsimp only at h ⊢
        obtain ⟨x_46, hx_46, h⟩ := bind_inv h
        obtain ⟨f_471, f_472, f_473, f_474⟩ := idx_facts hx_46
        obtain rfl := Option.some.inj h
        try simp -implicitDefEqProofs only [go_sem, simprocAttr, hc_2, hc_4, hn_5, hz_6, f_81, f_82, f_83, f_84, hs_9, f_471, f_472, f_473, f_474]
        all_goals (repeat (first | (with_reducible refine imp_i fun _ => ?_) | (with_reducible refine and_a ?_)))
        all_goals (try simp [go_sem, hc_2, hc_4, hn_5, f_81, f_82, f_83, f_84, f_471, f_472, f_473, f_474])
      · intro af13 m13 s13 a13 o13 hf13 ho13 ih13
        obtain ⟨above_10, more_11⟩ := s13
        obtain ⟨⟩ := a13
        dsimp only [lazarettoref01_Leq_L1] at hf13 ⊢ ih13
        try simp -implicitDefEqProofs only [go_sem, simprocAttr, hc_2, hc_4, hn_5, hz_6, f_81, f_82, f_83, f_84, hs_9]
        repeat (first | (with_reducible refine imp_i fun _ => ?_) | (with_reducible refine and_a ?_))
        by_cases hc_14 : more_11 = true
        · replace hf13 := if_t hc_14 hf13
          obtain ⟨e_18, he_18, hf13⟩ := bind_inv hf13
          try simp -implicitDefEqProofs only [go_sem, simprocAttr, hc_2, hc_4, hn_5, hz_6, f_81, f_82, f_83, f_84, hs_9, hc_14]
          repeat (first | (with_reducible refine imp_i fun _ => ?_) | (with_reducible refine and_a ?_))
          refine purge_to [2, 3, 7, 8, 9] 2 ((fun (s__ : (List Bool) × Bool × Nat) (a__ : Unit) => match s__, a__ with | (above_15, more_16, i_17), _ => ⟨[(2, .one (.int .i64 b)), (3, .one (.ref 0 0 0 0)), (7, .one (.msl 1 0 0 above_15.length)), (8, .one (.bool more_16)), (9, .one (.int .i64 (i_17 : Int)))], [.cells 0 2 [[.sl (l.Names.map eS), .sl (l.Below.map (eA2 eI))]], .cells 0 1 (above_15.map eB)]⟩) (above_10, false, 0) ()) (by simp) (by simp [go_sem]) (by simp [go_sem]) (by simp [go_sem, copyL, List.map_set, hc_2, hc_4, hn_5, f_81, f_82, f_83, f_84, hc_14] <;> omega) ?_
          refine loop_X (f := lazarettoref01_Leq_L2 l) (s0 := (above_10, false, 0)) (fun (s__ : (List Bool) × Bool × Nat) (a__ : Unit) => match s__, a__ with | (above_15, more_16, i_17), _ => ⟨[(2, .one (.int .i64 b)), (3, .one (.ref 0 0 0 0)), (7, .one (.msl 1 0 0 above_15.length)), (8, .one (.bool more_16)), (9, .one (.int .i64 (i_17 : Int)))], [.cells 0 2 [[.sl (l.Names.map eS), .sl (l.Below.map (eA2 eI))]], .cells 0 1 (above_15.map eB)]⟩) (fun (e__ : (List Bool) × Bool) (b__ : Unit) => match e__, b__ with | (above_43, more_44), _ => ⟨[(2, .one (.int .i64 b)), (3, .one (.ref 0 0 0 0)), (7, .one (.msl 1 0 0 above_43.length)), (8, .one (.bool more_44))], [.cells 0 2 [[.sl (l.Names.map eS), .sl (l.Below.map (eA2 eI))]], .cells 0 1 (above_43.map eB)]⟩) (fun (_ : (List Bool) × Bool) => some 2) () he_18 ?_ ?_
          · intro i19 b19 hi19
            obtain rfl := Option.some.inj hi19
            obtain ⟨above_43, more_44⟩ := e_18
            obtain ⟨⟩ := b19
            dsimp only at hf13 ⊢
            obtain rfl := Option.some.inj hf13
            try simp -implicitDefEqProofs only [go_sem, simprocAttr, hc_2, hc_4, hn_5, hz_6, f_81, f_82, f_83, f_84, hs_9, hc_14]
            repeat (first | (with_reducible refine imp_i fun _ => ?_) | (with_reducible refine and_a ?_))
            refine purge_P [2, 3, 7, 8] 2 ((fun (s__ : (List Bool) × Bool) (a__ : Unit) => match s__, a__ with | (above_10, more_11), _ => ⟨[(2, .one (.int .i64 b)), (3, .one (.ref 0 0 0 0)), (7, .one (.msl 1 0 0 above_10.length)), (8, .one (.bool more_11))], [.cells 0 2 [[.sl (l.Names.map eS), .sl (l.Below.map (eA2 eI))]], .cells 0 1 (above_10.map eB)]⟩) (above_43, more_44) ()) (by simp) (by simp [go_sem]) (by simp [go_sem]) (by simp [go_sem, copyL, List.map_set, hc_2, hc_4, hn_5, f_81, f_82, f_83, f_84, hc_14] <;> omega) ?_
            exact ih13 (above_43, more_44) () ho13
          · intro af19 m19 s19 a19 o19 hf19 ho19 ih19
            obtain ⟨above_15, more_16, i_17⟩ := s19
            obtain ⟨⟩ := a19
            dsimp only [lazarettoref01_Leq_L2] at hf19 ⊢ ih19
            try simp -implicitDefEqProofs only [go_sem, simprocAttr, hc_2, hc_4, hn_5, hz_6, f_81, f_82, f_83, f_84, hs_9, hc_14]
            repeat (first | (with_reducible refine imp_i fun _ => ?_) | (with_reducible refine and_a ?_))
            by_cases hc_20 : (i_17 : Int) < (l.Below.length : Int)
            · replace hf19 := if_t hc_20 hf19
              have hq_21 := eq_true hc_20
              have hn_22 : i_17 < l.Below.length := by omega
              obtain ⟨x_23, hx_23, hf19⟩ := bind_inv hf19
              obtain ⟨f_241, f_242, f_243, f_244⟩ := nat_facts hx_23
              obtain ⟨r_25, hr_25, hf19⟩ := bind_inv hf19
              try simp -implicitDefEqProofs only [go_sem, simprocAttr, hc_2, hc_4, hn_5, hz_6, f_81, f_82, f_83, f_84, hs_9, hc_14, hq_21, hn_22, f_241, f_242, f_243, f_244]
              repeat (first | (with_reducible refine imp_i fun _ => ?_) | (with_reducible refine and_a ?_))
              refine call_S (lazarettoref01_Is_ok hr_25) (by simp [go_sem, hc_2, hc_4, hn_5, f_81, f_82, f_83, f_84, hc_14, hq_21, hn_22, f_241, f_242, f_243, f_244]) (by simp [go_sem]) (by simp [go_sem]) (by simp [go_sem]) ?_
              try simp -implicitDefEqProofs only [go_sem, simprocAttr, hc_2, hc_4, hn_5, hz_6, f_81, f_82, f_83, f_84, hs_9, hc_14, hq_21, hn_22, f_241, f_242, f_243, f_244]
              repeat (first | (with_reducible refine imp_i fun _ => ?_) | (with_reducible refine and_a ?_))
              by_cases hc_26 : r_25 = true
              · replace hf19 := if_t hc_26 hf19
                obtain ⟨r_27, hr_27, hf19⟩ := bind_inv hf19
                try simp -implicitDefEqProofs only [go_sem, simprocAttr, hc_2, hc_4, hn_5, hz_6, f_81, f_82, f_83, f_84, hs_9, hc_14, hq_21, hn_22, f_241, f_242, f_243, f_244, hc_26]
                repeat (first | (with_reducible refine imp_i fun _ => ?_) | (with_reducible refine and_a ?_))
                refine call_S (lazarettoref01_Is_ok hr_27) (by simp [go_sem, hc_2, hc_4, hn_5, f_81, f_82, f_83, f_84, hc_14, hq_21, hn_22, f_241, f_242, f_243, f_244, hc_26]) (by simp [go_sem]) (by simp [go_sem]) (by simp [go_sem]) ?_
                try simp -implicitDefEqProofs only [go_sem, simprocAttr, hc_2, hc_4, hn_5, hz_6, f_81, f_82, f_83, f_84, hs_9, hc_14, hq_21, hn_22, f_241, f_242, f_243, f_244, hc_26]
                repeat (first | (with_reducible refine imp_i fun _ => ?_) | (with_reducible refine and_a ?_))
                by_cases hc_28 : r_27 = true
                · replace hf19 := if_t hc_28 hf19
                  obtain ⟨x_29, hx_29, hf19⟩ := bind_inv hf19
                  obtain ⟨f_301, f_302, f_303, f_304⟩ := idx_facts hx_29
                  try simp -implicitDefEqProofs only [go_sem, simprocAttr, hc_2, hc_4, hn_5, hz_6, f_81, f_82, f_83, f_84, hs_9, hc_14, hq_21, hn_22, f_241, f_242, f_243, f_244, hc_26, hc_28, f_301, f_302, f_303, f_304]
                  repeat (first | (with_reducible refine imp_i fun _ => ?_) | (with_reducible refine and_a ?_))
                  by_cases hc_31 : x_29 = true
                  · replace hf19 := if_t hc_31 hf19
                    obtain ⟨x_32, hx_32, hf19⟩ := bind_inv hf19
                    obtain ⟨f_331, f_332, f_333, f_334⟩ := idx_facts hx_32
                    try simp -implicitDefEqProofs only [go_sem, simprocAttr, hc_2, hc_4, hn_5, hz_6, f_81, f_82, f_83, f_84, hs_9, hc_14, hq_21, hn_22, f_241, f_242, f_243, f_244, hc_26, hc_28, f_301, f_302, f_303, f_304, hc_31, f_331, f_332, f_333, f_334]
                    repeat (first | (with_reducible refine imp_i fun _ => ?_) | (with_reducible refine and_a ?_))
                    by_cases hc_34 : x_32 = true
                    · replace hf19 := if_t hc_34 hf19
                      obtain rfl := Option.some.inj hf19
                      try simp -implicitDefEqProofs only [go_sem, simprocAttr, hc_2, hc_4, hn_5, hz_6, f_81, f_82, f_83, f_84, hs_9, hc_14, hq_21, hn_22, f_241, f_242, f_243, f_244, hc_26, hc_28, f_301, f_302, f_303, f_304, hc_31, f_331, f_332, f_333, f_334, hc_34]
                      repeat (first | (with_reducible refine imp_i fun _ => ?_) | (with_reducible refine and_a ?_))
                      have hw_35 := wrap_nat (k := i_17) (by omega)
                      refine purge_P [2, 3, 7, 8, 9] 2 ((fun (s__ : (List Bool) × Bool × Nat) (a__ : Unit) => match s__, a__ with | (above_15, more_16, i_17), _ => ⟨[(2, .one (.int .i64 b)), (3, .one (.ref 0 0 0 0)), (7, .one (.msl 1 0 0 above_15.length)), (8, .one (.bool more_16)), (9, .one (.int .i64 (i_17 : Int)))], [.cells 0 2 [[.sl (l.Names.map eS), .sl (l.Below.map (eA2 eI))]], .cells 0 1 (above_15.map eB)]⟩) (above_15, more_16, (i_17 + 1)) ()) (by simp) (by simp [go_sem]) (by simp [go_sem]) (by simp [go_sem, copyL, List.map_set, hc_2, hc_4, hn_5, f_81, f_82, f_83, f_84, hc_14, hq_21, hn_22, f_241, f_242, f_243, f_244, hc_26, hc_28, f_301, f_302, f_303, f_304, hc_31, f_331, f_332, f_333, f_334, hc_34, hw_35] <;> omega) ?_
                      exact ih19 (above_15, more_16, (i_17 + 1)) () ho19
                    · replace hf19 := if_f hc_34 hf19
                      have hc_34 := nt_ hc_34
                      have hs_36 : (List.map eB above_15).set x_23.a1.toNat [.bool true] = List.map eB (above_15.set x_23.a1.toNat true) := by simp [go_sem, List.map_set]
                      obtain rfl := Option.some.inj hf19
                      try simp -implicitDefEqProofs only [go_sem, simprocAttr, hc_2, hc_4, hn_5, hz_6, f_81, f_82, f_83, f_84, hs_9, hc_14, hq_21, hn_22, f_241, f_242, f_243, f_244, hc_26, hc_28, f_301, f_302, f_303, f_304, hc_31, f_331, f_332, f_333, f_334, hc_34, hs_36]
                      repeat (first | (with_reducible refine imp_i fun _ => ?_) | (with_reducible refine and_a ?_))
                      have hw_37 := wrap_nat (k := i_17) (by omega)
                      refine purge_P [2, 3, 7, 8, 9] 2 ((fun (s__ : (List Bool) × Bool × Nat) (a__ : Unit) => match s__, a__ with | (above_15, more_16, i_17), _ => ⟨[(2, .one (.int .i64 b)), (3, .one (.ref 0 0 0 0)), (7, .one (.msl 1 0 0 above_15.length)), (8, .one (.bool more_16)), (9, .one (.int .i64 (i_17 : Int)))], [.cells 0 2 [[.sl (l.Names.map eS), .sl (l.Below.map (eA2 eI))]], .cells 0 1 (above_15.map eB)]⟩) ((above_15.set x_23.a1.toNat true), true, (i_17 + 1)) ()) (by simp) (by simp [go_sem]) (by simp [go_sem]) (by simp [go_sem, copyL, List.map_set, hc_2, hc_4, hn_5, f_81, f_82, f_83, f_84, hc_14, hq_21, hn_22, f_241, f_242, f_243, f_244, hc_26, hc_28, f_301, f_302, f_303, f_304, hc_31, f_331, f_332, f_333, f_334, hc_34, hw_37] <;> omega) ?_
                      exact ih19 ((above_15.set x_23.a1.toNat true), true, (i_17 + 1)) () ho19
                  · replace hf19 := if_f hc_31 hf19
                    have hc_31 := nt_ hc_31
                    obtain rfl := Option.some.inj hf19
                    try simp -implicitDefEqProofs only [go_sem, simprocAttr, hc_2, hc_4, hn_5, hz_6, f_81, f_82, f_83, f_84, hs_9, hc_14, hq_21, hn_22, f_241, f_242, f_243, f_244, hc_26, hc_28, f_301, f_302, f_303, f_304, hc_31]
                    repeat (first | (with_reducible refine imp_i fun _ => ?_) | (with_reducible refine and_a ?_))
                    have hw_38 := wrap_nat (k := i_17) (by omega)
                    refine purge_P [2, 3, 7, 8, 9] 2 ((fun (s__ : (List Bool) × Bool × Nat) (a__ : Unit) => match s__, a__ with | (above_15, more_16, i_17), _ => ⟨[(2, .one (.int .i64 b)), (3, .one (.ref 0 0 0 0)), (7, .one (.msl 1 0 0 above_15.length)), (8, .one (.bool more_16)), (9, .one (.int .i64 (i_17 : Int)))], [.cells 0 2 [[.sl (l.Names.map eS), .sl (l.Below.map (eA2 eI))]], .cells 0 1 (above_15.map eB)]⟩) (above_15, more_16, (i_17 + 1)) ()) (by simp) (by simp [go_sem]) (by simp [go_sem]) (by simp [go_sem, copyL, List.map_set, hc_2, hc_4, hn_5, f_81, f_82, f_83, f_84, hc_14, hq_21, hn_22, f_241, f_242, f_243, f_244, hc_26, hc_28, f_301, f_302, f_303, f_304, hc_31, hw_38] <;> omega) ?_
                    exact ih19 (above_15, more_16, (i_17 + 1)) () ho19
                · replace hf19 := if_f hc_28 hf19
                  have hc_28 := nt_ hc_28
                  obtain rfl := Option.some.inj hf19
                  try simp -implicitDefEqProofs only [go_sem, simprocAttr, hc_2, hc_4, hn_5, hz_6, f_81, f_82, f_83, f_84, hs_9, hc_14, hq_21, hn_22, f_241, f_242, f_243, f_244, hc_26, hc_28]
                  repeat (first | (with_reducible refine imp_i fun _ => ?_) | (with_reducible refine and_a ?_))
                  have hw_39 := wrap_nat (k := i_17) (by omega)
                  refine purge_P [2, 3, 7, 8, 9] 2 ((fun (s__ : (List Bool) × Bool × Nat) (a__ : Unit) => match s__, a__ with | (above_15, more_16, i_17), _ => ⟨[(2, .one (.int .i64 b)), (3, .one (.ref 0 0 0 0)), (7, .one (.msl 1 0 0 above_15.length)), (8, .one (.bool more_16)), (9, .one (.int .i64 (i_17 : Int)))], [.cells 0 2 [[.sl (l.Names.map eS), .sl (l.Below.map (eA2 eI))]], .cells 0 1 (above_15.map eB)]⟩) (above_15, more_16, (i_17 + 1)) ()) (by simp) (by simp [go_sem]) (by simp [go_sem]) (by simp [go_sem, copyL, List.map_set, hc_2, hc_4, hn_5, f_81, f_82, f_83, f_84, hc_14, hq_21, hn_22, f_241, f_242, f_243, f_244, hc_26, hc_28, hw_39] <;> omega) ?_
                  exact ih19 (above_15, more_16, (i_17 + 1)) () ho19
              · replace hf19 := if_f hc_26 hf19
                have hc_26 := nt_ hc_26
                obtain rfl := Option.some.inj hf19
                try simp -implicitDefEqProofs only [go_sem, simprocAttr, hc_2, hc_4, hn_5, hz_6, f_81, f_82, f_83, f_84, hs_9, hc_14, hq_21, hn_22, f_241, f_242, f_243, f_244, hc_26]
                repeat (first | (with_reducible refine imp_i fun _ => ?_) | (with_reducible refine and_a ?_))
                have hw_40 := wrap_nat (k := i_17) (by omega)
                refine purge_P [2, 3, 7, 8, 9] 2 ((fun (s__ : (List Bool) × Bool × Nat) (a__ : Unit) => match s__, a__ with | (above_15, more_16, i_17), _ => ⟨[(2, .one (.int .i64 b)), (3, .one (.ref 0 0 0 0)), (7, .one (.msl 1 0 0 above_15.length)), (8, .one (.bool more_16)), (9, .one (.int .i64 (i_17 : Int)))], [.cells 0 2 [[.sl (l.Names.map eS), .sl (l.Below.map (eA2 eI))]], .cells 0 1 (above_15.map eB)]⟩) (above_15, more_16, (i_17 + 1)) ()) (by simp) (by simp [go_sem]) (by simp [go_sem]) (by simp [go_sem, copyL, List.map_set, hc_2, hc_4, hn_5, f_81, f_82, f_83, f_84, hc_14, hq_21, hn_22, f_241, f_242, f_243, f_244, hc_26, hw_40] <;> omega) ?_
                exact ih19 (above_15, more_16, (i_17 + 1)) () ho19
            · replace hf19 := if_f hc_20 hf19
              have hq_41 := eq_false hc_20
              have hn_42 : ¬ i_17 < l.Below.length := by omega
              obtain rfl := Option.some.inj hf19
              obtain rfl := Option.some.inj ho19
              try simp -implicitDefEqProofs only [go_sem, simprocAttr, hc_2, hc_4, hn_5, hz_6, f_81, f_82, f_83, f_84, hs_9, hc_14, hq_41, hn_42]
              repeat (first | (with_reducible refine imp_i fun _ => ?_) | (with_reducible refine and_a ?_))
              refine purge_E [2, 3, 7, 8] 2 ((fun (e__ : (List Bool) × Bool) (b__ : Unit) => match e__, b__ with | (above_43, more_44), _ => ⟨[(2, .one (.int .i64 b)), (3, .one (.ref 0 0 0 0)), (7, .one (.msl 1 0 0 above_43.length)), (8, .one (.bool more_44))], [.cells 0 2 [[.sl (l.Names.map eS), .sl (l.Below.map (eA2 eI))]], .cells 0 1 (above_43.map eB)]⟩) (above_15, more_16) ()) (by simp) (by simp [go_sem]) (by simp [go_sem]) (by simp [go_sem, copyL, List.map_set, hc_2, hc_4, hn_5, f_81, f_82, f_83, f_84, hc_14, hq_41, hn_42] <;> omega) ?_
              exact af19 _ () rfl
        · replace hf13 := if_f hc_14 hf13
          have hc_14 := nt_ hc_14
          obtain rfl := Option.some.inj hf13
          obtain rfl := Option.some.inj ho13
          try simp -implicitDefEqProofs only [go_sem, simprocAttr, hc_2, hc_4, hn_5, hz_6, f_81, f_82, f_83, f_84, hs_9, hc_14]
          repeat (first | (with_reducible refine imp_i fun _ => ?_) | (with_reducible refine and_a ?_))
          refine purge_E [2, 7] 2 ((fun (e__ : List Bool) (b__ : Unit) => match e__, b__ with | e_12, _ => ⟨[(2, .one (.int .i64 b)), (7, .one (.msl 1 0 0 e_12.length))], [.cells 0 2 [[.sl (l.Names.map eS), .sl (l.Below.map (eA2 eI))]], .cells 0 1 (e_12.map eB)]⟩) above_10 ()) (by simp) (by simp [go_sem]) (by simp [go_sem]) (by simp [go_sem, copyL, List.map_set, hc_2, hc_4, hn_5, f_81, f_82, f_83, f_84, hc_14] <;> omega) ?_
          exact af13 _ () rfl
    · replace h := if_f hc_4 h
      have hc_4 := nt_ hc_4
      obtain rfl := Option.some.inj h
      try simp -implicitDefEqProofs only [go_sem, simprocAttr, hc_2, hc_4]
      all_goals (repeat (first | (with_reducible refine imp_i fun _ => ?_) | (with_reducible refine and_a ?_)))
      all_goals (try simp [go_sem, hc_2, hc_4])
  · replace h := if_f hc_2 h
    have hc_2 := nt_ hc_2
    obtain rfl := Option.some.inj h
    try simp -implicitDefEqProofs only [go_sem, simprocAttr, hc_2]
    all_goals (repeat (first | (with_reducible refine imp_i fun _ => ?_) | (with_reducible refine and_a ?_)))
    all_goals (try simp [go_sem, hc_2])
set_option maxRecDepth 100000 in
theorem lattice_is_ok {l : api_Lattice} {a : Int} {r : Bool} (h : lattice_is l a = some r) :
    Pu Try.prog 61 [.agg (e_api_Lattice l), .one (.int .i64 a)] (.one (.bool r)) := by
  refine pu_of_awp Try.func61 rfl (by kernel_rfl) (by kernel_rfl) (awp_of_S ?_)
  simp only [Try.f61]
  unfold lattice_is at h
  try simp -implicitDefEqProofs only [go_sem, simprocAttr]
  repeat (first | (with_reducible refine imp_i fun _ => ?_) | (with_reducible refine and_a ?_))
  by_cases hc_1 : 0 ≤ a
  · replace h := if_t hc_1 h
    have hq_2 := eq_true hc_1
    obtain rfl := Option.some.inj h
    try simp -implicitDefEqProofs only [go_sem, simprocAttr, hq_2]
    all_goals (repeat (first | (with_reducible refine imp_i fun _ => ?_) | (with_reducible refine and_a ?_)))
    all_goals (try simp [go_sem, hq_2])
  · replace h := if_f hc_1 h
    have hq_3 := eq_false hc_1
    obtain rfl := Option.some.inj h
    try simp -implicitDefEqProofs only [go_sem, simprocAttr, hq_3]
    all_goals (repeat (first | (with_reducible refine imp_i fun _ => ?_) | (with_reducible refine and_a ?_)))
    all_goals (try simp [go_sem, hq_3])
set_option maxRecDepth 100000 in
theorem lattice_above_ok {l : api_Lattice} {a : Int} {r : List Bool} (h : lattice_above l a = some r) :
    Pu Try.prog 62 [.agg (e_api_Lattice l), .one (.int .i64 a)] (.one (.sl (r.map eB))) := by
  refine pu_of_awp Try.func62 rfl (by kernel_rfl) (by kernel_rfl) (awp_of_S ?_)
  simp only [Try.f62]
  unfold lattice_above at h
  obtain ⟨hn_1, h⟩ := need_inv h
  have hz_2 : List.replicate l.Names.length [.bool false] = List.map eB (List.replicate l.Names.length false) := by simp [go_sem]
  obtain ⟨x_3, hx_3, h⟩ := bind_inv h
  obtain ⟨f_41, f_42, f_43, f_44⟩ := idx_facts hx_3
  try simp only [List.length_replicate, List.length_set, List.length_append, List.length_cons, List.length_nil, List.length_map, List.length_take, List.length_drop, copyL_len] at f_42 f_43
  have hs_5 : (List.map eB (List.replicate l.Names.length false)).set a.toNat [.bool true] = List.map eB ((List.replicate l.Names.length false).set a.toNat true) := by simp [go_sem, List.map_set]
  obtain ⟨e_10, he_10, h⟩ := bind_inv h
  try simp -implicitDefEqProofs only [go_sem, simprocAttr, hn_1, hz_2, f_41, f_42, f_43, f_44, hs_5]
  repeat (first | (with_reducible refine imp_i fun _ => ?_) | (with_reducible refine and_a ?_))
  refine purge_to [2, 5, 6] 3 ((fun (s__ : (List Bool) × (List Int)) (a__ : Nat × (List Int)) => match s__, a__ with | (out_6, todo_8), (v_7, pre_9) => ⟨[(2, .one (.ref 0 0 0 0)), (5, .one (.msl 1 0 0 out_6.length)), (6, .one (.msl 2 v_7 pre_9.length (pre_9.length + todo_8.length)))], [.cells 0 2 [[.sl (l.Names.map eS), .sl (l.Below.map (eA2 eI))]], .cells 0 1 (out_6.map eB), .cells v_7 1 ((pre_9 ++ todo_8).map eI)]⟩) (((List.replicate l.Names.length false).set a.toNat true), [a]) (0, ([] : List Int))) (by simp) (by simp [go_sem]) (by simp [go_sem]) (by simp [go_sem, copyL, List.map_set, hn_1, f_41, f_42, f_43, f_44] <;> omega) ?_
  refine loop_X (f := lattice_above_L1 l) (s0 := (((List.replicate l.Names.length false).set a.toNat true), [a])) (fun (s__ : (List Bool) × (List Int)) (a__ : Nat × (List Int)) => match s__, a__ with | (out_6, todo_8), (v_7, pre_9) => ⟨[(2, .one (.ref 0 0 0 0)), (5, .one (.msl 1 0 0 out_6.length)), (6, .one (.msl 2 v_7 pre_9.length (pre_9.length + todo_8.length)))], [.cells 0 2 [[.sl (l.Names.map eS), .sl (l.Below.map (eA2 eI))]], .cells 0 1 (out_6.map eB), .cells v_7 1 ((pre_9 ++ todo_8).map eI)]⟩) (fun (e__ : (List Bool) × (List Int)) (b__ : Nat × (List Int)) => match e__, b__ with | (out_53, todo_54), (v_55, pre_56) => ⟨[(5, .one (.msl 1 0 0 out_53.length))], [.cells 0 2 [[.sl (l.Names.map eS), .sl (l.Below.map (eA2 eI))]], .cells 0 1 (out_53.map eB), .cells v_55 1 ((pre_56 ++ todo_54).map eI)]⟩) (fun (_ : (List Bool) × (List Int)) => some 0) (0, ([] : List Int)) he_10 ?_ ?_
  · intro i11 b11 hi11
    obtain rfl := Option.some.inj hi11
    obtain ⟨out_53, todo_54⟩ := e_10
    obtain ⟨v_55, pre_56⟩ := b11
    dsimp only at h ⊢
    obtain rfl := Option.some.inj h
    try simp -implicitDefEqProofs only [go_sem, simprocAttr, hn_1, hz_2, f_41, f_42, f_43, f_44, hs_5]
    all_goals (repeat (first | (with_reducible refine imp_i fun _ => ?_) | (with_reducible refine and_a ?_)))
    all_goals (try simp [go_sem, hn_1, f_41, f_42, f_43, f_44])
  · intro af11 m11 s11 a11 o11 hf11 ho11 ih11
    obtain ⟨out_6, todo_8⟩ := s11
    obtain ⟨v_7, pre_9⟩ := a11
    dsimp only [lattice_above_L1] at hf11 ⊢ ih11
    try simp -implicitDefEqProofs only [go_sem, simprocAttr, hn_1, hz_2, f_41, f_42, f_43, f_44, hs_5]
    repeat (first | (with_reducible refine imp_i fun _ => ?_) | (with_reducible refine and_a ?_))
    by_cases hc_12 : 0 < (todo_8.length : Int)
    · replace hf11 := if_t hc_12 hf11
      have hq_13 := eq_true hc_12
      obtain ⟨x_14, hx_14, hf11⟩ := bind_inv hf11
      obtain ⟨f_151, f_152, f_153, f_154⟩ := nat_facts hx_14
      have hp_16 : (pre_9 ++ todo_8)[pre_9.length]? = some x_14 := q_get f_154
      have hp_17 : pre_9.length < (pre_9 ++ todo_8).length := q_lt f_154
      obtain ⟨hn_18, hf11⟩ := need_inv hf11
      have hd_19 : List.drop (pre_9.length + 1) (List.map eI (pre_9 ++ todo_8)) = List.map eI (todo_8.drop 1) := q_drop _ _ _ _
      obtain ⟨e_25, he_25, hf11⟩ := bind_inv hf11
      try simp -implicitDefEqProofs only [go_sem, simprocAttr, hn_1, hz_2, f_41, f_42, f_43, f_44, hs_5, hq_13, f_151, f_152, f_153, f_154, hp_16, hp_17, hn_18, hd_19]
      repeat (first | (with_reducible refine imp_i fun _ => ?_) | (with_reducible refine and_a ?_))
      refine purge_to [2, 5, 6, 7, 28, 29, 30] 3 ((fun (s__ : (List Bool) × (List Int) × Nat) (a__ : Nat × (List Int)) => match s__, a__ with | (out_20, todo_22, x_24), (v_21, pre_23) => ⟨[(2, .one (.ref 0 0 0 0)), (5, .one (.msl 1 0 0 out_20.length)), (6, .one (.msl 2 v_21 pre_23.length (pre_23.length + todo_22.length))), (7, .one (.int .i64 x_14)), (28, .one (.sl (l.Below.map (eA2 eI)))), (29, .one (.int .i64 (l.Below.length : Int))), (30, .one (.int .i64 (x_24 : Int)))], [.cells 0 2 [[.sl (l.Names.map eS), .sl (l.Below.map (eA2 eI))]], .cells 0 1 (out_20.map eB), .cells v_21 1 ((pre_23 ++ todo_22).map eI)]⟩) (out_6, (todo_8.drop 1), 0) (v_7, (pre_9 ++ todo_8.take 1))) (by simp) (by simp [go_sem]) (by simp [go_sem]) (by simp [go_sem, copyL, List.map_set, hn_1, f_41, f_42, f_43, f_44, hq_13, f_151, f_152, f_153, f_154, hn_18] <;> omega) ?_
      refine loop_X (f := lattice_above_L2 l x_14) (s0 := (out_6, (todo_8.drop 1), 0)) (fun (s__ : (List Bool) × (List Int) × Nat) (a__ : Nat × (List Int)) => match s__, a__ with | (out_20, todo_22, x_24), (v_21, pre_23) => ⟨[(2, .one (.ref 0 0 0 0)), (5, .one (.msl 1 0 0 out_20.length)), (6, .one (.msl 2 v_21 pre_23.length (pre_23.length + todo_22.length))), (7, .one (.int .i64 x_14)), (28, .one (.sl (l.Below.map (eA2 eI)))), (29, .one (.int .i64 (l.Below.length : Int))), (30, .one (.int .i64 (x_24 : Int)))], [.cells 0 2 [[.sl (l.Names.map eS), .sl (l.Below.map (eA2 eI))]], .cells 0 1 (out_20.map eB), .cells v_21 1 ((pre_23 ++ todo_22).map eI)]⟩) (fun (e__ : (List Bool) × (List Int)) (b__ : Nat × (List Int)) => match e__, b__ with | (out_48, todo_49), (v_50, pre_51) => ⟨[(2, .one (.ref 0 0 0 0)), (5, .one (.msl 1 0 0 out_48.length)), (6, .one (.msl 2 v_50 pre_51.length (pre_51.length + todo_49.length)))], [.cells 0 2 [[.sl (l.Names.map eS), .sl (l.Below.map (eA2 eI))]], .cells 0 1 (out_48.map eB), .cells v_50 1 ((pre_51 ++ todo_49).map eI)]⟩) (fun (_ : (List Bool) × (List Int)) => some 2) (v_7, (pre_9 ++ todo_8.take 1)) he_25 ?_ ?_
      · intro i26 b26 hi26
        obtain rfl := Option.some.inj hi26
        obtain ⟨out_48, todo_49⟩ := e_25
        obtain ⟨v_50, pre_51⟩ := b26
        dsimp only at hf11 ⊢
        obtain rfl := Option.some.inj hf11
        try simp -implicitDefEqProofs only [go_sem, simprocAttr, hn_1, hz_2, f_41, f_42, f_43, f_44, hs_5, hq_13, f_151, f_152, f_153, f_154, hp_16, hp_17, hn_18, hd_19]
        repeat (first | (with_reducible refine imp_i fun _ => ?_) | (with_reducible refine and_a ?_))
        refine purge_P [2, 5, 6] 3 ((fun (s__ : (List Bool) × (List Int)) (a__ : Nat × (List Int)) => match s__, a__ with | (out_6, todo_8), (v_7, pre_9) => ⟨[(2, .one (.ref 0 0 0 0)), (5, .one (.msl 1 0 0 out_6.length)), (6, .one (.msl 2 v_7 pre_9.length (pre_9.length + todo_8.length)))], [.cells 0 2 [[.sl (l.Names.map eS), .sl (l.Below.map (eA2 eI))]], .cells 0 1 (out_6.map eB), .cells v_7 1 ((pre_9 ++ todo_8).map eI)]⟩) (out_48, todo_49) (v_50, pre_51)) (by simp) (by simp [go_sem]) (by simp [go_sem]) (by simp [go_sem, copyL, List.map_set, hn_1, f_41, f_42, f_43, f_44, hq_13, f_151, f_152, f_153, f_154, hn_18] <;> omega) ?_
        exact ih11 (out_48, todo_49) (v_50, pre_51) ho11
      · intro af26 m26 s26 a26 o26 hf26 ho26 ih26
        obtain ⟨out_20, todo_22, x_24⟩ := s26
        obtain ⟨v_21, pre_23⟩ := a26
        dsimp only [lattice_above_L2] at hf26 ⊢ ih26
        try simp -implicitDefEqProofs only [go_sem, simprocAttr, hn_1, hz_2, f_41, f_42, f_43, f_44, hs_5, hq_13, f_151, f_152, f_153, f_154, hp_16, hp_17, hn_18, hd_19]
        repeat (first | (with_reducible refine imp_i fun _ => ?_) | (with_reducible refine and_a ?_))
        by_cases hc_27 : (x_24 : Int) < (l.Below.length : Int)
        · replace hf26 := if_t hc_27 hf26
          have hq_28 := eq_true hc_27
          have hn_29 : x_24 < l.Below.length := by omega
          obtain ⟨x_30, hx_30, hf26⟩ := bind_inv hf26
          obtain ⟨f_311, f_312, f_313, f_314⟩ := nat_facts hx_30
          try simp -implicitDefEqProofs only [go_sem, simprocAttr, hn_1, hz_2, f_41, f_42, f_43, f_44, hs_5, hq_13, f_151, f_152, f_153, f_154, hp_16, hp_17, hn_18, hd_19, hq_28, hn_29, f_311, f_312, f_313, f_314]
          repeat (first | (with_reducible refine imp_i fun _ => ?_) | (with_reducible refine and_a ?_))
          by_cases hc_32 : x_30.a0 = x_14
          · replace hf26 := if_t hc_32 hf26
            have hq_33 := eq_true hc_32
            obtain ⟨r_34, hr_34, hf26⟩ := bind_inv hf26
            try simp -implicitDefEqProofs only [go_sem, simprocAttr, hn_1, hz_2, f_41, f_42, f_43, f_44, hs_5, hq_13, f_151, f_152, f_153, f_154, hp_16, hp_17, hn_18, hd_19, hq_28, hn_29, f_311, f_312, f_313, f_314, hq_33]
            repeat (first | (with_reducible refine imp_i fun _ => ?_) | (with_reducible refine and_a ?_))
            refine call_S (lattice_is_ok hr_34) (by simp [go_sem, hn_1, f_41, f_42, f_43, f_44, hq_13, f_151, f_152, f_153, f_154, hn_18, hq_28, hn_29, f_311, f_312, f_313, f_314, hq_33]) (by simp [go_sem]) (by simp [go_sem]) (by simp [go_sem]) ?_
            try simp -implicitDefEqProofs only [go_sem, simprocAttr, hn_1, hz_2, f_41, f_42, f_43, f_44, hs_5, hq_13, f_151, f_152, f_153, f_154, hp_16, hp_17, hn_18, hd_19, hq_28, hn_29, f_311, f_312, f_313, f_314, hq_33]
            repeat (first | (with_reducible refine imp_i fun _ => ?_) | (with_reducible refine and_a ?_))
            by_cases hc_35 : r_34 = true
            · replace hf26 := if_t hc_35 hf26
              obtain ⟨x_36, hx_36, hf26⟩ := bind_inv hf26
              obtain ⟨f_371, f_372, f_373, f_374⟩ := idx_facts hx_36
              try simp -implicitDefEqProofs only [go_sem, simprocAttr, hn_1, hz_2, f_41, f_42, f_43, f_44, hs_5, hq_13, f_151, f_152, f_153, f_154, hp_16, hp_17, hn_18, hd_19, hq_28, hn_29, f_311, f_312, f_313, f_314, hq_33, hc_35, f_371, f_372, f_373, f_374]
              repeat (first | (with_reducible refine imp_i fun _ => ?_) | (with_reducible refine and_a ?_))
              by_cases hc_38 : x_36 = true
              · replace hf26 := if_t hc_38 hf26
                obtain rfl := Option.some.inj hf26
                try simp -implicitDefEqProofs only [go_sem, simprocAttr, hn_1, hz_2, f_41, f_42, f_43, f_44, hs_5, hq_13, f_151, f_152, f_153, f_154, hp_16, hp_17, hn_18, hd_19, hq_28, hn_29, f_311, f_312, f_313, f_314, hq_33, hc_35, f_371, f_372, f_373, f_374, hc_38]
                repeat (first | (with_reducible refine imp_i fun _ => ?_) | (with_reducible refine and_a ?_))
                have hw_39 := wrap_nat (k := x_24) (by omega)
                refine purge_P [2, 5, 6, 7, 28, 29, 30] 3 ((fun (s__ : (List Bool) × (List Int) × Nat) (a__ : Nat × (List Int)) => match s__, a__ with | (out_20, todo_22, x_24), (v_21, pre_23) => ⟨[(2, .one (.ref 0 0 0 0)), (5, .one (.msl 1 0 0 out_20.length)), (6, .one (.msl 2 v_21 pre_23.length (pre_23.length + todo_22.length))), (7, .one (.int .i64 x_14)), (28, .one (.sl (l.Below.map (eA2 eI)))), (29, .one (.int .i64 (l.Below.length : Int))), (30, .one (.int .i64 (x_24 : Int)))], [.cells 0 2 [[.sl (l.Names.map eS), .sl (l.Below.map (eA2 eI))]], .cells 0 1 (out_20.map eB), .cells v_21 1 ((pre_23 ++ todo_22).map eI)]⟩) (out_20, todo_22, (x_24 + 1)) (v_21, pre_23)) (by simp) (by simp [go_sem]) (by simp [go_sem]) (by simp [go_sem, copyL, List.map_set, hn_1, f_41, f_42, f_43, f_44, hq_13, f_151, f_152, f_153, f_154, hn_18, hq_28, hn_29, f_311, f_312, f_313, f_314, hq_33, hc_35, f_371, f_372, f_373, f_374, hc_38, hw_39] <;> omega) ?_
                exact ih26 (out_20, todo_22, (x_24 + 1)) (v_21, pre_23) ho26
              · replace hf26 := if_f hc_38 hf26
                have hc_38 := nt_ hc_38
                have hs_40 : (List.map eB out_20).set x_30.a1.toNat [.bool true] = List.map eB (out_20.set x_30.a1.toNat true) := by simp [go_sem, List.map_set]
                obtain ⟨hn_41, hf26⟩ := need_inv hf26
                obtain rfl := Option.some.inj hf26
                try simp -implicitDefEqProofs only [go_sem, simprocAttr, hn_1, hz_2, f_41, f_42, f_43, f_44, hs_5, hq_13, f_151, f_152, f_153, f_154, hp_16, hp_17, hn_18, hd_19, hq_28, hn_29, f_311, f_312, f_313, f_314, hq_33, hc_35, f_371, f_372, f_373, f_374, hc_38, hs_40, hn_41]
                repeat (first | (with_reducible refine imp_i fun _ => ?_) | (with_reducible refine and_a ?_))
                have hw_42 := wrap_nat (k := x_24) (by omega)
                refine purge_P [2, 5, 6, 7, 28, 29, 30] 3 ((fun (s__ : (List Bool) × (List Int) × Nat) (a__ : Nat × (List Int)) => match s__, a__ with | (out_20, todo_22, x_24), (v_21, pre_23) => ⟨[(2, .one (.ref 0 0 0 0)), (5, .one (.msl 1 0 0 out_20.length)), (6, .one (.msl 2 v_21 pre_23.length (pre_23.length + todo_22.length))), (7, .one (.int .i64 x_14)), (28, .one (.sl (l.Below.map (eA2 eI)))), (29, .one (.int .i64 (l.Below.length : Int))), (30, .one (.int .i64 (x_24 : Int)))], [.cells 0 2 [[.sl (l.Names.map eS), .sl (l.Below.map (eA2 eI))]], .cells 0 1 (out_20.map eB), .cells v_21 1 ((pre_23 ++ todo_22).map eI)]⟩) ((out_20.set x_30.a1.toNat true), (todo_22 ++ [x_30.a1]), (x_24 + 1)) ((v_21 + 1), [])) (by simp) (by simp [go_sem]) (by simp [go_sem]) (by simp [go_sem, copyL, List.map_set, hn_1, f_41, f_42, f_43, f_44, hq_13, f_151, f_152, f_153, f_154, hn_18, hq_28, hn_29, f_311, f_312, f_313, f_314, hq_33, hc_35, f_371, f_372, f_373, f_374, hc_38, hn_41, hw_42] <;> omega) ?_
                exact ih26 ((out_20.set x_30.a1.toNat true), (todo_22 ++ [x_30.a1]), (x_24 + 1)) ((v_21 + 1), []) ho26
            · replace hf26 := if_f hc_35 hf26
              have hc_35 := nt_ hc_35
              obtain rfl := Option.some.inj hf26
              try simp -implicitDefEqProofs only [go_sem, simprocAttr, hn_1, hz_2, f_41, f_42, f_43, f_44, hs_5, hq_13, f_151, f_152, f_153, f_154, hp_16, hp_17, hn_18, hd_19, hq_28, hn_29, f_311, f_312, f_313, f_314, hq_33, hc_35]
              repeat (first | (with_reducible refine imp_i fun _ => ?_) | (with_reducible refine and_a ?_))
              have hw_43 := wrap_nat (k := x_24) (by omega)
              refine purge_P [2, 5, 6, 7, 28, 29, 30] 3 ((fun (s__ : (List Bool) × (List Int) × Nat) (a__ : Nat × (List Int)) => match s__, a__ with | (out_20, todo_22, x_24), (v_21, pre_23) => ⟨[(2, .one (.ref 0 0 0 0)), (5, .one (.msl 1 0 0 out_20.length)), (6, .one (.msl 2 v_21 pre_23.length (pre_23.length + todo_22.length))), (7, .one (.int .i64 x_14)), (28, .one (.sl (l.Below.map (eA2 eI)))), (29, .one (.int .i64 (l.Below.length : Int))), (30, .one (.int .i64 (x_24 : Int)))], [.cells 0 2 [[.sl (l.Names.map eS), .sl (l.Below.map (eA2 eI))]], .cells 0 1 (out_20.map eB), .cells v_21 1 ((pre_23 ++ todo_22).map eI)]⟩) (out_20, todo_22, (x_24 + 1)) (v_21, pre_23)) (by simp) (by simp [go_sem]) (by simp [go_sem]) (by simp [go_sem, copyL, List.map_set, hn_1, f_41, f_42, f_43, f_44, hq_13, f_151, f_152, f_153, f_154, hn_18, hq_28, hn_29, f_311, f_312, f_313, f_314, hq_33, hc_35, hw_43] <;> omega) ?_
              exact ih26 (out_20, todo_22, (x_24 + 1)) (v_21, pre_23) ho26
          · replace hf26 := if_f hc_32 hf26
            have hq_44 := eq_false hc_32
            obtain rfl := Option.some.inj hf26
            try simp -implicitDefEqProofs only [go_sem, simprocAttr, hn_1, hz_2, f_41, f_42, f_43, f_44, hs_5, hq_13, f_151, f_152, f_153, f_154, hp_16, hp_17, hn_18, hd_19, hq_28, hn_29, f_311, f_312, f_313, f_314, hq_44]
            repeat (first | (with_reducible refine imp_i fun _ => ?_) | (with_reducible refine and_a ?_))
            have hw_45 := wrap_nat (k := x_24) (by omega)
            refine purge_P [2, 5, 6, 7, 28, 29, 30] 3 ((fun (s__ : (List Bool) × (List Int) × Nat) (a__ : Nat × (List Int)) => match s__, a__ with | (out_20, todo_22, x_24), (v_21, pre_23) => ⟨[(2, .one (.ref 0 0 0 0)), (5, .one (.msl 1 0 0 out_20.length)), (6, .one (.msl 2 v_21 pre_23.length (pre_23.length + todo_22.length))), (7, .one (.int .i64 x_14)), (28, .one (.sl (l.Below.map (eA2 eI)))), (29, .one (.int .i64 (l.Below.length : Int))), (30, .one (.int .i64 (x_24 : Int)))], [.cells 0 2 [[.sl (l.Names.map eS), .sl (l.Below.map (eA2 eI))]], .cells 0 1 (out_20.map eB), .cells v_21 1 ((pre_23 ++ todo_22).map eI)]⟩) (out_20, todo_22, (x_24 + 1)) (v_21, pre_23)) (by simp) (by simp [go_sem]) (by simp [go_sem]) (by simp [go_sem, copyL, List.map_set, hn_1, f_41, f_42, f_43, f_44, hq_13, f_151, f_152, f_153, f_154, hn_18, hq_28, hn_29, f_311, f_312, f_313, f_314, hq_44, hw_45] <;> omega) ?_
            exact ih26 (out_20, todo_22, (x_24 + 1)) (v_21, pre_23) ho26
        · replace hf26 := if_f hc_27 hf26
          have hq_46 := eq_false hc_27
          have hn_47 : ¬ x_24 < l.Below.length := by omega
          obtain rfl := Option.some.inj hf26
          obtain rfl := Option.some.inj ho26
          try simp -implicitDefEqProofs only [go_sem, simprocAttr, hn_1, hz_2, f_41, f_42, f_43, f_44, hs_5, hq_13, f_151, f_152, f_153, f_154, hp_16, hp_17, hn_18, hd_19, hq_46, hn_47]
          repeat (first | (with_reducible refine imp_i fun _ => ?_) | (with_reducible refine and_a ?_))
          refine purge_E [2, 5, 6] 3 ((fun (e__ : (List Bool) × (List Int)) (b__ : Nat × (List Int)) => match e__, b__ with | (out_48, todo_49), (v_50, pre_51) => ⟨[(2, .one (.ref 0 0 0 0)), (5, .one (.msl 1 0 0 out_48.length)), (6, .one (.msl 2 v_50 pre_51.length (pre_51.length + todo_49.length)))], [.cells 0 2 [[.sl (l.Names.map eS), .sl (l.Below.map (eA2 eI))]], .cells 0 1 (out_48.map eB), .cells v_50 1 ((pre_51 ++ todo_49).map eI)]⟩) (out_20, todo_22) (v_21, pre_23)) (by simp) (by simp [go_sem]) (by simp [go_sem]) (by simp [go_sem, copyL, List.map_set, hn_1, f_41, f_42, f_43, f_44, hq_13, f_151, f_152, f_153, f_154, hn_18, hq_46, hn_47] <;> omega) ?_
          exact af26 _ (v_21, pre_23) rfl
    · replace hf11 := if_f hc_12 hf11
      have hq_52 := eq_false hc_12
      obtain rfl := Option.some.inj hf11
      obtain rfl := Option.some.inj ho11
      try simp -implicitDefEqProofs only [go_sem, simprocAttr, hn_1, hz_2, f_41, f_42, f_43, f_44, hs_5, hq_52]
      repeat (first | (with_reducible refine imp_i fun _ => ?_) | (with_reducible refine and_a ?_))
      refine purge_E [5] 3 ((fun (e__ : (List Bool) × (List Int)) (b__ : Nat × (List Int)) => match e__, b__ with | (out_53, todo_54), (v_55, pre_56) => ⟨[(5, .one (.msl 1 0 0 out_53.length))], [.cells 0 2 [[.sl (l.Names.map eS), .sl (l.Below.map (eA2 eI))]], .cells 0 1 (out_53.map eB), .cells v_55 1 ((pre_56 ++ todo_54).map eI)]⟩) (out_6, todo_8) (v_7, pre_9)) (by simp) (by simp [go_sem]) (by simp [go_sem]) (by simp [go_sem, copyL, List.map_set, hn_1, f_41, f_42, f_43, f_44, hq_52] <;> omega) ?_
      exact af11 _ (v_7, pre_9) rfl
set_option maxRecDepth 100000 in
theorem lattice_Leq_ok {l : api_Lattice} {a : Int} {b : Int} {r : Bool} (h : lattice_Leq l a b = some r) :
    Pu Try.prog 34 [.agg (e_api_Lattice l), .one (.int .i64 a), .one (.int .i64 b)] (.one (.bool r)) := by
  refine pu_of_awp Try.func34 rfl (by kernel_rfl) (by kernel_rfl) (awp_of_S ?_)
  simp only [Try.f34]
  unfold lattice_Leq at h
  obtain ⟨r_1, hr_1, h⟩ := bind_inv h
  try simp -implicitDefEqProofs only [go_sem, simprocAttr]
  repeat (first | (with_reducible refine imp_i fun _ => ?_) | (with_reducible refine and_a ?_))
  refine call_S (lattice_is_ok hr_1) (by simp [go_sem]) (by simp [go_sem]) (by simp [go_sem]) (by simp [go_sem]) ?_
  try simp -implicitDefEqProofs only [go_sem, simprocAttr]
  repeat (first | (with_reducible refine imp_i fun _ => ?_) | (with_reducible refine and_a ?_))
  by_cases hc_2 : r_1 = true
  · replace h := if_t hc_2 h
    obtain ⟨r_3, hr_3, h⟩ := bind_inv h
    try simp -implicitDefEqProofs only [go_sem, simprocAttr, hc_2]
    repeat (first | (with_reducible refine imp_i fun _ => ?_) | (with_reducible refine and_a ?_))
    refine call_S (lattice_is_ok hr_3) (by simp [go_sem, hc_2]) (by simp [go_sem]) (by simp [go_sem]) (by simp [go_sem]) ?_
    try simp -implicitDefEqProofs only [go_sem, simprocAttr, hc_2]
    repeat (first | (with_reducible refine imp_i fun _ => ?_) | (with_reducible refine and_a ?_))
    by_cases hc_4 : r_3 = true
    · replace h := if_t hc_4 h
      obtain ⟨r_5, hr_5, h⟩ := bind_inv h
      try simp -implicitDefEqProofs only [go_sem, simprocAttr, hc_2, hc_4]
      repeat (first | (with_reducible refine imp_i fun _ => ?_) | (with_reducible refine and_a ?_))
      refine call_S (lattice_above_ok hr_5) (by simp [go_sem, hc_2, hc_4]) (by simp [go_sem]) (by simp [go_sem]) (by simp [go_sem]) ?_
      obtain ⟨x_6, hx_6, h⟩ := bind_inv h
      obtain ⟨f_71, f_72, f_73, f_74⟩ := idx_facts hx_6
      obtain rfl := Option.some.inj h
      try simp -implicitDefEqProofs only [go_sem, simprocAttr, hc_2, hc_4, f_71, f_72, f_73, f_74]
      all_goals (repeat (first | (with_reducible refine imp_i fun _ => ?_) | (with_reducible refine and_a ?_)))
      all_goals (try simp [go_sem, hc_2, hc_4, f_71, f_72, f_73, f_74])
    · replace h := if_f hc_4 h
      have hc_4 := nt_ hc_4
      obtain rfl := Option.some.inj h
      try simp -implicitDefEqProofs only [go_sem, simprocAttr, hc_2, hc_4]
      all_goals (repeat (first | (with_reducible refine imp_i fun _ => ?_) | (with_reducible refine and_a ?_)))
      all_goals (try simp [go_sem, hc_2, hc_4])
  · replace h := if_f hc_2 h
    have hc_2 := nt_ hc_2
    obtain rfl := Option.some.inj h
    try simp -implicitDefEqProofs only [go_sem, simprocAttr, hc_2]
    all_goals (repeat (first | (with_reducible refine imp_i fun _ => ?_) | (with_reducible refine and_a ?_)))
    all_goals (try simp [go_sem, hc_2])
end Go.Lz
