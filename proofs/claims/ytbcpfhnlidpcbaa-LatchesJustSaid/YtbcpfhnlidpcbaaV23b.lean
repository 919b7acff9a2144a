/- V23b -/
import Derived.Test.YtbcpfhnlidpcbaaV23
import Derived.Test.YtbcpfhnlidpcbaaV01b
namespace Go.Lz
set_option linter.unusedVariables false
set_option linter.unusedSimpArgs false
open Go.Proofs
attribute [-go_sem] q_cond g_b gd_b
set_option maxRecDepth 100000
noncomputable section
def lazarettolaw18_Few_L3 (m : api_Image) : (Int × Nat) → Option ((Int × Nat) ⊕ (Int))
  | (n_13, i_14) => if (i_14 : Int) < (m.Code.length : Int) then (if n_13 < 40000 then ((m.Code[i_14]?).bind fun x_17 => some (.inl ((w64 (n_13 + (x_17.length : Int))), (i_14 + 1)))) else (some (.inr (n_13)))) else (some (.inr (n_13)))
def lazarettolaw18_Few_L2 (m : api_Image) : (Int × Nat) → Option ((Int × Nat) ⊕ (Int))
  | (n_7, i_8) => if (i_8 : Int) < (m.Tasks.length : Int) then (if n_7 < 40000 then ((m.Tasks[i_8]?).bind fun x_11 => some (.inl ((w64 (n_7 + (x_11.Budget.length : Int))), (i_8 + 1)))) else (some (.inr (n_7)))) else (some (.inr (n_7)))
def lazarettolaw18_Few_L1 (m : api_Image) : (Int × Nat) → Option ((Int × Nat) ⊕ (Int))
  | (n_1, i_2) => if (i_2 : Int) < (m.Lattice.Names.length : Int) then (if n_1 < 40000 then ((m.Lattice.Names[i_2]?).bind fun x_5 => some (.inl ((w64 (n_1 + (x_5.length : Int))), (i_2 + 1)))) else (some (.inr (n_1)))) else (some (.inr (n_1)))
def lazarettolaw18_Few (m : api_Image) : Option Int :=
  if 50 < (m.Lattice.Names.length : Int) then (some 0) else (if 200 < (m.Lattice.Below.length : Int) then (some 0) else (if 200 < (m.Sites.length : Int) then (some 0) else (if 500 < (m.Vars.length : Int) then (some 0) else (if 200 < (m.Blocks.length : Int) then (some 0) else (if 50 < (m.Tasks.length : Int) then (some 0) else (if 50 < (m.Code.length : Int) then (some 0) else ((loop (lazarettolaw18_Few_L1 m) (0, 0)).bind (fun e_3 => (loop (lazarettolaw18_Few_L2 m) (e_3, 0)).bind (fun e_9 => (loop (lazarettolaw18_Few_L3 m) (e_9, 0)).bind (fun e_15 => if e_15 < 40000 then (some 1) else (some 0)))))))))))
def lazarettoref18_caps_L2 (m : api_Image) : Nat → Option ((Nat) ⊕ (Bool ⊕ Unit))
  | i_6 => if (i_6 : Int) < (m.Code.length : Int) then ((m.Code[i_6]?).bind fun x_9 => if 32768 < (x_9.length : Int) then (some (.inr (.inl (false)))) else (some (.inl (i_6 + 1)))) else (some (.inr (.inr (()))))
def lazarettoref18_caps_L1 (m : api_Image) : Nat → Option ((Nat) ⊕ (Bool ⊕ Unit))
  | i_1 => if (i_1 : Int) < (m.Lattice.Names.length : Int) then ((m.Lattice.Names[i_1]?).bind fun x_4 => if 32 < (x_4.length : Int) then (some (.inr (.inl (false)))) else (some (.inl (i_1 + 1)))) else (some (.inr (.inr (()))))
def lazarettoref18_caps (m : api_Image) : Option Bool :=
  if 8 < (m.Lattice.Names.length : Int) then (some false) else (if 8 < (m.Sites.length : Int) then (some false) else (if 12 < (m.Blocks.length : Int) then (some false) else (if 4 < (m.Tasks.length : Int) then (some false) else (if 96 < (m.Vars.length : Int) then (some false) else (if 64 < (m.Lattice.Below.length : Int) then (some false) else ((loop (lazarettoref18_caps_L1 m) 0).bind (fun e__ => match e__ with | (.inl e_5) => some e_5 | (.inr ()) => (loop (lazarettoref18_caps_L2 m) 0).bind (fun e__ => match e__ with | (.inl e_10) => some e_10 | (.inr ()) => some true))))))))
def lazarettoref03_Bits (kind : Int) : Option Int :=
  if kind = 1 then (some 1) else (if kind = 2 then (some 16) else (if kind = 3 then (some 32) else (if kind = 4 then (some 32) else (some 0))))
def lazarettoref04_Check (t : api_Type) : Option Int :=
  (lazarettoref03_Bits t.Kind).bind fun r_1 => if r_1 = 0 then (some 6) else (if t.Len < 0 then (some 6) else (if 32 < t.Len then (some 6) else (if t.Len = 0 then (if t.Low = 0 then (if t.Low < (-32768) then (some 6) else (if 32767 < t.Low then (some 6) else (some 0))) else (some 6)) else (if t.Low < (-32768) then (some 6) else (if 32767 < t.Low then (some 6) else (some 0))))))
def lazarettoref03_half (kind : Int) : Option Int :=
  if kind = 2 then (some 32768) else (some 2147483648)
def lazarettoref03_Valid (kind : Int) (n : Int) : Option Bool :=
  if kind = 1 then (if n = 0 then (some true) else (some (decide (n = 1)))) else ((lazarettoref03_Bits kind).bind fun r_1 => if 0 < r_1 then ((lazarettoref03_half kind).bind fun r_2 => if (w64 (0 - r_2)) ≤ n then ((lazarettoref03_half kind).bind fun r_3 => some (decide (n < r_3))) else (some false)) else (some false))
def lazarettoref18_variable (m : api_Image) (v : api_Var) : Option Bool :=
  if v.Name = [] then ((lazarettoref01_Is m.Lattice v.Label).bind fun r_1 => if r_1 = true then ((lazarettoref04_Check v.Type_).bind fun r_2 => if r_2 = 0 then (if v.Mode = 0 then (some (decide (v.Safe = 0))) else (if v.Type_.Len = 0 then (if v.Mode = 1 then (if v.Safe = 0 then (some true) else (if v.Mode = 2 then ((lazarettoref03_Valid v.Type_.Kind v.Safe).bind fun r_3 => some r_3) else (some false))) else (if v.Mode = 2 then ((lazarettoref03_Valid v.Type_.Kind v.Safe).bind fun r_4 => some r_4) else (some false))) else (some false))) else (some false)) else (some false)) else (some false)
def lazarettoref11_Inputs (kind : Str) : Option (List Int) :=
  if kind = ([84, 79, 78] : Str) then (some [1, 4]) else (if kind = ([84, 79, 70] : Str) then (some [1, 4]) else (if kind = ([84, 80] : Str) then (some [1, 4]) else (if kind = ([67, 84, 85] : Str) then (some [1, 1, 2]) else (if kind = ([67, 84, 68] : Str) then (some [1, 1, 2]) else (if kind = ([67, 84, 85, 68] : Str) then (some [1, 1, 1, 1, 2]) else (if kind = ([82, 95, 84, 82, 73, 71] : Str) then (some [1]) else (if kind = ([70, 95, 84, 82, 73, 71] : Str) then (some [1]) else (if kind = ([83, 82] : Str) then (some [1, 1]) else (if kind = ([82, 83] : Str) then (some [1, 1]) else (some []))))))))))
def lazarettoref18_task_L1 (t : api_Task) : Nat → Option ((Nat) ⊕ (Bool ⊕ Unit))
  | i_1 => if (i_1 : Int) < (t.Budget.length : Int) then ((t.Budget[i_1]?).bind fun x_4 => if x_4 < 0 then (some (.inr (.inl (false)))) else (if 4096 < x_4 then (some (.inr (.inl (false)))) else (some (.inl (i_1 + 1))))) else (some (.inr (.inr (()))))
def lazarettoref18_task (m : api_Image) (t : api_Task) : Option Bool :=
  if t.Every < 1 then (some false) else (if 65536 < t.Every then (some false) else (if t.Priority < 0 then (some false) else (if 255 < t.Priority then (some false) else (if (t.Budget.length : Int) = (m.Lattice.Names.length : Int) then (if 0 < (t.Body.length : Int) then (some false) else ((loop (lazarettoref18_task_L1 t) 0).bind (fun e__ => match e__ with | (.inl e_5) => some e_5 | (.inr ()) => some true))) else (some false)))))
def lazarettoref17_names (op : Int) : Option (Bool × Bool × Bool) :=
  if op = 1 then (some (true, true, false)) else (if op = 7 then (some (true, true, false)) else (if op = 2 then (some (true, false, false)) else (if op = 4 then (some (true, false, false)) else (if op = 8 then (some (true, false, false)) else (if op = 9 then (some (true, false, false)) else (if op = 3 then (some (true, false, true)) else (if op = 5 then (some (true, false, true)) else (if op = 6 then (some (true, true, true)) else (if op = 15 then (some (true, true, true)) else (if op = 10 then (some (false, false, true)) else (if op = 11 then (some (false, false, true)) else (if op = 14 then (some (false, false, true)) else (some (false, false, false))))))))))))))
def lazarettoref17_one (i : api_Ins) : Option Bool :=
  (lazarettoref17_names i.Op).bind fun r_1 => if r_1.1 = true then (if r_1.2.1 = true then (if r_1.2.2 = true then (if 1 ≤ i.Op then (if i.Op ≤ 16 then (if (-2147483648) ≤ i.A then (if i.A ≤ 2147483647 then (if 0 ≤ i.B_ then (if i.B_ ≤ 255 then (if 0 ≤ i.Label then (some (decide (i.Label ≤ 7))) else (some false)) else (some false)) else (some false)) else (some false)) else (some false)) else (some false)) else (some false)) else (if i.Label = 0 then (if 1 ≤ i.Op then (if i.Op ≤ 16 then (if (-2147483648) ≤ i.A then (if i.A ≤ 2147483647 then (if 0 ≤ i.B_ then (if i.B_ ≤ 255 then (if 0 ≤ i.Label then (some (decide (i.Label ≤ 7))) else (some false)) else (some false)) else (some false)) else (some false)) else (some false)) else (some false)) else (some false)) else (some false))) else (if i.B_ = 0 then (if r_1.2.2 = true then (if 1 ≤ i.Op then (if i.Op ≤ 16 then (if (-2147483648) ≤ i.A then (if i.A ≤ 2147483647 then (if 0 ≤ i.B_ then (if i.B_ ≤ 255 then (if 0 ≤ i.Label then (some (decide (i.Label ≤ 7))) else (some false)) else (some false)) else (some false)) else (some false)) else (some false)) else (some false)) else (some false)) else (if i.Label = 0 then (if 1 ≤ i.Op then (if i.Op ≤ 16 then (if (-2147483648) ≤ i.A then (if i.A ≤ 2147483647 then (if 0 ≤ i.B_ then (if i.B_ ≤ 255 then (if 0 ≤ i.Label then (some (decide (i.Label ≤ 7))) else (some false)) else (some false)) else (some false)) else (some false)) else (some false)) else (some false)) else (some false)) else (some false))) else (some false))) else (if i.A = 0 then (if r_1.2.1 = true then (if r_1.2.2 = true then (if 1 ≤ i.Op then (if i.Op ≤ 16 then (if (-2147483648) ≤ i.A then (if i.A ≤ 2147483647 then (if 0 ≤ i.B_ then (if i.B_ ≤ 255 then (if 0 ≤ i.Label then (some (decide (i.Label ≤ 7))) else (some false)) else (some false)) else (some false)) else (some false)) else (some false)) else (some false)) else (some false)) else (if i.Label = 0 then (if 1 ≤ i.Op then (if i.Op ≤ 16 then (if (-2147483648) ≤ i.A then (if i.A ≤ 2147483647 then (if 0 ≤ i.B_ then (if i.B_ ≤ 255 then (if 0 ≤ i.Label then (some (decide (i.Label ≤ 7))) else (some false)) else (some false)) else (some false)) else (some false)) else (some false)) else (some false)) else (some false)) else (some false))) else (if i.B_ = 0 then (if r_1.2.2 = true then (if 1 ≤ i.Op then (if i.Op ≤ 16 then (if (-2147483648) ≤ i.A then (if i.A ≤ 2147483647 then (if 0 ≤ i.B_ then (if i.B_ ≤ 255 then (if 0 ≤ i.Label then (some (decide (i.Label ≤ 7))) else (some false)) else (some false)) else (some false)) else (some false)) else (some false)) else (some false)) else (some false)) else (if i.Label = 0 then (if 1 ≤ i.Op then (if i.Op ≤ 16 then (if (-2147483648) ≤ i.A then (if i.A ≤ 2147483647 then (if 0 ≤ i.B_ then (if i.B_ ≤ 255 then (if 0 ≤ i.Label then (some (decide (i.Label ≤ 7))) else (some false)) else (some false)) else (some false)) else (some false)) else (some false)) else (some false)) else (some false)) else (some false))) else (some false))) else (some false))
def lazarettoref17_Check_L1 (l : List api_Ins) : Nat → Option ((Nat) ⊕ (Int ⊕ Unit))
  | i_1 => if (i_1 : Int) < (l.length : Int) then ((l[i_1]?).bind fun x_4 => (lazarettoref17_one x_4).bind fun r_5 => if r_5 = true then (some (.inl (i_1 + 1))) else (some (.inr (.inl (8))))) else (some (.inr (.inr (()))))
def lazarettoref17_Check (l : List api_Ins) : Option Int :=
  if 32768 < (l.length : Int) then (some 3) else ((loop (lazarettoref17_Check_L1 l) 0).bind (fun e__ => match e__ with | (.inl e_6) => some e_6 | (.inr ()) => some 0))
def lazarettoref18_parts_L4 (m : api_Image) : Nat → Option ((Nat) ⊕ (Bool ⊕ Unit))
  | i_21 => if (i_21 : Int) < (m.Tasks.length : Int) then ((m.Tasks[i_21]?).bind fun x_24 => (lazarettoref18_task m x_24).bind fun r_25 => if r_25 = true then ((m.Code[i_21]?).bind fun x_26 => (lazarettoref17_Check x_26).bind fun r_27 => if r_27 = 0 then (some (.inl (i_21 + 1))) else (some (.inr (.inl (false))))) else (some (.inr (.inl (false))))) else (some (.inr (.inr (()))))
def lazarettoref18_parts_L3 (m : api_Image) : Nat → Option ((Nat) ⊕ (Bool ⊕ Unit))
  | i_14 => if (i_14 : Int) < (m.Blocks.length : Int) then ((m.Blocks[i_14]?).bind fun x_17 => if x_17.Name = [] then ((lazarettoref01_Is m.Lattice x_17.Label).bind fun r_18 => if r_18 = true then ((lazarettoref11_Inputs x_17.Kind).bind fun r_19 => if (r_19.length : Int) = 0 then (some (.inr (.inl (false)))) else (some (.inl (i_14 + 1)))) else (some (.inr (.inl (false))))) else (some (.inr (.inl (false))))) else (some (.inr (.inr (()))))
def lazarettoref18_parts_L2 (m : api_Image) : Nat → Option ((Nat) ⊕ (Bool ⊕ Unit))
  | i_8 => if (i_8 : Int) < (m.Vars.length : Int) then ((m.Vars[i_8]?).bind fun x_11 => (lazarettoref18_variable m x_11).bind fun r_12 => if r_12 = true then (some (.inl (i_8 + 1))) else (some (.inr (.inl (false))))) else (some (.inr (.inr (()))))
def lazarettoref18_parts_L1 (m : api_Image) : Nat → Option ((Nat) ⊕ (Bool ⊕ Unit))
  | i_1 => if (i_1 : Int) < (m.Sites.length : Int) then ((m.Sites[i_1]?).bind fun x_4 => if x_4.Name = [] then ((lazarettoref01_Is m.Lattice x_4.From).bind fun r_5 => if r_5 = true then ((lazarettoref01_Is m.Lattice x_4.To).bind fun r_6 => if r_6 = true then (some (.inl (i_1 + 1))) else (some (.inr (.inl (false))))) else (some (.inr (.inl (false))))) else (some (.inr (.inl (false))))) else (some (.inr (.inr (()))))
def lazarettoref18_parts (m : api_Image) : Option Bool :=
  (loop (lazarettoref18_parts_L1 m) 0).bind (fun e__ => match e__ with | (.inl e_7) => some e_7 | (.inr ()) => (loop (lazarettoref18_parts_L2 m) 0).bind (fun e__ => match e__ with | (.inl e_13) => some e_13 | (.inr ()) => (loop (lazarettoref18_parts_L3 m) 0).bind (fun e__ => match e__ with | (.inl e_20) => some e_20 | (.inr ()) => if (m.Code.length : Int) = (m.Tasks.length : Int) then ((loop (lazarettoref18_parts_L4 m) 0).bind (fun e__ => match e__ with | (.inl e_28) => some e_28 | (.inr ()) => some true)) else (some false))))
def lazarettoref18_Check (m : api_Image) : Option Int :=
  (lazarettoref18_caps m).bind fun r_1 => if r_1 = true then ((lazarettoref01_Check m.Lattice).bind fun r_2 => if r_2 = 0 then ((lazarettoref18_parts m).bind fun r_3 => if r_3 = true then (some 0) else (some 8)) else (some r_2)) else (some 3)
def lazarettoref23_Forced_L1 (l : api_Lattice) (latches : List Int) (label : Int) : Nat → Option ((Nat) ⊕ (Bool ⊕ Unit))
  | i_1 => if (i_1 : Int) < (latches.length : Int) then ((latches[i_1]?).bind fun x_4 => if x_4 = 0 then (some (.inl (i_1 + 1))) else ((lazarettoref01_Leq l (i_1 : Int) label).bind fun r_5 => if r_5 = true then (some (.inr (.inl (true)))) else (some (.inl (i_1 + 1))))) else (some (.inr (.inr (()))))
def lazarettoref23_Forced (l : api_Lattice) (latches : List Int) (label : Int) : Option Bool :=
  (loop (lazarettoref23_Forced_L1 l latches label) 0).bind (fun e__ => match e__ with | (.inl e_6) => some e_6 | (.inr ()) => some false)
def lazarettoref23_Outputs_L1 (m : api_Image) (mem : api_Memory) (latches : List Int) : ((List Int) × Nat) → Option (((List Int) × Nat) ⊕ (List Int))
  | (out_2, i_4) => if (i_4 : Int) < (m.Vars.length : Int) then ((m.Vars[i_4]?).bind fun x_7 => if x_7.Mode = 2 then (if (i_4 : Int) < (mem.Cells.length : Int) then ((mem.Cells[i_4]?).bind fun x_8 => if 0 < (x_8.length : Int) then ((x_8[0]?).bind fun x_9 => (lazarettoref23_Forced m.Lattice latches x_7.Label).bind fun r_10 => if r_10 = true then (need ((out_2.length + 1) * 8 ≤ 140737488355328) (some (.inl ((out_2 ++ [x_7.Safe]), (i_4 + 1))))) else (need ((out_2.length + 1) * 8 ≤ 140737488355328) (some (.inl ((out_2 ++ [x_9]), (i_4 + 1)))))) else ((lazarettoref23_Forced m.Lattice latches x_7.Label).bind fun r_13 => if r_13 = true then (need ((out_2.length + 1) * 8 ≤ 140737488355328) (some (.inl ((out_2 ++ [x_7.Safe]), (i_4 + 1))))) else (need ((out_2.length + 1) * 8 ≤ 140737488355328) (some (.inl ((out_2 ++ [0]), (i_4 + 1))))))) else ((lazarettoref23_Forced m.Lattice latches x_7.Label).bind fun r_16 => if r_16 = true then (need ((out_2.length + 1) * 8 ≤ 140737488355328) (some (.inl ((out_2 ++ [x_7.Safe]), (i_4 + 1))))) else (need ((out_2.length + 1) * 8 ≤ 140737488355328) (some (.inl ((out_2 ++ [0]), (i_4 + 1))))))) else (some (.inl (out_2, (i_4 + 1))))) else (some (.inr (out_2)))
def lazarettoref23_Outputs (m : api_Image) (mem : api_Memory) (latches : List Int) : Option (List Int) :=
  (loop (lazarettoref23_Outputs_L1 m mem latches) ([], 0)).bind (fun e_5 => some e_5)
def lazarettolaw23_LatchesOutputs (m : api_Image) (mem : api_Memory) (x : List Int) : Option Bool :=
  (lazarettolaw18_Few m).bind fun r_1 => if r_1 = 0 then ((lazarettolaw23_awake).bind fun r_2 => some r_2) else ((lazarettoref18_Check m).bind fun r_3 => if r_3 = 0 then (if 1000 < (x.length : Int) then ((lazarettolaw23_awake).bind fun r_4 => some r_4) else ((latches_Outputs m mem x).bind fun r_5 => (lazarettoref23_Outputs m mem x).bind fun r_6 => (lazarettoref04_Ints r_5 r_6).bind fun r_7 => if r_7 = true then ((lazarettolaw23_awake).bind fun r_8 => some r_8) else (some false))) else ((lazarettolaw23_awake).bind fun r_9 => some r_9))
def lazarettolaw23_LatchesJust_L3 (m : api_Image) (x : List Int) (x_20 : api_Var) : (Int × Nat) → Option ((Int × Nat) ⊕ (Int))
  | (want_22, a_23) => if (a_23 : Int) < (x.length : Int) then ((x[a_23]?).bind fun x_26 => if x_26 = 0 then (some (.inl (want_22, (a_23 + 1)))) else ((lazarettoref01_Leq m.Lattice (a_23 : Int) x_20.Label).bind fun r_27 => if r_27 = true then (some (.inl (x_20.Safe, (a_23 + 1)))) else (some (.inl (want_22, (a_23 + 1)))))) else (some (.inr (want_22)))
def lazarettolaw23_LatchesJust_L2 (m : api_Image) (n : List Int) (x : List Int) (r_15 : (List Int)) : (Nat × Nat) → Option ((Nat × Nat) ⊕ (Bool ⊕ Nat))
  | (k_16, i_17) => if (i_17 : Int) < (m.Vars.length : Int) then ((m.Vars[i_17]?).bind fun x_20 => if x_20.Mode = 2 then ((n[i_17]?).bind fun x_21 => (loop (lazarettolaw23_LatchesJust_L3 m x x_20) (x_21, 0)).bind (fun e_24 => if (r_15.length : Int) ≤ (k_16 : Int) then (some (.inr (.inl (false)))) else ((r_15[k_16]?).bind fun x_29 => if x_29 = e_24 then (some (.inl ((k_16 + 1), (i_17 + 1)))) else (some (.inr (.inl (false))))))) else (some (.inl (k_16, (i_17 + 1))))) else (some (.inr (.inr (k_16))))
def lazarettolaw23_LatchesJust_L1 (m : api_Image) (n : List Int) : ((List (List Int)) × Nat) → Option (((List (List Int)) × Nat) ⊕ (List (List Int)))
  | (xs_8, i_9) => if (i_9 : Int) < (m.Vars.length : Int) then ((n[i_9]?).bind fun x_12 => need ((xs_8.length + 1) * 24 ≤ 140737488355328) (some (.inl ((xs_8 ++ [[x_12]]), (i_9 + 1))))) else (some (.inr (xs_8)))
def lazarettolaw23_LatchesJust (m : api_Image) (n : List Int) (x : List Int) : Option Bool :=
  (lazarettolaw18_Few m).bind fun r_1 => if r_1 = 0 then ((lazarettolaw23_awake).bind fun r_2 => some r_2) else ((lazarettoref18_Check m).bind fun r_3 => if r_3 = 0 then (if 1000 < (x.length : Int) then ((lazarettolaw23_awake).bind fun r_4 => some r_4) else (if (n.length : Int) < (m.Vars.length : Int) then ((lazarettolaw23_awake).bind fun r_5 => some r_5) else (if 1000 < (n.length : Int) then ((lazarettolaw23_awake).bind fun r_6 => some r_6) else ((loop (lazarettolaw23_LatchesJust_L1 m n) ([], 0)).bind (fun e_10 => (latches_Outputs m (⟨e_10, []⟩ : api_Memory) x).bind fun r_15 => (loop (lazarettolaw23_LatchesJust_L2 m n x r_15) (0, 0)).bind (fun e__ => match e__ with | (.inl e_30) => some e_30 | (.inr k_31) => if (k_31 : Int) = (r_15.length : Int) then ((lazarettolaw23_awake).bind fun r_32 => some r_32) else (some false))))))) else ((lazarettolaw23_awake).bind fun r_33 => some r_33))
end
theorem lazarettolaw18_Few_ok {m : api_Image} {r : Int} (h : lazarettolaw18_Few m = some r) :
    Pu Try.prog 14 [.agg (e_api_Image m)] (.one (.int .i64 r)) := by
  have F := trivial; have R := trivial
  refine pA Try.func14 ?_
  simp only [Try.f14]
  unfold lazarettolaw18_Few at h
  refine tt ?_
  repeat (with_reducible first | intro _ | refine ⟨ss, ?_⟩)
  refine fi h F (fun h _ F => ?_) (fun h _ F => ?_)
  cases h; exact fin
  refine tt ?_
  repeat (with_reducible first | intro _ | refine ⟨ss, ?_⟩)
  refine fi h F (fun h _ F => ?_) (fun h _ F => ?_)
  cases h; exact fin
  refine tt ?_
  repeat (with_reducible first | intro _ | refine ⟨ss, ?_⟩)
  refine fi h F (fun h _ F => ?_) (fun h _ F => ?_)
  cases h; exact fin
  refine tt ?_
  repeat (with_reducible first | intro _ | refine ⟨ss, ?_⟩)
  refine fi h F (fun h _ F => ?_) (fun h _ F => ?_)
  cases h; exact fin
  refine tt ?_
  repeat (with_reducible first | intro _ | refine ⟨ss, ?_⟩)
  refine fi h F (fun h _ F => ?_) (fun h _ F => ?_)
  cases h; exact fin
  refine tt ?_
  repeat (with_reducible first | intro _ | refine ⟨ss, ?_⟩)
  refine fi h F (fun h _ F => ?_) (fun h _ F => ?_)
  cases h; exact fin
  refine tt ?_
  repeat (with_reducible first | intro _ | refine ⟨ss, ?_⟩)
  refine fi h F (fun h _ F => ?_) (fun h _ F => ?_)
  cases h; exact fin
  refine bi h fun e_3 h he_3 => ?_
  refine tt ?_
  refine lE (fun (s__ : Int × Nat) (a__ : Unit) => match s__, a__ with | (n_1, i_2), _ => ⟨[(1, .one (.ref 0 0 0 0)), (3, .one (.int .i64 n_1)), (4, .one (.int .i64 (i_2 : Int)))], [.cells 0 7 [[.sl (m.Lattice.Names.map eS), .sl (m.Lattice.Below.map (eA2 eI)), .sl (m.Sites.map e_api_Site), .sl (m.Vars.map e_api_Var), .sl (m.Blocks.map e_api_Block), .sl (m.Tasks.map e_api_Task), .sl (m.Code.map (eL e_api_Ins))]]]⟩) (fun (e__ : Int) (b__ : Unit) => match e__, b__ with | e_3, _ => ⟨[(1, .one (.ref 0 0 0 0)), (3, .one (.int .i64 e_3))], [.cells 0 7 [[.sl (m.Lattice.Names.map eS), .sl (m.Lattice.Below.map (eA2 eI)), .sl (m.Sites.map e_api_Site), .sl (m.Vars.map e_api_Var), .sl (m.Blocks.map e_api_Block), .sl (m.Tasks.map e_api_Task), .sl (m.Code.map (eL e_api_Ins))]]]⟩) (fun (_ : Int) => some 0) () he_3 ?_ ?_
  intro i4 b4 hi4
  obtain rfl := Option.some.inj hi4
  obtain ⟨⟩ := b4
  dsimp only at h ⊢
  refine bi h fun e_9 h he_9 => ?_
  refine tt ?_
  refine lE (fun (s__ : Int × Nat) (a__ : Unit) => match s__, a__ with | (n_7, i_8), _ => ⟨[(1, .one (.ref 0 0 0 0)), (3, .one (.int .i64 n_7)), (5, .one (.int .i64 (i_8 : Int)))], [.cells 0 7 [[.sl (m.Lattice.Names.map eS), .sl (m.Lattice.Below.map (eA2 eI)), .sl (m.Sites.map e_api_Site), .sl (m.Vars.map e_api_Var), .sl (m.Blocks.map e_api_Block), .sl (m.Tasks.map e_api_Task), .sl (m.Code.map (eL e_api_Ins))]]]⟩) (fun (e__ : Int) (b__ : Unit) => match e__, b__ with | e_9, _ => ⟨[(1, .one (.ref 0 0 0 0)), (3, .one (.int .i64 e_9))], [.cells 0 7 [[.sl (m.Lattice.Names.map eS), .sl (m.Lattice.Below.map (eA2 eI)), .sl (m.Sites.map e_api_Site), .sl (m.Vars.map e_api_Var), .sl (m.Blocks.map e_api_Block), .sl (m.Tasks.map e_api_Task), .sl (m.Code.map (eL e_api_Ins))]]]⟩) (fun (_ : Int) => some 2) () he_9 ?_ ?_
  intro i10 b10 hi10
  obtain rfl := Option.some.inj hi10
  obtain ⟨⟩ := b10
  dsimp only at h ⊢
  refine bi h fun e_15 h he_15 => ?_
  refine tt ?_
  refine lE (fun (s__ : Int × Nat) (a__ : Unit) => match s__, a__ with | (n_13, i_14), _ => ⟨[(1, .one (.ref 0 0 0 0)), (3, .one (.int .i64 n_13)), (6, .one (.int .i64 (i_14 : Int)))], [.cells 0 7 [[.sl (m.Lattice.Names.map eS), .sl (m.Lattice.Below.map (eA2 eI)), .sl (m.Sites.map e_api_Site), .sl (m.Vars.map e_api_Var), .sl (m.Blocks.map e_api_Block), .sl (m.Tasks.map e_api_Task), .sl (m.Code.map (eL e_api_Ins))]]]⟩) (fun (e__ : Int) (b__ : Unit) => match e__, b__ with | e_15, _ => ⟨[(3, .one (.int .i64 e_15))], [.cells 0 7 [[.sl (m.Lattice.Names.map eS), .sl (m.Lattice.Below.map (eA2 eI)), .sl (m.Sites.map e_api_Site), .sl (m.Vars.map e_api_Var), .sl (m.Blocks.map e_api_Block), .sl (m.Tasks.map e_api_Task), .sl (m.Code.map (eL e_api_Ins))]]]⟩) (fun (_ : Int) => some 4) () he_15 ?_ ?_
  intro i16 b16 hi16
  obtain rfl := Option.some.inj hi16
  obtain ⟨⟩ := b16
  dsimp only at h ⊢
  refine fi h F (fun h _ F => ?_) (fun h _ F => ?_)
  cases h; exact fin
  cases h; exact fin
  intro af16 m16 s16 a16 o16 hf16 ho16 ih16
  obtain ⟨n_13, i_14⟩ := s16
  obtain ⟨⟩ := a16
  dsimp only [lazarettolaw18_Few_L3] at hf16 ⊢
  refine tt ?_
  repeat (with_reducible first | intro _ | refine ⟨ss, ?_⟩)
  refine fl hf16 F (fun hf16 _ F => ?_) (fun hf16 _ F => ?_)
  refine fi hf16 F (fun hf16 _ F => ?_) (fun hf16 _ F => ?_)
  refine bx hf16 F fun x_17 hf16 hx_17 F => ?_
  cases hf16
  refine tt ?_
  repeat (with_reducible first | intro _ | refine ⟨ss, ?_⟩)
  refine wn i_14 F fun F => ?_
  exact bk ih16 ho16 ()
  cases hf16
  refine tt ?_
  exact xt ho16 af16 ()
  cases hf16
  refine tt ?_
  exact xt ho16 af16 ()
  intro af10 m10 s10 a10 o10 hf10 ho10 ih10
  obtain ⟨n_7, i_8⟩ := s10
  obtain ⟨⟩ := a10
  dsimp only [lazarettolaw18_Few_L2] at hf10 ⊢
  refine tt ?_
  repeat (with_reducible first | intro _ | refine ⟨ss, ?_⟩)
  refine fl hf10 F (fun hf10 _ F => ?_) (fun hf10 _ F => ?_)
  refine fi hf10 F (fun hf10 _ F => ?_) (fun hf10 _ F => ?_)
  refine bx hf10 F fun x_11 hf10 hx_11 F => ?_
  cases hf10
  refine tt ?_
  repeat (with_reducible first | intro _ | refine ⟨ss, ?_⟩)
  refine wn i_8 F fun F => ?_
  exact bk ih10 ho10 ()
  cases hf10
  refine tt ?_
  exact xt ho10 af10 ()
  cases hf10
  refine tt ?_
  exact xt ho10 af10 ()
  intro af4 m4 s4 a4 o4 hf4 ho4 ih4
  obtain ⟨n_1, i_2⟩ := s4
  obtain ⟨⟩ := a4
  dsimp only [lazarettolaw18_Few_L1] at hf4 ⊢
  refine tt ?_
  repeat (with_reducible first | intro _ | refine ⟨ss, ?_⟩)
  refine fl hf4 F (fun hf4 _ F => ?_) (fun hf4 _ F => ?_)
  refine fi hf4 F (fun hf4 _ F => ?_) (fun hf4 _ F => ?_)
  refine bx hf4 F fun x_5 hf4 hx_5 F => ?_
  cases hf4
  refine tt ?_
  repeat (with_reducible first | intro _ | refine ⟨ss, ?_⟩)
  refine wn i_2 F fun F => ?_
  exact bk ih4 ho4 ()
  cases hf4
  refine tt ?_
  exact xt ho4 af4 ()
  cases hf4
  refine tt ?_
  exact xt ho4 af4 ()
theorem lazarettoref18_caps_ok {m : api_Image} {r : Bool} (h : lazarettoref18_caps m = some r) :
    Pu Try.prog 46 [.agg (e_api_Image m)] (.one (.bool r)) := by
  have F := trivial; have R := trivial
  refine pA Try.func46 ?_
  simp only [Try.f46]
  unfold lazarettoref18_caps at h
  refine tt ?_
  repeat (with_reducible first | intro _ | refine ⟨ss, ?_⟩)
  refine fi h F (fun h _ F => ?_) (fun h _ F => ?_)
  cases h; exact fin
  refine tt ?_
  repeat (with_reducible first | intro _ | refine ⟨ss, ?_⟩)
  refine fi h F (fun h _ F => ?_) (fun h _ F => ?_)
  cases h; exact fin
  refine tt ?_
  repeat (with_reducible first | intro _ | refine ⟨ss, ?_⟩)
  refine fi h F (fun h _ F => ?_) (fun h _ F => ?_)
  cases h; exact fin
  refine tt ?_
  repeat (with_reducible first | intro _ | refine ⟨ss, ?_⟩)
  refine fi h F (fun h _ F => ?_) (fun h _ F => ?_)
  cases h; exact fin
  refine tt ?_
  repeat (with_reducible first | intro _ | refine ⟨ss, ?_⟩)
  refine fi h F (fun h _ F => ?_) (fun h _ F => ?_)
  cases h; exact fin
  refine tt ?_
  repeat (with_reducible first | intro _ | refine ⟨ss, ?_⟩)
  refine fi h F (fun h _ F => ?_) (fun h _ F => ?_)
  cases h; exact fin
  refine bi h fun e_2 h he_2 => ?_
  refine tt ?_
  refine lE (fun (s__ : Nat) (a__ : Unit) => match s__, a__ with | i_1, _ => ⟨[(1, .one (.ref 0 0 0 0)), (3, .one (.int .i64 (i_1 : Int)))], [.cells 0 7 [[.sl (m.Lattice.Names.map eS), .sl (m.Lattice.Below.map (eA2 eI)), .sl (m.Sites.map e_api_Site), .sl (m.Vars.map e_api_Var), .sl (m.Blocks.map e_api_Block), .sl (m.Tasks.map e_api_Task), .sl (m.Code.map (eL e_api_Ins))]]]⟩) (fun (e__ : Bool ⊕ Unit) (b__ : Unit) => match e__, b__ with | (.inl e_5), _ => ⟨[], []⟩ | (.inr ()), _ => ⟨[(1, .one (.ref 0 0 0 0))], [.cells 0 7 [[.sl (m.Lattice.Names.map eS), .sl (m.Lattice.Below.map (eA2 eI)), .sl (m.Sites.map e_api_Site), .sl (m.Vars.map e_api_Var), .sl (m.Blocks.map e_api_Block), .sl (m.Tasks.map e_api_Task), .sl (m.Code.map (eL e_api_Ins))]]]⟩) (fun (e__ : Bool ⊕ Unit) => match e__ with | (.inl _) => none | (.inr _) => some 0) () he_2 ?_ ?_
  intro i3 b3 hi3
  rcases e_2 with e_case | ⟨⟩
  cases hi3
  obtain rfl := Option.some.inj hi3
  obtain ⟨⟩ := b3
  dsimp only at h ⊢
  refine bi h fun e_7 h he_7 => ?_
  refine tt ?_
  refine lE (fun (s__ : Nat) (a__ : Unit) => match s__, a__ with | i_6, _ => ⟨[(1, .one (.ref 0 0 0 0)), (4, .one (.int .i64 (i_6 : Int)))], [.cells 0 7 [[.sl (m.Lattice.Names.map eS), .sl (m.Lattice.Below.map (eA2 eI)), .sl (m.Sites.map e_api_Site), .sl (m.Vars.map e_api_Var), .sl (m.Blocks.map e_api_Block), .sl (m.Tasks.map e_api_Task), .sl (m.Code.map (eL e_api_Ins))]]]⟩) (fun (e__ : Bool ⊕ Unit) (b__ : Unit) => match e__, b__ with | (.inl e_10), _ => ⟨[], []⟩ | (.inr ()), _ => ⟨[], [.cells 0 7 [[.sl (m.Lattice.Names.map eS), .sl (m.Lattice.Below.map (eA2 eI)), .sl (m.Sites.map e_api_Site), .sl (m.Vars.map e_api_Var), .sl (m.Blocks.map e_api_Block), .sl (m.Tasks.map e_api_Task), .sl (m.Code.map (eL e_api_Ins))]]]⟩) (fun (e__ : Bool ⊕ Unit) => match e__ with | (.inl _) => none | (.inr _) => some 2) () he_7 ?_ ?_
  intro i8 b8 hi8
  rcases e_7 with e_case | ⟨⟩
  cases hi8
  obtain rfl := Option.some.inj hi8
  obtain ⟨⟩ := b8
  dsimp only at h ⊢
  cases h; exact fin
  intro af8 m8 i_6 a8 o8 hf8 ho8 ih8
  obtain ⟨⟩ := a8
  dsimp only [lazarettoref18_caps_L2] at hf8 ⊢
  refine tt ?_
  repeat (with_reducible first | intro _ | refine ⟨ss, ?_⟩)
  refine fl hf8 F (fun hf8 _ F => ?_) (fun hf8 _ F => ?_)
  refine bx hf8 F fun x_9 hf8 hx_9 F => ?_
  refine tt ?_
  repeat (with_reducible first | intro _ | refine ⟨ss, ?_⟩)
  refine fi hf8 F (fun hf8 _ F => ?_) (fun hf8 _ F => ?_)
  cases hf8
  obtain rfl := sr ho8
  try dsimp only at h
  cases h
  exact fin
  cases hf8
  refine tt ?_
  refine wn i_6 F fun F => ?_
  exact bk ih8 ho8 ()
  cases hf8
  refine tt ?_
  exact xt ho8 af8 ()
  intro af3 m3 i_1 a3 o3 hf3 ho3 ih3
  obtain ⟨⟩ := a3
  dsimp only [lazarettoref18_caps_L1] at hf3 ⊢
  refine tt ?_
  repeat (with_reducible first | intro _ | refine ⟨ss, ?_⟩)
  refine fl hf3 F (fun hf3 _ F => ?_) (fun hf3 _ F => ?_)
  refine bx hf3 F fun x_4 hf3 hx_4 F => ?_
  refine tt ?_
  repeat (with_reducible first | intro _ | refine ⟨ss, ?_⟩)
  refine fi hf3 F (fun hf3 _ F => ?_) (fun hf3 _ F => ?_)
  cases hf3
  obtain rfl := sr ho3
  try dsimp only at h
  cases h
  exact fin
  cases hf3
  refine tt ?_
  refine wn i_1 F fun F => ?_
  exact bk ih3 ho3 ()
  cases hf3
  refine tt ?_
  exact xt ho3 af3 ()
theorem lazarettoref03_Bits_ok {kind : Int} {r : Int} (h : lazarettoref03_Bits kind = some r) :
    Pu Try.prog 92 [.one (.int .i64 kind)] (.one (.int .i64 r)) := by
  have F := trivial; have R := trivial
  refine pA Try.func92 ?_
  simp only [Try.f92]
  unfold lazarettoref03_Bits at h
  refine fi h F (fun h _ F => ?_) (fun h _ F => ?_)
  cases h; exact fin
  refine fi h F (fun h _ F => ?_) (fun h _ F => ?_)
  cases h; exact fin
  refine tt ?_
  refine fi h F (fun h _ F => ?_) (fun h _ F => ?_)
  cases h; exact fin
  refine fi h F (fun h _ F => ?_) (fun h _ F => ?_)
  cases h; exact fin
  cases h; exact fin
theorem lazarettoref04_Check_ok {t : api_Type} {r : Int} (h : lazarettoref04_Check t = some r) :
    Pu Try.prog 86 [.agg (e_api_Type t)] (.one (.int .i64 r)) := by
  have F := trivial; have R := trivial
  refine pA Try.func86 ?_
  simp only [Try.f86]
  unfold lazarettoref04_Check at h
  refine bi h fun r_1 h hr_1 => ?_
  refine tt ?_
  repeat (with_reducible first | intro _ | refine ⟨ss, ?_⟩)
  refine cS (lazarettoref03_Bits_ok hr_1) ?_
  refine fi h F (fun h _ F => ?_) (fun h _ F => ?_)
  cases h; exact fin
  refine tt ?_
  refine fi h F (fun h _ F => ?_) (fun h _ F => ?_)
  cases h; exact fin
  refine fi h F (fun h _ F => ?_) (fun h _ F => ?_)
  cases h; exact fin
  refine tt ?_
  refine fi h F (fun h _ F => ?_) (fun h _ F => ?_)
  refine fi h F (fun h _ F => ?_) (fun h _ F => ?_)
  refine tt ?_
  refine fi h F (fun h _ F => ?_) (fun h _ F => ?_)
  cases h; exact fin
  refine fi h F (fun h _ F => ?_) (fun h _ F => ?_)
  cases h; exact fin
  cases h; exact fin
  cases h; exact fin
  refine tt ?_
  refine fi h F (fun h _ F => ?_) (fun h _ F => ?_)
  cases h; exact fin
  refine fi h F (fun h _ F => ?_) (fun h _ F => ?_)
  cases h; exact fin
  cases h; exact fin
theorem lazarettoref03_half_ok {kind : Int} {r : Int} (h : lazarettoref03_half kind = some r) :
    Pu Try.prog 93 [.one (.int .i64 kind)] (.one (.int .i64 r)) := by
  have F := trivial; have R := trivial
  refine pA Try.func93 ?_
  simp only [Try.f93]
  unfold lazarettoref03_half at h
  refine fi h F (fun h _ F => ?_) (fun h _ F => ?_)
  cases h; exact fin
  cases h; exact fin
theorem lazarettoref03_Valid_ok {kind : Int} {n : Int} {r : Bool} (h : lazarettoref03_Valid kind n = some r) :
    Pu Try.prog 87 [.one (.int .i64 kind), .one (.int .i64 n)] (.one (.bool r)) := by
  have F := trivial; have R := trivial
  refine pA Try.func87 ?_
  simp only [Try.f87]
  unfold lazarettoref03_Valid at h
  refine fi h F (fun h _ F => ?_) (fun h _ F => ?_)
  refine fi h F (fun h _ F => ?_) (fun h _ F => ?_)
  cases h; exact fin
  cases h; exact fin
  refine bi h fun r_1 h hr_1 => ?_
  refine tt ?_
  repeat (with_reducible first | intro _ | refine ⟨ss, ?_⟩)
  refine cS (lazarettoref03_Bits_ok hr_1) ?_
  refine fi h F (fun h _ F => ?_) (fun h _ F => ?_)
  refine bi h fun r_2 h hr_2 => ?_
  refine tt ?_
  repeat (with_reducible first | intro _ | refine ⟨ss, ?_⟩)
  refine cS (lazarettoref03_half_ok hr_2) ?_
  refine fi h F (fun h _ F => ?_) (fun h _ F => ?_)
  refine bi h fun r_3 h hr_3 => ?_
  refine tt ?_
  repeat (with_reducible first | intro _ | refine ⟨ss, ?_⟩)
  refine cS (lazarettoref03_half_ok hr_3) ?_
  cases h; exact fin
  cases h; exact fin
  cases h; exact fin
theorem lazarettoref18_variable_ok {m : api_Image} {v : api_Var} {r : Bool} (h : lazarettoref18_variable m v = some r) :
    Pu Try.prog 71 [.agg (e_api_Image m), .agg (e_api_Var v)] (.one (.bool r)) := by
  have F := trivial; have R := trivial
  refine pA Try.func71 ?_
  simp only [Try.f71]
  unfold lazarettoref18_variable at h
  refine tt ?_
  refine fi h F (fun h _ F => ?_) (fun h _ F => ?_)
  refine bi h fun r_1 h hr_1 => ?_
  refine tt ?_
  repeat (with_reducible first | intro _ | refine ⟨ss, ?_⟩)
  refine cS (lazarettoref01_Is_ok hr_1) ?_
  refine fv h F (fun h _ F => ?_) (fun h _ F => ?_)
  refine bi h fun r_2 h hr_2 => ?_
  refine tt ?_
  repeat (with_reducible first | intro _ | refine ⟨ss, ?_⟩)
  refine cS (lazarettoref04_Check_ok hr_2) ?_
  refine fi h F (fun h _ F => ?_) (fun h _ F => ?_)
  refine fi h F (fun h _ F => ?_) (fun h _ F => ?_)
  cases h; exact fin
  refine tt ?_
  refine fi h F (fun h _ F => ?_) (fun h _ F => ?_)
  refine fi h F (fun h _ F => ?_) (fun h _ F => ?_)
  refine tt ?_
  refine fi h F (fun h _ F => ?_) (fun h _ F => ?_)
  cases h; exact fin
  refine fi h F (fun h _ F => ?_) (fun h _ F => ?_)
  refine bi h fun r_3 h hr_3 => ?_
  refine tt ?_
  repeat (with_reducible first | intro _ | refine ⟨ss, ?_⟩)
  refine cS (lazarettoref03_Valid_ok hr_3) ?_
  cases h; exact fin
  cases h; exact fin
  refine tt ?_
  refine fi h F (fun h _ F => ?_) (fun h _ F => ?_)
  refine bi h fun r_4 h hr_4 => ?_
  refine tt ?_
  repeat (with_reducible first | intro _ | refine ⟨ss, ?_⟩)
  refine cS (lazarettoref03_Valid_ok hr_4) ?_
  cases h; exact fin
  cases h; exact fin
  cases h; exact fin
  cases h; exact fin
  cases h; exact fin
  cases h; exact fin
theorem lazarettoref11_Inputs_ok {kind : Str} {r : List Int} (h : lazarettoref11_Inputs kind = some r) :
    Pu Try.prog 72 [.one (.str kind)] (.one (.sl (r.map eI))) := by
  have F := trivial; have R := trivial
  refine pA Try.func72 ?_
  simp only [Try.f72]
  unfold lazarettoref11_Inputs at h
  refine fi h F (fun h _ F => ?_) (fun h _ F => ?_)
  cases h; exact fin
  refine fi h F (fun h _ F => ?_) (fun h _ F => ?_)
  cases h; exact fin
  refine tt ?_
  refine fi h F (fun h _ F => ?_) (fun h _ F => ?_)
  cases h; exact fin
  refine fi h F (fun h _ F => ?_) (fun h _ F => ?_)
  cases h; exact fin
  refine fi h F (fun h _ F => ?_) (fun h _ F => ?_)
  cases h; exact fin
  refine fi h F (fun h _ F => ?_) (fun h _ F => ?_)
  cases h; exact fin
  refine tt ?_
  refine fi h F (fun h _ F => ?_) (fun h _ F => ?_)
  cases h; exact fin
  refine fi h F (fun h _ F => ?_) (fun h _ F => ?_)
  cases h; exact fin
  refine fi h F (fun h _ F => ?_) (fun h _ F => ?_)
  cases h; exact fin
  refine fi h F (fun h _ F => ?_) (fun h _ F => ?_)
  cases h; exact fin
  cases h; exact fin
theorem lazarettoref18_task_ok {m : api_Image} {t : api_Task} {r : Bool} (h : lazarettoref18_task m t = some r) :
    Pu Try.prog 73 [.agg (e_api_Image m), .agg (e_api_Task t)] (.one (.bool r)) := by
  have F := trivial; have R := trivial
  refine pA Try.func73 ?_
  simp only [Try.f73]
  unfold lazarettoref18_task at h
  refine tt ?_
  refine fi h F (fun h _ F => ?_) (fun h _ F => ?_)
  cases h; exact fin
  refine fi h F (fun h _ F => ?_) (fun h _ F => ?_)
  cases h; exact fin
  refine tt ?_
  refine fi h F (fun h _ F => ?_) (fun h _ F => ?_)
  cases h; exact fin
  refine fi h F (fun h _ F => ?_) (fun h _ F => ?_)
  cases h; exact fin
  refine tt ?_
  repeat (with_reducible first | intro _ | refine ⟨ss, ?_⟩)
  refine fi h F (fun h _ F => ?_) (fun h _ F => ?_)
  refine tt ?_
  repeat (with_reducible first | intro _ | refine ⟨ss, ?_⟩)
  refine fi h F (fun h _ F => ?_) (fun h _ F => ?_)
  cases h; exact fin
  refine bi h fun e_2 h he_2 => ?_
  refine tt ?_
  refine lE (fun (s__ : Nat) (a__ : Unit) => match s__, a__ with | i_1, _ => ⟨[(3, .one (.ref 1 0 0 0)), (5, .one (.int .i64 (i_1 : Int)))], [.cells 0 7 [[.sl (m.Lattice.Names.map eS), .sl (m.Lattice.Below.map (eA2 eI)), .sl (m.Sites.map e_api_Site), .sl (m.Vars.map e_api_Var), .sl (m.Blocks.map e_api_Block), .sl (m.Tasks.map e_api_Task), .sl (m.Code.map (eL e_api_Ins))]], .cells 0 4 [[.int .i64 t.Every, .int .i64 t.Priority, .sl (t.Budget.map eI), .sl (t.Body.map e_api_Stmt)]]]⟩) (fun (e__ : Bool ⊕ Unit) (b__ : Unit) => match e__, b__ with | (.inl e_5), _ => ⟨[], []⟩ | (.inr ()), _ => ⟨[], [.cells 0 7 [[.sl (m.Lattice.Names.map eS), .sl (m.Lattice.Below.map (eA2 eI)), .sl (m.Sites.map e_api_Site), .sl (m.Vars.map e_api_Var), .sl (m.Blocks.map e_api_Block), .sl (m.Tasks.map e_api_Task), .sl (m.Code.map (eL e_api_Ins))]], .cells 0 4 [[.int .i64 t.Every, .int .i64 t.Priority, .sl (t.Budget.map eI), .sl (t.Body.map e_api_Stmt)]]]⟩) (fun (e__ : Bool ⊕ Unit) => match e__ with | (.inl _) => none | (.inr _) => some 0) () he_2 ?_ ?_
  intro i3 b3 hi3
  rcases e_2 with e_case | ⟨⟩
  cases hi3
  obtain rfl := Option.some.inj hi3
  obtain ⟨⟩ := b3
  dsimp only at h ⊢
  cases h; exact fin
  intro af3 m3 i_1 a3 o3 hf3 ho3 ih3
  obtain ⟨⟩ := a3
  dsimp only [lazarettoref18_task_L1] at hf3 ⊢
  refine tt ?_
  repeat (with_reducible first | intro _ | refine ⟨ss, ?_⟩)
  refine fl hf3 F (fun hf3 _ F => ?_) (fun hf3 _ F => ?_)
  refine bx hf3 F fun x_4 hf3 hx_4 F => ?_
  refine tt ?_
  repeat (with_reducible first | intro _ | refine ⟨ss, ?_⟩)
  refine fi hf3 F (fun hf3 _ F => ?_) (fun hf3 _ F => ?_)
  cases hf3
  obtain rfl := sr ho3
  try dsimp only at h
  cases h
  exact fin
  refine tt ?_
  repeat (with_reducible first | intro _ | refine ⟨ss, ?_⟩)
  refine fi hf3 F (fun hf3 _ F => ?_) (fun hf3 _ F => ?_)
  cases hf3
  obtain rfl := sr ho3
  try dsimp only at h
  cases h
  exact fin
  cases hf3
  refine tt ?_
  refine wn i_1 F fun F => ?_
  exact bk ih3 ho3 ()
  cases hf3
  refine tt ?_
  exact xt ho3 af3 ()
  cases h; exact fin
theorem lazarettoref17_names_ok {op : Int} {r : Bool × Bool × Bool} (h : lazarettoref17_names op = some r) :
    Pu Try.prog 94 [.one (.int .i64 op)] (.tup [.one (.bool r.1), .one (.bool r.2.1), .one (.bool r.2.2)]) := by
  have F := trivial; have R := trivial
  refine pA Try.func94 ?_
  simp only [Try.f94]
  unfold lazarettoref17_names at h
  refine fi h F (fun h _ F => ?_) (fun h _ F => ?_)
  cases h; exact fin
  refine tt ?_
  refine fi h F (fun h _ F => ?_) (fun h _ F => ?_)
  cases h; exact fin
  refine fi h F (fun h _ F => ?_) (fun h _ F => ?_)
  cases h; exact fin
  refine fi h F (fun h _ F => ?_) (fun h _ F => ?_)
  cases h; exact fin
  refine fi h F (fun h _ F => ?_) (fun h _ F => ?_)
  cases h; exact fin
  refine tt ?_
  refine fi h F (fun h _ F => ?_) (fun h _ F => ?_)
  cases h; exact fin
  refine fi h F (fun h _ F => ?_) (fun h _ F => ?_)
  cases h; exact fin
  refine fi h F (fun h _ F => ?_) (fun h _ F => ?_)
  cases h; exact fin
  refine fi h F (fun h _ F => ?_) (fun h _ F => ?_)
  cases h; exact fin
  refine tt ?_
  refine fi h F (fun h _ F => ?_) (fun h _ F => ?_)
  cases h; exact fin
  refine fi h F (fun h _ F => ?_) (fun h _ F => ?_)
  cases h; exact fin
  refine fi h F (fun h _ F => ?_) (fun h _ F => ?_)
  cases h; exact fin
  refine fi h F (fun h _ F => ?_) (fun h _ F => ?_)
  cases h; exact fin
  cases h; exact fin
theorem lazarettoref17_one_ok {i : api_Ins} {r : Bool} (h : lazarettoref17_one i = some r) :
    Pu Try.prog 88 [.agg (e_api_Ins i)] (.one (.bool r)) := by
  have F := trivial; have R := trivial
  refine pA Try.func88 ?_
  simp only [Try.f88]
  unfold lazarettoref17_one at h
  refine bi h fun r_1 h hr_1 => ?_
  refine tt ?_
  repeat (with_reducible first | intro _ | refine ⟨ss, ?_⟩)
  refine cS (lazarettoref17_names_ok hr_1) ?_
  refine tt ?_
  refine fv h F (fun h _ F => ?_) (fun h _ F => ?_)
  refine fv h F (fun h _ F => ?_) (fun h _ F => ?_)
  refine tt ?_
  refine fv h F (fun h _ F => ?_) (fun h _ F => ?_)
  refine fi h F (fun h _ F => ?_) (fun h _ F => ?_)
  refine tt ?_
  refine fi h F (fun h _ F => ?_) (fun h _ F => ?_)
  refine fi h F (fun h _ F => ?_) (fun h _ F => ?_)
  refine tt ?_
  refine fi h F (fun h _ F => ?_) (fun h _ F => ?_)
  refine fi h F (fun h _ F => ?_) (fun h _ F => ?_)
  refine tt ?_
  refine fi h F (fun h _ F => ?_) (fun h _ F => ?_)
  refine fi h F (fun h _ F => ?_) (fun h _ F => ?_)
  cases h; exact fin
  cases h; exact fin
  cases h; exact fin
  cases h; exact fin
  cases h; exact fin
  cases h; exact fin
  cases h; exact fin
  cases h; exact fin
  refine fi h F (fun h _ F => ?_) (fun h _ F => ?_)
  refine tt ?_
  refine fi h F (fun h _ F => ?_) (fun h _ F => ?_)
  refine fi h F (fun h _ F => ?_) (fun h _ F => ?_)
  refine tt ?_
  refine fi h F (fun h _ F => ?_) (fun h _ F => ?_)
  refine fi h F (fun h _ F => ?_) (fun h _ F => ?_)
  refine tt ?_
  refine fi h F (fun h _ F => ?_) (fun h _ F => ?_)
  refine fi h F (fun h _ F => ?_) (fun h _ F => ?_)
  refine tt ?_
  refine fi h F (fun h _ F => ?_) (fun h _ F => ?_)
  cases h; exact fin
  cases h; exact fin
  cases h; exact fin
  cases h; exact fin
  cases h; exact fin
  cases h; exact fin
  cases h; exact fin
  cases h; exact fin
  cases h; exact fin
  refine tt ?_
  refine fi h F (fun h _ F => ?_) (fun h _ F => ?_)
  refine fv h F (fun h _ F => ?_) (fun h _ F => ?_)
  refine tt ?_
  refine fi h F (fun h _ F => ?_) (fun h _ F => ?_)
  refine fi h F (fun h _ F => ?_) (fun h _ F => ?_)
  refine tt ?_
  refine fi h F (fun h _ F => ?_) (fun h _ F => ?_)
  refine fi h F (fun h _ F => ?_) (fun h _ F => ?_)
  refine tt ?_
  refine fi h F (fun h _ F => ?_) (fun h _ F => ?_)
  refine fi h F (fun h _ F => ?_) (fun h _ F => ?_)
  refine tt ?_
  refine fi h F (fun h _ F => ?_) (fun h _ F => ?_)
  cases h; exact fin
  cases h; exact fin
  cases h; exact fin
  cases h; exact fin
  cases h; exact fin
  cases h; exact fin
  cases h; exact fin
  cases h; exact fin
  refine tt ?_
  refine fi h F (fun h _ F => ?_) (fun h _ F => ?_)
  refine fi h F (fun h _ F => ?_) (fun h _ F => ?_)
  refine tt ?_
  refine fi h F (fun h _ F => ?_) (fun h _ F => ?_)
  refine fi h F (fun h _ F => ?_) (fun h _ F => ?_)
  refine tt ?_
  refine fi h F (fun h _ F => ?_) (fun h _ F => ?_)
  refine fi h F (fun h _ F => ?_) (fun h _ F => ?_)
  refine tt ?_
  refine fi h F (fun h _ F => ?_) (fun h _ F => ?_)
  refine fi h F (fun h _ F => ?_) (fun h _ F => ?_)
  cases h; exact fin
  cases h; exact fin
  cases h; exact fin
  cases h; exact fin
  cases h; exact fin
  cases h; exact fin
  cases h; exact fin
  cases h; exact fin
  cases h; exact fin
  cases h; exact fin
  refine fi h F (fun h _ F => ?_) (fun h _ F => ?_)
  refine tt ?_
  refine fv h F (fun h _ F => ?_) (fun h _ F => ?_)
  refine fv h F (fun h _ F => ?_) (fun h _ F => ?_)
  refine tt ?_
  refine fi h F (fun h _ F => ?_) (fun h _ F => ?_)
  refine fi h F (fun h _ F => ?_) (fun h _ F => ?_)
  refine tt ?_
  refine fi h F (fun h _ F => ?_) (fun h _ F => ?_)
  refine fi h F (fun h _ F => ?_) (fun h _ F => ?_)
  refine tt ?_
  refine fi h F (fun h _ F => ?_) (fun h _ F => ?_)
  refine fi h F (fun h _ F => ?_) (fun h _ F => ?_)
  refine tt ?_
  refine fi h F (fun h _ F => ?_) (fun h _ F => ?_)
  cases h; exact fin
  cases h; exact fin
  cases h; exact fin
  cases h; exact fin
  cases h; exact fin
  cases h; exact fin
  cases h; exact fin
  cases h; exact fin
  refine tt ?_
  refine fi h F (fun h _ F => ?_) (fun h _ F => ?_)
  refine fi h F (fun h _ F => ?_) (fun h _ F => ?_)
  refine tt ?_
  refine fi h F (fun h _ F => ?_) (fun h _ F => ?_)
  refine fi h F (fun h _ F => ?_) (fun h _ F => ?_)
  refine tt ?_
  refine fi h F (fun h _ F => ?_) (fun h _ F => ?_)
  refine fi h F (fun h _ F => ?_) (fun h _ F => ?_)
  refine tt ?_
  refine fi h F (fun h _ F => ?_) (fun h _ F => ?_)
  refine fi h F (fun h _ F => ?_) (fun h _ F => ?_)
  cases h; exact fin
  cases h; exact fin
  cases h; exact fin
  cases h; exact fin
  cases h; exact fin
  cases h; exact fin
  cases h; exact fin
  cases h; exact fin
  cases h; exact fin
  refine fi h F (fun h _ F => ?_) (fun h _ F => ?_)
  refine tt ?_
  refine fv h F (fun h _ F => ?_) (fun h _ F => ?_)
  refine fi h F (fun h _ F => ?_) (fun h _ F => ?_)
  refine tt ?_
  refine fi h F (fun h _ F => ?_) (fun h _ F => ?_)
  refine fi h F (fun h _ F => ?_) (fun h _ F => ?_)
  refine tt ?_
  refine fi h F (fun h _ F => ?_) (fun h _ F => ?_)
  refine fi h F (fun h _ F => ?_) (fun h _ F => ?_)
  refine tt ?_
  refine fi h F (fun h _ F => ?_) (fun h _ F => ?_)
  refine fi h F (fun h _ F => ?_) (fun h _ F => ?_)
  cases h; exact fin
  cases h; exact fin
  cases h; exact fin
  cases h; exact fin
  cases h; exact fin
  cases h; exact fin
  cases h; exact fin
  cases h; exact fin
  refine fi h F (fun h _ F => ?_) (fun h _ F => ?_)
  refine tt ?_
  refine fi h F (fun h _ F => ?_) (fun h _ F => ?_)
  refine fi h F (fun h _ F => ?_) (fun h _ F => ?_)
  refine tt ?_
  refine fi h F (fun h _ F => ?_) (fun h _ F => ?_)
  refine fi h F (fun h _ F => ?_) (fun h _ F => ?_)
  refine tt ?_
  refine fi h F (fun h _ F => ?_) (fun h _ F => ?_)
  refine fi h F (fun h _ F => ?_) (fun h _ F => ?_)
  refine tt ?_
  refine fi h F (fun h _ F => ?_) (fun h _ F => ?_)
  cases h; exact fin
  cases h; exact fin
  cases h; exact fin
  cases h; exact fin
  cases h; exact fin
  cases h; exact fin
  cases h; exact fin
  cases h; exact fin
  cases h; exact fin
  cases h; exact fin
  cases h; exact fin
theorem lazarettoref17_Check_ok {l : List api_Ins} {r : Int} (h : lazarettoref17_Check l = some r) :
    Pu Try.prog 74 [.one (.sl (l.map e_api_Ins))] (.one (.int .i64 r)) := by
  have F := trivial; have R := trivial
  refine pA Try.func74 ?_
  simp only [Try.f74]
  unfold lazarettoref17_Check at h
  refine tt ?_
  repeat (with_reducible first | intro _ | refine ⟨ss, ?_⟩)
  refine fi h F (fun h _ F => ?_) (fun h _ F => ?_)
  cases h; exact fin
  refine bi h fun e_2 h he_2 => ?_
  refine tt ?_
  refine lE (fun (s__ : Nat) (a__ : Unit) => match s__, a__ with | i_1, _ => ⟨[(0, .one (.sl (l.map e_api_Ins))), (3, .one (.int .i64 (i_1 : Int)))], []⟩) (fun (e__ : Int ⊕ Unit) (b__ : Unit) => match e__, b__ with | (.inl e_6), _ => ⟨[], []⟩ | (.inr ()), _ => ⟨[], []⟩) (fun (e__ : Int ⊕ Unit) => match e__ with | (.inl _) => none | (.inr _) => some 0) () he_2 ?_ ?_
  intro i3 b3 hi3
  rcases e_2 with e_case | ⟨⟩
  cases hi3
  obtain rfl := Option.some.inj hi3
  obtain ⟨⟩ := b3
  dsimp only at h ⊢
  cases h; exact fin
  intro af3 m3 i_1 a3 o3 hf3 ho3 ih3
  obtain ⟨⟩ := a3
  dsimp only [lazarettoref17_Check_L1] at hf3 ⊢
  refine tt ?_
  repeat (with_reducible first | intro _ | refine ⟨ss, ?_⟩)
  refine fl hf3 F (fun hf3 _ F => ?_) (fun hf3 _ F => ?_)
  refine bx hf3 F fun x_4 hf3 hx_4 F => ?_
  refine bi hf3 fun r_5 hf3 hr_5 => ?_
  refine tt ?_
  repeat (with_reducible first | intro _ | refine ⟨ss, ?_⟩)
  refine cS (lazarettoref17_one_ok hr_5) ?_
  refine fv hf3 F (fun hf3 _ F => ?_) (fun hf3 _ F => ?_)
  cases hf3
  refine tt ?_
  refine wn i_1 F fun F => ?_
  exact bk ih3 ho3 ()
  cases hf3
  obtain rfl := sr ho3
  try dsimp only at h
  cases h
  exact fin
  cases hf3
  refine tt ?_
  exact xt ho3 af3 ()
theorem lazarettoref18_parts_ok {m : api_Image} {r : Bool} (h : lazarettoref18_parts m = some r) :
    Pu Try.prog 47 [.agg (e_api_Image m)] (.one (.bool r)) := by
  have F := trivial; have R := trivial
  refine pA Try.func47 ?_
  simp only [Try.f47]
  unfold lazarettoref18_parts at h
  refine bi h fun e_2 h he_2 => ?_
  refine tt ?_
  refine lE (fun (s__ : Nat) (a__ : Unit) => match s__, a__ with | i_1, _ => ⟨[(1, .one (.ref 0 0 0 0)), (3, .one (.int .i64 (i_1 : Int)))], [.cells 0 7 [[.sl (m.Lattice.Names.map eS), .sl (m.Lattice.Below.map (eA2 eI)), .sl (m.Sites.map e_api_Site), .sl (m.Vars.map e_api_Var), .sl (m.Blocks.map e_api_Block), .sl (m.Tasks.map e_api_Task), .sl (m.Code.map (eL e_api_Ins))]]]⟩) (fun (e__ : Bool ⊕ Unit) (b__ : Unit) => match e__, b__ with | (.inl e_7), _ => ⟨[], []⟩ | (.inr ()), _ => ⟨[(1, .one (.ref 0 0 0 0))], [.cells 0 7 [[.sl (m.Lattice.Names.map eS), .sl (m.Lattice.Below.map (eA2 eI)), .sl (m.Sites.map e_api_Site), .sl (m.Vars.map e_api_Var), .sl (m.Blocks.map e_api_Block), .sl (m.Tasks.map e_api_Task), .sl (m.Code.map (eL e_api_Ins))]]]⟩) (fun (e__ : Bool ⊕ Unit) => match e__ with | (.inl _) => none | (.inr _) => some 0) () he_2 ?_ ?_
  intro i3 b3 hi3
  rcases e_2 with e_case | ⟨⟩
  cases hi3
  obtain rfl := Option.some.inj hi3
  obtain ⟨⟩ := b3
  dsimp only at h ⊢
  refine bi h fun e_9 h he_9 => ?_
  refine tt ?_
  refine lE (fun (s__ : Nat) (a__ : Unit) => match s__, a__ with | i_8, _ => ⟨[(1, .one (.ref 0 0 0 0)), (5, .one (.int .i64 (i_8 : Int)))], [.cells 0 7 [[.sl (m.Lattice.Names.map eS), .sl (m.Lattice.Below.map (eA2 eI)), .sl (m.Sites.map e_api_Site), .sl (m.Vars.map e_api_Var), .sl (m.Blocks.map e_api_Block), .sl (m.Tasks.map e_api_Task), .sl (m.Code.map (eL e_api_Ins))]]]⟩) (fun (e__ : Bool ⊕ Unit) (b__ : Unit) => match e__, b__ with | (.inl e_13), _ => ⟨[], []⟩ | (.inr ()), _ => ⟨[(1, .one (.ref 0 0 0 0))], [.cells 0 7 [[.sl (m.Lattice.Names.map eS), .sl (m.Lattice.Below.map (eA2 eI)), .sl (m.Sites.map e_api_Site), .sl (m.Vars.map e_api_Var), .sl (m.Blocks.map e_api_Block), .sl (m.Tasks.map e_api_Task), .sl (m.Code.map (eL e_api_Ins))]]]⟩) (fun (e__ : Bool ⊕ Unit) => match e__ with | (.inl _) => none | (.inr _) => some 2) () he_9 ?_ ?_
  intro i10 b10 hi10
  rcases e_9 with e_case | ⟨⟩
  cases hi10
  obtain rfl := Option.some.inj hi10
  obtain ⟨⟩ := b10
  dsimp only at h ⊢
  refine bi h fun e_15 h he_15 => ?_
  refine tt ?_
  refine lE (fun (s__ : Nat) (a__ : Unit) => match s__, a__ with | i_14, _ => ⟨[(1, .one (.ref 0 0 0 0)), (6, .one (.int .i64 (i_14 : Int)))], [.cells 0 7 [[.sl (m.Lattice.Names.map eS), .sl (m.Lattice.Below.map (eA2 eI)), .sl (m.Sites.map e_api_Site), .sl (m.Vars.map e_api_Var), .sl (m.Blocks.map e_api_Block), .sl (m.Tasks.map e_api_Task), .sl (m.Code.map (eL e_api_Ins))]]]⟩) (fun (e__ : Bool ⊕ Unit) (b__ : Unit) => match e__, b__ with | (.inl e_20), _ => ⟨[], []⟩ | (.inr ()), _ => ⟨[(1, .one (.ref 0 0 0 0))], [.cells 0 7 [[.sl (m.Lattice.Names.map eS), .sl (m.Lattice.Below.map (eA2 eI)), .sl (m.Sites.map e_api_Site), .sl (m.Vars.map e_api_Var), .sl (m.Blocks.map e_api_Block), .sl (m.Tasks.map e_api_Task), .sl (m.Code.map (eL e_api_Ins))]]]⟩) (fun (e__ : Bool ⊕ Unit) => match e__ with | (.inl _) => none | (.inr _) => some 4) () he_15 ?_ ?_
  intro i16 b16 hi16
  rcases e_15 with e_case | ⟨⟩
  cases hi16
  obtain rfl := Option.some.inj hi16
  obtain ⟨⟩ := b16
  dsimp only at h ⊢
  refine tt ?_
  repeat (with_reducible first | intro _ | refine ⟨ss, ?_⟩)
  refine fi h F (fun h _ F => ?_) (fun h _ F => ?_)
  refine bi h fun e_22 h he_22 => ?_
  refine tt ?_
  refine lE (fun (s__ : Nat) (a__ : Unit) => match s__, a__ with | i_21, _ => ⟨[(1, .one (.ref 0 0 0 0)), (8, .one (.int .i64 (i_21 : Int)))], [.cells 0 7 [[.sl (m.Lattice.Names.map eS), .sl (m.Lattice.Below.map (eA2 eI)), .sl (m.Sites.map e_api_Site), .sl (m.Vars.map e_api_Var), .sl (m.Blocks.map e_api_Block), .sl (m.Tasks.map e_api_Task), .sl (m.Code.map (eL e_api_Ins))]]]⟩) (fun (e__ : Bool ⊕ Unit) (b__ : Unit) => match e__, b__ with | (.inl e_28), _ => ⟨[], []⟩ | (.inr ()), _ => ⟨[], [.cells 0 7 [[.sl (m.Lattice.Names.map eS), .sl (m.Lattice.Below.map (eA2 eI)), .sl (m.Sites.map e_api_Site), .sl (m.Vars.map e_api_Var), .sl (m.Blocks.map e_api_Block), .sl (m.Tasks.map e_api_Task), .sl (m.Code.map (eL e_api_Ins))]]]⟩) (fun (e__ : Bool ⊕ Unit) => match e__ with | (.inl _) => none | (.inr _) => some 6) () he_22 ?_ ?_
  intro i23 b23 hi23
  rcases e_22 with e_case | ⟨⟩
  cases hi23
  obtain rfl := Option.some.inj hi23
  obtain ⟨⟩ := b23
  dsimp only at h ⊢
  cases h; exact fin
  intro af23 m23 i_21 a23 o23 hf23 ho23 ih23
  obtain ⟨⟩ := a23
  dsimp only [lazarettoref18_parts_L4] at hf23 ⊢
  refine tt ?_
  repeat (with_reducible first | intro _ | refine ⟨ss, ?_⟩)
  refine fl hf23 F (fun hf23 _ F => ?_) (fun hf23 _ F => ?_)
  refine bx hf23 F fun x_24 hf23 hx_24 F => ?_
  refine bi hf23 fun r_25 hf23 hr_25 => ?_
  refine tt ?_
  repeat (with_reducible first | intro _ | refine ⟨ss, ?_⟩)
  refine cD (lazarettoref18_task_ok hr_25) ?_
  refine tt ?_
  repeat (with_reducible first | intro _ | refine ⟨ss, ?_⟩)
  refine fv hf23 F (fun hf23 _ F => ?_) (fun hf23 _ F => ?_)
  refine bx hf23 F fun x_26 hf23 hx_26 F => ?_
  refine bi hf23 fun r_27 hf23 hr_27 => ?_
  refine tt ?_
  repeat (with_reducible first | intro _ | refine ⟨ss, ?_⟩)
  refine cD (lazarettoref17_Check_ok hr_27) ?_
  refine tt ?_
  repeat (with_reducible first | intro _ | refine ⟨ss, ?_⟩)
  refine fi hf23 F (fun hf23 _ F => ?_) (fun hf23 _ F => ?_)
  cases hf23
  refine tt ?_
  refine wn i_21 F fun F => ?_
  exact bk ih23 ho23 ()
  cases hf23
  obtain rfl := sr ho23
  try dsimp only at h
  cases h
  exact fin
  cases hf23
  obtain rfl := sr ho23
  try dsimp only at h
  cases h
  exact fin
  cases hf23
  refine tt ?_
  exact xt ho23 af23 ()
  cases h; exact fin
  intro af16 m16 i_14 a16 o16 hf16 ho16 ih16
  obtain ⟨⟩ := a16
  dsimp only [lazarettoref18_parts_L3] at hf16 ⊢
  refine tt ?_
  repeat (with_reducible first | intro _ | refine ⟨ss, ?_⟩)
  refine fl hf16 F (fun hf16 _ F => ?_) (fun hf16 _ F => ?_)
  refine bx hf16 F fun x_17 hf16 hx_17 F => ?_
  refine tt ?_
  repeat (with_reducible first | intro _ | refine ⟨ss, ?_⟩)
  refine fi hf16 F (fun hf16 _ F => ?_) (fun hf16 _ F => ?_)
  refine bi hf16 fun r_18 hf16 hr_18 => ?_
  refine tt ?_
  repeat (with_reducible first | intro _ | refine ⟨ss, ?_⟩)
  refine cS (lazarettoref01_Is_ok hr_18) ?_
  refine fv hf16 F (fun hf16 _ F => ?_) (fun hf16 _ F => ?_)
  refine bi hf16 fun r_19 hf16 hr_19 => ?_
  refine tt ?_
  repeat (with_reducible first | intro _ | refine ⟨ss, ?_⟩)
  refine cS (lazarettoref11_Inputs_ok hr_19) ?_
  refine tt ?_
  repeat (with_reducible first | intro _ | refine ⟨ss, ?_⟩)
  refine fi hf16 F (fun hf16 _ F => ?_) (fun hf16 _ F => ?_)
  cases hf16
  obtain rfl := sr ho16
  try dsimp only at h
  cases h
  exact fin
  cases hf16
  refine tt ?_
  refine wn i_14 F fun F => ?_
  exact bk ih16 ho16 ()
  cases hf16
  obtain rfl := sr ho16
  try dsimp only at h
  cases h
  exact fin
  cases hf16
  obtain rfl := sr ho16
  try dsimp only at h
  cases h
  exact fin
  cases hf16
  refine tt ?_
  exact xt ho16 af16 ()
  intro af10 m10 i_8 a10 o10 hf10 ho10 ih10
  obtain ⟨⟩ := a10
  dsimp only [lazarettoref18_parts_L2] at hf10 ⊢
  refine tt ?_
  repeat (with_reducible first | intro _ | refine ⟨ss, ?_⟩)
  refine fl hf10 F (fun hf10 _ F => ?_) (fun hf10 _ F => ?_)
  refine bx hf10 F fun x_11 hf10 hx_11 F => ?_
  refine bi hf10 fun r_12 hf10 hr_12 => ?_
  refine tt ?_
  repeat (with_reducible first | intro _ | refine ⟨ss, ?_⟩)
  refine cD (lazarettoref18_variable_ok hr_12) ?_
  refine tt ?_
  repeat (with_reducible first | intro _ | refine ⟨ss, ?_⟩)
  refine fv hf10 F (fun hf10 _ F => ?_) (fun hf10 _ F => ?_)
  cases hf10
  refine tt ?_
  refine wn i_8 F fun F => ?_
  exact bk ih10 ho10 ()
  cases hf10
  obtain rfl := sr ho10
  try dsimp only at h
  cases h
  exact fin
  cases hf10
  refine tt ?_
  exact xt ho10 af10 ()
  intro af3 m3 i_1 a3 o3 hf3 ho3 ih3
  obtain ⟨⟩ := a3
  dsimp only [lazarettoref18_parts_L1] at hf3 ⊢
  refine tt ?_
  repeat (with_reducible first | intro _ | refine ⟨ss, ?_⟩)
  refine fl hf3 F (fun hf3 _ F => ?_) (fun hf3 _ F => ?_)
  refine bx hf3 F fun x_4 hf3 hx_4 F => ?_
  refine tt ?_
  repeat (with_reducible first | intro _ | refine ⟨ss, ?_⟩)
  refine fi hf3 F (fun hf3 _ F => ?_) (fun hf3 _ F => ?_)
  refine bi hf3 fun r_5 hf3 hr_5 => ?_
  refine tt ?_
  repeat (with_reducible first | intro _ | refine ⟨ss, ?_⟩)
  refine cS (lazarettoref01_Is_ok hr_5) ?_
  refine fv hf3 F (fun hf3 _ F => ?_) (fun hf3 _ F => ?_)
  refine bi hf3 fun r_6 hf3 hr_6 => ?_
  refine tt ?_
  repeat (with_reducible first | intro _ | refine ⟨ss, ?_⟩)
  refine cS (lazarettoref01_Is_ok hr_6) ?_
  refine fv hf3 F (fun hf3 _ F => ?_) (fun hf3 _ F => ?_)
  cases hf3
  refine tt ?_
  refine wn i_1 F fun F => ?_
  exact bk ih3 ho3 ()
  cases hf3
  obtain rfl := sr ho3
  try dsimp only at h
  cases h
  exact fin
  cases hf3
  obtain rfl := sr ho3
  try dsimp only at h
  cases h
  exact fin
  cases hf3
  obtain rfl := sr ho3
  try dsimp only at h
  cases h
  exact fin
  cases hf3
  refine tt ?_
  exact xt ho3 af3 ()
theorem lazarettoref18_Check_ok {m : api_Image} {r : Int} (h : lazarettoref18_Check m = some r) :
    Pu Try.prog 15 [.agg (e_api_Image m)] (.one (.int .i64 r)) := by
  have F := trivial; have R := trivial
  refine pA Try.func15 ?_
  simp only [Try.f15]
  unfold lazarettoref18_Check at h
  refine bi h fun r_1 h hr_1 => ?_
  refine tt ?_
  repeat (with_reducible first | intro _ | refine ⟨ss, ?_⟩)
  refine cS (lazarettoref18_caps_ok hr_1) ?_
  refine fv h F (fun h _ F => ?_) (fun h _ F => ?_)
  refine bi h fun r_2 h hr_2 => ?_
  refine tt ?_
  repeat (with_reducible first | intro _ | refine ⟨ss, ?_⟩)
  refine cS (lazarettoref01_Check_ok hr_2) ?_
  refine fi h F (fun h _ F => ?_) (fun h _ F => ?_)
  refine bi h fun r_3 h hr_3 => ?_
  refine tt ?_
  repeat (with_reducible first | intro _ | refine ⟨ss, ?_⟩)
  refine cS (lazarettoref18_parts_ok hr_3) ?_
  refine fv h F (fun h _ F => ?_) (fun h _ F => ?_)
  cases h; exact fin
  cases h; exact fin
  cases h; exact fin
  cases h; exact fin
theorem lazarettoref23_Forced_ok {l : api_Lattice} {latches : List Int} {label : Int} {r : Bool} (h : lazarettoref23_Forced l latches label = some r) :
    Pu Try.prog 49 [.agg (e_api_Lattice l), .one (.sl (latches.map eI)), .one (.int .i64 label)] (.one (.bool r)) := by
  have F := trivial; have R := trivial
  refine pA Try.func49 ?_
  simp only [Try.f49]
  unfold lazarettoref23_Forced at h
  refine bi h fun e_2 h he_2 => ?_
  refine tt ?_
  refine lE (fun (s__ : Nat) (a__ : Unit) => match s__, a__ with | i_1, _ => ⟨[(1, .one (.sl (latches.map eI))), (2, .one (.int .i64 label)), (3, .one (.ref 0 0 0 0)), (7, .one (.int .i64 (i_1 : Int)))], [.cells 0 2 [[.sl (l.Names.map eS), .sl (l.Below.map (eA2 eI))]]]⟩) (fun (e__ : Bool ⊕ Unit) (b__ : Unit) => match e__, b__ with | (.inl e_6), _ => ⟨[], []⟩ | (.inr ()), _ => ⟨[], [.cells 0 2 [[.sl (l.Names.map eS), .sl (l.Below.map (eA2 eI))]]]⟩) (fun (e__ : Bool ⊕ Unit) => match e__ with | (.inl _) => none | (.inr _) => some 0) () he_2 ?_ ?_
  intro i3 b3 hi3
  rcases e_2 with e_case | ⟨⟩
  cases hi3
  obtain rfl := Option.some.inj hi3
  obtain ⟨⟩ := b3
  dsimp only at h ⊢
  cases h; exact fin
  intro af3 m3 i_1 a3 o3 hf3 ho3 ih3
  obtain ⟨⟩ := a3
  dsimp only [lazarettoref23_Forced_L1] at hf3 ⊢
  refine tt ?_
  repeat (with_reducible first | intro _ | refine ⟨ss, ?_⟩)
  refine fl hf3 F (fun hf3 _ F => ?_) (fun hf3 _ F => ?_)
  refine bx hf3 F fun x_4 hf3 hx_4 F => ?_
  refine tt ?_
  repeat (with_reducible first | intro _ | refine ⟨ss, ?_⟩)
  refine fi hf3 F (fun hf3 _ F => ?_) (fun hf3 _ F => ?_)
  cases hf3
  refine tt ?_
  refine wn i_1 F fun F => ?_
  exact bk ih3 ho3 ()
  refine bi hf3 fun r_5 hf3 hr_5 => ?_
  refine tt ?_
  repeat (with_reducible first | intro _ | refine ⟨ss, ?_⟩)
  refine cS (lazarettoref01_Leq_ok hr_5) ?_
  refine fv hf3 F (fun hf3 _ F => ?_) (fun hf3 _ F => ?_)
  cases hf3
  obtain rfl := sr ho3
  try dsimp only at h
  cases h
  exact fin
  cases hf3
  refine tt ?_
  refine wn i_1 F fun F => ?_
  exact bk ih3 ho3 ()
  cases hf3
  refine tt ?_
  exact xt ho3 af3 ()
theorem lazarettoref23_Outputs_ok {m : api_Image} {mem : api_Memory} {latches : List Int} {r : List Int} (h : lazarettoref23_Outputs m mem latches = some r) :
    Pu Try.prog 19 [.agg (e_api_Image m), .agg (e_api_Memory mem), .one (.sl (latches.map eI))] (.one (.sl (r.map eI))) := by
  have F := trivial; have R := trivial
  refine pA Try.func19 ?_
  simp only [Try.f19]
  unfold lazarettoref23_Outputs at h
  refine bi h fun e_5 h he_5 => ?_
  refine tt ?_
  refine seed_L 7 1 (by simp [go_sem]) ?_
  refine lE (fun (s__ : (List Int) × Nat) (a__ : Nat) => match s__, a__ with | (out_2, i_4), v_1 => ⟨[(2, .one (.sl (latches.map eI))), (3, .one (.ref 0 0 0 0)), (4, .one (.ref 1 0 0 0)), (7, .one (.msl 2 v_1 0 out_2.length)), (8, .one (.int .i64 (i_4 : Int)))], [.cells 0 7 [[.sl (m.Lattice.Names.map eS), .sl (m.Lattice.Below.map (eA2 eI)), .sl (m.Sites.map e_api_Site), .sl (m.Vars.map e_api_Var), .sl (m.Blocks.map e_api_Block), .sl (m.Tasks.map e_api_Task), .sl (m.Code.map (eL e_api_Ins))]], .cells 0 2 [[.sl (mem.Cells.map (eL eI)), .sl (mem.Blocks.map (eA4 eI))]], .cells v_1 1 (out_2.map eI)]⟩) (fun (e__ : List Int) (b__ : Nat) => match e__, b__ with | e_5, b6 => ⟨[(7, .one (.msl 2 b6 0 e_5.length))], [.cells 0 7 [[.sl (m.Lattice.Names.map eS), .sl (m.Lattice.Below.map (eA2 eI)), .sl (m.Sites.map e_api_Site), .sl (m.Vars.map e_api_Var), .sl (m.Blocks.map e_api_Block), .sl (m.Tasks.map e_api_Task), .sl (m.Code.map (eL e_api_Ins))]], .cells 0 2 [[.sl (mem.Cells.map (eL eI)), .sl (mem.Blocks.map (eA4 eI))]], .cells b6 1 (e_5.map eI)]⟩) (fun (_ : List Int) => some 0) 0 he_5 ?_ ?_
  intro i6 b6 hi6
  obtain rfl := Option.some.inj hi6
  dsimp only at h ⊢
  cases h; exact fin
  intro af6 m6 s6 v_1 o6 hf6 ho6 ih6
  obtain ⟨out_2, i_4⟩ := s6
  dsimp only [lazarettoref23_Outputs_L1] at hf6 ⊢
  refine tt ?_
  repeat (with_reducible first | intro _ | refine ⟨ss, ?_⟩)
  refine fl hf6 F (fun hf6 _ F => ?_) (fun hf6 _ F => ?_)
  refine bx hf6 F fun x_7 hf6 hx_7 F => ?_
  refine tt ?_
  repeat (with_reducible first | intro _ | refine ⟨ss, ?_⟩)
  refine fi hf6 F (fun hf6 _ F => ?_) (fun hf6 _ F => ?_)
  refine tt ?_
  repeat (with_reducible first | intro _ | refine ⟨ss, ?_⟩)
  refine fl hf6 F (fun hf6 _ F => ?_) (fun hf6 _ F => ?_)
  refine bx hf6 F fun x_8 hf6 hx_8 F => ?_
  refine tt ?_
  repeat (with_reducible first | intro _ | refine ⟨ss, ?_⟩)
  refine fi hf6 F (fun hf6 _ F => ?_) (fun hf6 _ F => ?_)
  refine bx hf6 F fun x_9 hf6 hx_9 F => ?_
  refine bi hf6 fun r_10 hf6 hr_10 => ?_
  refine tt ?_
  repeat (with_reducible first | intro _ | refine ⟨ss, ?_⟩)
  refine cS (lazarettoref23_Forced_ok hr_10) ?_
  refine fv hf6 F (fun hf6 _ F => ?_) (fun hf6 _ F => ?_)
  refine nd hf6 F fun hf6 F => ?_
  cases hf6
  refine tt ?_
  repeat (with_reducible first | intro _ | refine ⟨ss, ?_⟩)
  refine wn i_4 F fun F => ?_
  exact bk ih6 ho6 (v_1 + 1)
  refine nd hf6 F fun hf6 F => ?_
  cases hf6
  refine tt ?_
  repeat (with_reducible first | intro _ | refine ⟨ss, ?_⟩)
  refine wn i_4 F fun F => ?_
  exact bk ih6 ho6 (v_1 + 1)
  refine bi hf6 fun r_13 hf6 hr_13 => ?_
  refine tt ?_
  repeat (with_reducible first | intro _ | refine ⟨ss, ?_⟩)
  refine cS (lazarettoref23_Forced_ok hr_13) ?_
  refine fv hf6 F (fun hf6 _ F => ?_) (fun hf6 _ F => ?_)
  refine nd hf6 F fun hf6 F => ?_
  cases hf6
  refine tt ?_
  repeat (with_reducible first | intro _ | refine ⟨ss, ?_⟩)
  refine wn i_4 F fun F => ?_
  exact bk ih6 ho6 (v_1 + 1)
  refine nd hf6 F fun hf6 F => ?_
  cases hf6
  refine tt ?_
  repeat (with_reducible first | intro _ | refine ⟨ss, ?_⟩)
  refine wn i_4 F fun F => ?_
  exact bk ih6 ho6 (v_1 + 1)
  refine bi hf6 fun r_16 hf6 hr_16 => ?_
  refine tt ?_
  repeat (with_reducible first | intro _ | refine ⟨ss, ?_⟩)
  refine cS (lazarettoref23_Forced_ok hr_16) ?_
  refine fv hf6 F (fun hf6 _ F => ?_) (fun hf6 _ F => ?_)
  refine nd hf6 F fun hf6 F => ?_
  cases hf6
  refine tt ?_
  repeat (with_reducible first | intro _ | refine ⟨ss, ?_⟩)
  refine wn i_4 F fun F => ?_
  exact bk ih6 ho6 (v_1 + 1)
  refine nd hf6 F fun hf6 F => ?_
  cases hf6
  refine tt ?_
  repeat (with_reducible first | intro _ | refine ⟨ss, ?_⟩)
  refine wn i_4 F fun F => ?_
  exact bk ih6 ho6 (v_1 + 1)
  cases hf6
  refine tt ?_
  refine wn i_4 F fun F => ?_
  exact bk ih6 ho6 v_1
  cases hf6
  refine tt ?_
  exact xt ho6 af6 v_1
theorem lazarettolaw23_LatchesOutputs_ok {m : api_Image} {mem : api_Memory} {x : List Int} {r : Bool} (h : lazarettolaw23_LatchesOutputs m mem x = some r) :
    Pu Try.prog 3 [.agg (e_api_Image m), .agg (e_api_Memory mem), .one (.sl (x.map eI))] (.one (.bool r)) := by
  have F := trivial; have R := trivial
  refine pA Try.func3 ?_
  simp only [Try.f3]
  unfold lazarettolaw23_LatchesOutputs at h
  refine bi h fun r_1 h hr_1 => ?_
  refine tt ?_
  repeat (with_reducible first | intro _ | refine ⟨ss, ?_⟩)
  refine cS (lazarettolaw18_Few_ok hr_1) ?_
  refine fi h F (fun h _ F => ?_) (fun h _ F => ?_)
  refine bi h fun r_2 h hr_2 => ?_
  refine tt ?_
  repeat (with_reducible first | intro _ | refine ⟨ss, ?_⟩)
  refine cS (lazarettolaw23_awake_ok hr_2) ?_
  cases h; exact fin
  refine bi h fun r_3 h hr_3 => ?_
  refine tt ?_
  repeat (with_reducible first | intro _ | refine ⟨ss, ?_⟩)
  refine cS (lazarettoref18_Check_ok hr_3) ?_
  refine fi h F (fun h _ F => ?_) (fun h _ F => ?_)
  refine tt ?_
  repeat (with_reducible first | intro _ | refine ⟨ss, ?_⟩)
  refine fi h F (fun h _ F => ?_) (fun h _ F => ?_)
  refine bi h fun r_4 h hr_4 => ?_
  refine tt ?_
  repeat (with_reducible first | intro _ | refine ⟨ss, ?_⟩)
  refine cS (lazarettolaw23_awake_ok hr_4) ?_
  cases h; exact fin
  refine bi h fun r_5 h hr_5 => ?_
  refine tt ?_
  repeat (with_reducible first | intro _ | refine ⟨ss, ?_⟩)
  refine cD (latches_Outputs_ok hr_5) ?_
  refine bi h fun r_6 h hr_6 => ?_
  refine tt ?_
  repeat (with_reducible first | intro _ | refine ⟨ss, ?_⟩)
  refine cD (lazarettoref23_Outputs_ok hr_6) ?_
  refine bi h fun r_7 h hr_7 => ?_
  refine tt ?_
  repeat (with_reducible first | intro _ | refine ⟨ss, ?_⟩)
  refine cD (lazarettoref04_Ints_ok hr_7) ?_
  refine tt ?_
  repeat (with_reducible first | intro _ | refine ⟨ss, ?_⟩)
  refine fv h F (fun h _ F => ?_) (fun h _ F => ?_)
  refine bi h fun r_8 h hr_8 => ?_
  refine tt ?_
  repeat (with_reducible first | intro _ | refine ⟨ss, ?_⟩)
  refine cD (lazarettolaw23_awake_ok hr_8) ?_
  cases h; exact fin
  cases h; exact fin
  refine bi h fun r_9 h hr_9 => ?_
  refine tt ?_
  repeat (with_reducible first | intro _ | refine ⟨ss, ?_⟩)
  refine cS (lazarettolaw23_awake_ok hr_9) ?_
  cases h; exact fin
theorem lazarettolaw23_LatchesJust_ok {m : api_Image} {n : List Int} {x : List Int} {r : Bool} (h : lazarettolaw23_LatchesJust m n x = some r) :
    Pu Try.prog 5 [.agg (e_api_Image m), .one (.sl (n.map eI)), .one (.sl (x.map eI))] (.one (.bool r)) := by
  have F := trivial; have R := trivial
  refine pA Try.func5 ?_
  simp only [Try.f5]
  unfold lazarettolaw23_LatchesJust at h
  refine bi h fun r_1 h hr_1 => ?_
  refine tt ?_
  repeat (with_reducible first | intro _ | refine ⟨ss, ?_⟩)
  refine cS (lazarettolaw18_Few_ok hr_1) ?_
  refine fi h F (fun h _ F => ?_) (fun h _ F => ?_)
  refine bi h fun r_2 h hr_2 => ?_
  refine tt ?_
  repeat (with_reducible first | intro _ | refine ⟨ss, ?_⟩)
  refine cS (lazarettolaw23_awake_ok hr_2) ?_
  cases h; exact fin
  refine bi h fun r_3 h hr_3 => ?_
  refine tt ?_
  repeat (with_reducible first | intro _ | refine ⟨ss, ?_⟩)
  refine cS (lazarettoref18_Check_ok hr_3) ?_
  refine fi h F (fun h _ F => ?_) (fun h _ F => ?_)
  refine tt ?_
  repeat (with_reducible first | intro _ | refine ⟨ss, ?_⟩)
  refine fi h F (fun h _ F => ?_) (fun h _ F => ?_)
  refine bi h fun r_4 h hr_4 => ?_
  refine tt ?_
  repeat (with_reducible first | intro _ | refine ⟨ss, ?_⟩)
  refine cS (lazarettolaw23_awake_ok hr_4) ?_
  cases h; exact fin
  refine tt ?_
  repeat (with_reducible first | intro _ | refine ⟨ss, ?_⟩)
  refine fl h F (fun h _ F => ?_) (fun h _ F => ?_)
  refine bi h fun r_5 h hr_5 => ?_
  refine tt ?_
  repeat (with_reducible first | intro _ | refine ⟨ss, ?_⟩)
  refine cS (lazarettolaw23_awake_ok hr_5) ?_
  cases h; exact fin
  refine tt ?_
  repeat (with_reducible first | intro _ | refine ⟨ss, ?_⟩)
  refine fi h F (fun h _ F => ?_) (fun h _ F => ?_)
  refine bi h fun r_6 h hr_6 => ?_
  refine tt ?_
  repeat (with_reducible first | intro _ | refine ⟨ss, ?_⟩)
  refine cS (lazarettolaw23_awake_ok hr_6) ?_
  cases h; exact fin
  refine bi h fun e_10 h he_10 => ?_
  refine tt ?_
  refine seed_C 1 0 1 (by rfl) (by rfl) ?_
  refine lE (fun (s__ : (List (List Int)) × Nat) (a__ : Nat) => match s__, a__ with | (xs_8, i_9), v_7 => ⟨[(1, .one (.sl (n.map eI))), (2, .one (.sl (x.map eI))), (3, .one (.ref 0 0 0 0)), (7, .one (.ref 1 0 0 0)), (8, .one (.int .i64 (i_9 : Int)))], [.cells 0 7 [[.sl (m.Lattice.Names.map eS), .sl (m.Lattice.Below.map (eA2 eI)), .sl (m.Sites.map e_api_Site), .sl (m.Vars.map e_api_Var), .sl (m.Blocks.map e_api_Block), .sl (m.Tasks.map e_api_Task), .sl (m.Code.map (eL e_api_Ins))]], .cells 0 2 [[.msl 2 v_7 0 xs_8.length, .slf []]], .cells v_7 1 (xs_8.map (eL eI))]⟩) (fun (e__ : List (List Int)) (b__ : Nat) => match e__, b__ with | e_10, b11 => ⟨[(1, .one (.sl (n.map eI))), (2, .one (.sl (x.map eI))), (3, .one (.ref 0 0 0 0)), (7, .one (.ref 1 0 0 0))], [.cells 0 7 [[.sl (m.Lattice.Names.map eS), .sl (m.Lattice.Below.map (eA2 eI)), .sl (m.Sites.map e_api_Site), .sl (m.Vars.map e_api_Var), .sl (m.Blocks.map e_api_Block), .sl (m.Tasks.map e_api_Task), .sl (m.Code.map (eL e_api_Ins))]], .cells 0 2 [[.msl 2 b11 0 e_10.length, .slf []]], .cells b11 1 (e_10.map (eL eI))]⟩) (fun (_ : List (List Int)) => some 0) 0 he_10 ?_ ?_
  intro i11 b11 hi11
  obtain rfl := Option.some.inj hi11
  dsimp only at h ⊢
  refine bi h fun r_15 h hr_15 => ?_
  refine tt ?_
  repeat (with_reducible first | intro _ | refine ⟨ss, ?_⟩)
  refine cF [2] (latches_Outputs_ok hr_15) ?_
  refine bi h fun e_18 h he_18 => ?_
  refine tt ?_
  refine lE (fun (s__ : Nat × Nat) (a__ : Unit) => match s__, a__ with | (k_16, i_17), _ => ⟨[(1, .one (.sl (n.map eI))), (2, .one (.sl (x.map eI))), (3, .one (.ref 0 0 0 0)), (9, .one (.sl (r_15.map eI))), (10, .one (.int .i64 (k_16 : Int))), (11, .one (.int .i64 (i_17 : Int)))], [.cells 0 7 [[.sl (m.Lattice.Names.map eS), .sl (m.Lattice.Below.map (eA2 eI)), .sl (m.Sites.map e_api_Site), .sl (m.Vars.map e_api_Var), .sl (m.Blocks.map e_api_Block), .sl (m.Tasks.map e_api_Task), .sl (m.Code.map (eL e_api_Ins))]], .cells 0 2 [[.msl 2 b11 0 e_10.length, .slf []]], .dead]⟩) (fun (e__ : Bool ⊕ Nat) (b__ : Unit) => match e__, b__ with | (.inl e_30), _ => ⟨[], []⟩ | (.inr k_31), _ => ⟨[(9, .one (.sl (r_15.map eI))), (10, .one (.int .i64 (k_31 : Int)))], [.cells 0 7 [[.sl (m.Lattice.Names.map eS), .sl (m.Lattice.Below.map (eA2 eI)), .sl (m.Sites.map e_api_Site), .sl (m.Vars.map e_api_Var), .sl (m.Blocks.map e_api_Block), .sl (m.Tasks.map e_api_Task), .sl (m.Code.map (eL e_api_Ins))]], .cells 0 2 [[.msl 2 b11 0 e_10.length, .slf []]], .dead]⟩) (fun (e__ : Bool ⊕ Nat) => match e__ with | (.inl _) => none | (.inr _) => some 2) () he_18 ?_ ?_
  intro i19 b19 hi19
  rcases e_18 with e_case | k_31
  cases hi19
  obtain rfl := Option.some.inj hi19
  obtain ⟨⟩ := b19
  dsimp only at h ⊢
  refine tt ?_
  repeat (with_reducible first | intro _ | refine ⟨ss, ?_⟩)
  refine fi h F (fun h _ F => ?_) (fun h _ F => ?_)
  refine bi h fun r_32 h hr_32 => ?_
  refine tt ?_
  repeat (with_reducible first | intro _ | refine ⟨ss, ?_⟩)
  refine cS (lazarettolaw23_awake_ok hr_32) ?_
  cases h; exact fin
  cases h; exact fin
  intro af19 m19 s19 a19 o19 hf19 ho19 ih19
  obtain ⟨k_16, i_17⟩ := s19
  obtain ⟨⟩ := a19
  dsimp only [lazarettolaw23_LatchesJust_L2] at hf19 ⊢
  refine tt ?_
  repeat (with_reducible first | intro _ | refine ⟨ss, ?_⟩)
  refine fl hf19 F (fun hf19 _ F => ?_) (fun hf19 _ F => ?_)
  refine bx hf19 F fun x_20 hf19 hx_20 F => ?_
  refine tt ?_
  repeat (with_reducible first | intro _ | refine ⟨ss, ?_⟩)
  refine fi hf19 F (fun hf19 _ F => ?_) (fun hf19 _ F => ?_)
  refine bx hf19 F fun x_21 hf19 hx_21 F => ?_
  refine bi hf19 fun e_24 hf19 he_24 => ?_
  refine tt ?_
  repeat (with_reducible first | intro _ | refine ⟨ss, ?_⟩)
  refine lE (fun (s__ : Int × Nat) (a__ : Unit) => match s__, a__ with | (want_22, a_23), _ => ⟨[(1, .one (.sl (n.map eI))), (2, .one (.sl (x.map eI))), (3, .one (.ref 0 0 0 0)), (9, .one (.sl (r_15.map eI))), (10, .one (.int .i64 (k_16 : Int))), (11, .one (.int .i64 (i_17 : Int))), (12, .one (.int .i64 want_22)), (13, .one (.int .i64 (a_23 : Int)))], [.cells 0 7 [[.sl (m.Lattice.Names.map eS), .sl (m.Lattice.Below.map (eA2 eI)), .sl (m.Sites.map e_api_Site), .sl (m.Vars.map e_api_Var), .sl (m.Blocks.map e_api_Block), .sl (m.Tasks.map e_api_Task), .sl (m.Code.map (eL e_api_Ins))]], .cells 0 2 [[.msl 2 b11 0 e_10.length, .slf []]], .dead]⟩) (fun (e__ : Int) (b__ : Unit) => match e__, b__ with | e_24, _ => ⟨[(1, .one (.sl (n.map eI))), (2, .one (.sl (x.map eI))), (3, .one (.ref 0 0 0 0)), (9, .one (.sl (r_15.map eI))), (10, .one (.int .i64 (k_16 : Int))), (11, .one (.int .i64 (i_17 : Int))), (12, .one (.int .i64 e_24))], [.cells 0 7 [[.sl (m.Lattice.Names.map eS), .sl (m.Lattice.Below.map (eA2 eI)), .sl (m.Sites.map e_api_Site), .sl (m.Vars.map e_api_Var), .sl (m.Blocks.map e_api_Block), .sl (m.Tasks.map e_api_Task), .sl (m.Code.map (eL e_api_Ins))]], .cells 0 2 [[.msl 2 b11 0 e_10.length, .slf []]], .dead]⟩) (fun (_ : Int) => some 4) () he_24 ?_ ?_
  intro i25 b25 hi25
  obtain rfl := Option.some.inj hi25
  obtain ⟨⟩ := b25
  dsimp only at hf19 ⊢
  refine tt ?_
  repeat (with_reducible first | intro _ | refine ⟨ss, ?_⟩)
  refine fm hf19 F (fun hf19 _ F => ?_) (fun hf19 _ F => ?_)
  cases hf19
  obtain rfl := sr ho19
  try dsimp only at h
  cases h
  exact fin
  refine bx hf19 F fun x_29 hf19 hx_29 F => ?_
  refine tt ?_
  repeat (with_reducible first | intro _ | refine ⟨ss, ?_⟩)
  refine fi hf19 F (fun hf19 _ F => ?_) (fun hf19 _ F => ?_)
  cases hf19
  refine tt ?_
  refine wn k_16 F fun F => ?_
  refine wn i_17 F fun F => ?_
  exact bk ih19 ho19 ()
  cases hf19
  obtain rfl := sr ho19
  try dsimp only at h
  cases h
  exact fin
  intro af25 m25 s25 a25 o25 hf25 ho25 ih25
  obtain ⟨want_22, a_23⟩ := s25
  obtain ⟨⟩ := a25
  dsimp only [lazarettolaw23_LatchesJust_L3] at hf25 ⊢
  refine tt ?_
  repeat (with_reducible first | intro _ | refine ⟨ss, ?_⟩)
  refine fl hf25 F (fun hf25 _ F => ?_) (fun hf25 _ F => ?_)
  refine bx hf25 F fun x_26 hf25 hx_26 F => ?_
  refine tt ?_
  repeat (with_reducible first | intro _ | refine ⟨ss, ?_⟩)
  refine fi hf25 F (fun hf25 _ F => ?_) (fun hf25 _ F => ?_)
  cases hf25
  refine tt ?_
  repeat (with_reducible first | intro _ | refine ⟨ss, ?_⟩)
  refine wn a_23 F fun F => ?_
  exact bk ih25 ho25 ()
  refine bi hf25 fun r_27 hf25 hr_27 => ?_
  refine tt ?_
  repeat (with_reducible first | intro _ | refine ⟨ss, ?_⟩)
  refine cD (lazarettoref01_Leq_ok hr_27) ?_
  refine tt ?_
  repeat (with_reducible first | intro _ | refine ⟨ss, ?_⟩)
  refine fv hf25 F (fun hf25 _ F => ?_) (fun hf25 _ F => ?_)
  cases hf25
  refine tt ?_
  repeat (with_reducible first | intro _ | refine ⟨ss, ?_⟩)
  refine wn a_23 F fun F => ?_
  exact bk ih25 ho25 ()
  cases hf25
  refine tt ?_
  refine wn a_23 F fun F => ?_
  exact bk ih25 ho25 ()
  cases hf25
  refine tt ?_
  exact xt ho25 af25 ()
  cases hf19
  refine tt ?_
  refine wn i_17 F fun F => ?_
  exact bk ih19 ho19 ()
  cases hf19
  refine tt ?_
  exact xt ho19 af19 ()
  intro af11 m11 s11 v_7 o11 hf11 ho11 ih11
  obtain ⟨xs_8, i_9⟩ := s11
  dsimp only [lazarettolaw23_LatchesJust_L1] at hf11 ⊢
  refine tt ?_
  repeat (with_reducible first | intro _ | refine ⟨ss, ?_⟩)
  refine fl hf11 F (fun hf11 _ F => ?_) (fun hf11 _ F => ?_)
  refine bx hf11 F fun x_12 hf11 hx_12 F => ?_
  refine nd hf11 F fun hf11 F => ?_
  cases hf11
  refine tt ?_
  repeat (with_reducible first | intro _ | refine ⟨ss, ?_⟩)
  refine wn i_9 F fun F => ?_
  exact bk ih11 ho11 (v_7 + 1)
  cases hf11
  refine tt ?_
  exact xt ho11 af11 v_7
  refine bi h fun r_33 h hr_33 => ?_
  refine tt ?_
  repeat (with_reducible first | intro _ | refine ⟨ss, ?_⟩)
  refine cS (lazarettolaw23_awake_ok hr_33) ?_
  cases h; exact fin
end Go.Lz
