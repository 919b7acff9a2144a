/- V18r -/
import Derived.Test.YtakkdadfikcpoaaGreatV18w
namespace Go.Lz
set_option linter.unusedVariables false
set_option linter.unusedSimpArgs false
open Go.Proofs
attribute [-go_sem] q_cond g_b gd_b
set_option maxRecDepth 100000
set_option maxHeartbeats 4000000
noncomputable section
def lazarettoref18_caps_L2 (m : api_Image) : Nat → Option ((Nat) ⊕ (Bool ⊕ Unit))
  | i_6 => if (i_6 : Int) < (m.Code.length : Int) then ((m.Code[i_6]?).bind fun x_9 => if 32768 < (x_9.length : Int) then (some (.inr (.inl (false)))) else (some (.inl (i_6 + 1)))) else (some (.inr (.inr (()))))
def lazarettoref18_caps_L1 (m : api_Image) : Nat → Option ((Nat) ⊕ (Bool ⊕ Unit))
  | i_1 => if (i_1 : Int) < (m.Lattice.Names.length : Int) then ((m.Lattice.Names[i_1]?).bind fun x_4 => if 32 < (x_4.length : Int) then (some (.inr (.inl (false)))) else (some (.inl (i_1 + 1)))) else (some (.inr (.inr (()))))
def lazarettoref18_caps (m : api_Image) : Option Bool :=
  if 8 < (m.Lattice.Names.length : Int) then (some false) else (if 8 < (m.Sites.length : Int) then (some false) else (if 12 < (m.Blocks.length : Int) then (some false) else (if 4 < (m.Tasks.length : Int) then (some false) else (if 96 < (m.Vars.length : Int) then (some false) else (if 64 < (m.Lattice.Below.length : Int) then (some false) else ((loop (lazarettoref18_caps_L1 m) 0).bind (fun e__ => match e__ with | (.inl e_5) => some e_5 | (.inr ()) => (loop (lazarettoref18_caps_L2 m) 0).bind (fun e__ => match e__ with | (.inl e_10) => some e_10 | (.inr ()) => some true))))))))
def lazarettoref01_Is (l : api_Lattice) (a : Int) : Option Bool :=
  if 0 ≤ a then (some (decide (a < (l.Names.length : Int)))) else (some false)
def lazarettoref01_Leq_L2 (l : api_Lattice) : ((List Bool) × Bool × Nat) → Option (((List Bool) × Bool × Nat) ⊕ ((List Bool) × Bool))
  | (above_9, more_10, i_11) => if (i_11 : Int) < (l.Below.length : Int) then ((l.Below[i_11]?).bind fun x_14 => (lazarettoref01_Is l x_14.a0).bind fun r_15 => if r_15 = true then ((lazarettoref01_Is l x_14.a1).bind fun r_16 => if r_16 = true then ((idx above_9 x_14.a0).bind fun x_17 => if x_17 = true then ((idx above_9 x_14.a1).bind fun x_18 => if x_18 = true then (some (.inl (above_9, more_10, (i_11 + 1)))) else (some (.inl ((above_9.set x_14.a1.toNat true), true, (i_11 + 1))))) else (some (.inl (above_9, more_10, (i_11 + 1))))) else (some (.inl (above_9, more_10, (i_11 + 1))))) else (some (.inl (above_9, more_10, (i_11 + 1))))) else (some (.inr ((above_9, more_10))))
def lazarettoref01_Leq_L1 (l : api_Lattice) : ((List Bool) × Bool) → Option (((List Bool) × Bool) ⊕ (List Bool))
  | (above_5, more_6) => if more_6 = true then ((loop (lazarettoref01_Leq_L2 l) (above_5, false, 0)).bind (fun (above_19, more_20) => some (.inl (above_19, more_20)))) else (some (.inr (above_5)))
def lazarettoref01_Leq (l : api_Lattice) (a : Int) (b : Int) : Option Bool :=
  (lazarettoref01_Is l a).bind fun r_1 => if r_1 = true then ((lazarettoref01_Is l b).bind fun r_2 => if r_2 = true then (need (0 ≤ (l.Names.length : Int) ∧ 1 * (l.Names.length : Int) ≤ 140737488355328) ((idx (List.replicate l.Names.length false) a).bind fun x_4 => (loop (lazarettoref01_Leq_L1 l) (((List.replicate l.Names.length false).set a.toNat true), true)).bind (fun e_7 => (idx e_7 b).bind fun x_22 => some x_22))) else (some false)) else (some false)
def lazarettoref01_Join_L3 (l : api_Lattice) (a : Int) (b : Int) (c_1 : Nat) : (Bool × Nat) → Option ((Bool × Nat) ⊕ (Bool))
  | (ok_14, d_15) => if (d_15 : Int) < (l.Names.length : Int) then (if ok_14 = true then ((lazarettoref01_Leq l a (d_15 : Int)).bind fun r_18 => if r_18 = true then ((lazarettoref01_Leq l b (d_15 : Int)).bind fun r_19 => if r_19 = true then ((lazarettoref01_Leq l (c_1 : Int) (d_15 : Int)).bind fun r_20 => some (.inl (r_20, (d_15 + 1)))) else (some (.inl (true, (d_15 + 1))))) else (some (.inl (true, (d_15 + 1))))) else (some (.inr (ok_14)))) else (some (.inr (ok_14)))
def lazarettoref01_Join_L2 (l : api_Lattice) (a : Int) (b : Int) (c_1 : Nat) : (Bool × Nat) → Option ((Bool × Nat) ⊕ (Bool))
  | (ok_6, d_7) => if (d_7 : Int) < (l.Names.length : Int) then (if ok_6 = true then ((lazarettoref01_Leq l a (d_7 : Int)).bind fun r_10 => if r_10 = true then ((lazarettoref01_Leq l b (d_7 : Int)).bind fun r_11 => if r_11 = true then ((lazarettoref01_Leq l (c_1 : Int) (d_7 : Int)).bind fun r_12 => some (.inl (r_12, (d_7 + 1)))) else (some (.inl (true, (d_7 + 1))))) else (some (.inl (true, (d_7 + 1))))) else (some (.inr (ok_6)))) else (some (.inr (ok_6)))
def lazarettoref01_Join_L1 (l : api_Lattice) (a : Int) (b : Int) : Nat → Option ((Nat) ⊕ (Int ⊕ Unit))
  | c_1 => if (c_1 : Int) < (l.Names.length : Int) then ((lazarettoref01_Leq l a (c_1 : Int)).bind fun r_4 => if r_4 = true then ((lazarettoref01_Leq l b (c_1 : Int)).bind fun r_5 => (loop (lazarettoref01_Join_L2 l a b c_1) (r_5, 0)).bind (fun e_8 => if e_8 = true then (some (.inr (.inl ((c_1 : Int))))) else (some (.inl (c_1 + 1))))) else ((loop (lazarettoref01_Join_L3 l a b c_1) (false, 0)).bind (fun e_16 => if e_16 = true then (some (.inr (.inl ((c_1 : Int))))) else (some (.inl (c_1 + 1)))))) else (some (.inr (.inr (()))))
def lazarettoref01_Join (l : api_Lattice) (a : Int) (b : Int) : Option Int :=
  (loop (lazarettoref01_Join_L1 l a b) 0).bind (fun e__ => match e__ with | (.inl e_22) => some e_22 | (.inr ()) => some (-1))
def lazarettoref01_Meet_L3 (l : api_Lattice) (a : Int) (b : Int) (c_1 : Nat) : (Bool × Nat) → Option ((Bool × Nat) ⊕ (Bool))
  | (ok_14, d_15) => if (d_15 : Int) < (l.Names.length : Int) then (if ok_14 = true then ((lazarettoref01_Leq l (d_15 : Int) a).bind fun r_18 => if r_18 = true then ((lazarettoref01_Leq l (d_15 : Int) b).bind fun r_19 => if r_19 = true then ((lazarettoref01_Leq l (d_15 : Int) (c_1 : Int)).bind fun r_20 => some (.inl (r_20, (d_15 + 1)))) else (some (.inl (true, (d_15 + 1))))) else (some (.inl (true, (d_15 + 1))))) else (some (.inr (ok_14)))) else (some (.inr (ok_14)))
def lazarettoref01_Meet_L2 (l : api_Lattice) (a : Int) (b : Int) (c_1 : Nat) : (Bool × Nat) → Option ((Bool × Nat) ⊕ (Bool))
  | (ok_6, d_7) => if (d_7 : Int) < (l.Names.length : Int) then (if ok_6 = true then ((lazarettoref01_Leq l (d_7 : Int) a).bind fun r_10 => if r_10 = true then ((lazarettoref01_Leq l (d_7 : Int) b).bind fun r_11 => if r_11 = true then ((lazarettoref01_Leq l (d_7 : Int) (c_1 : Int)).bind fun r_12 => some (.inl (r_12, (d_7 + 1)))) else (some (.inl (true, (d_7 + 1))))) else (some (.inl (true, (d_7 + 1))))) else (some (.inr (ok_6)))) else (some (.inr (ok_6)))
def lazarettoref01_Meet_L1 (l : api_Lattice) (a : Int) (b : Int) : Nat → Option ((Nat) ⊕ (Int ⊕ Unit))
  | c_1 => if (c_1 : Int) < (l.Names.length : Int) then ((lazarettoref01_Leq l (c_1 : Int) a).bind fun r_4 => if r_4 = true then ((lazarettoref01_Leq l (c_1 : Int) b).bind fun r_5 => (loop (lazarettoref01_Meet_L2 l a b c_1) (r_5, 0)).bind (fun e_8 => if e_8 = true then (some (.inr (.inl ((c_1 : Int))))) else (some (.inl (c_1 + 1))))) else ((loop (lazarettoref01_Meet_L3 l a b c_1) (false, 0)).bind (fun e_16 => if e_16 = true then (some (.inr (.inl ((c_1 : Int))))) else (some (.inl (c_1 + 1)))))) else (some (.inr (.inr (()))))
def lazarettoref01_Meet (l : api_Lattice) (a : Int) (b : Int) : Option Int :=
  (loop (lazarettoref01_Meet_L1 l a b) 0).bind (fun e__ => match e__ with | (.inl e_22) => some e_22 | (.inr ()) => some (-1))
def lazarettoref01_Check_L3 (l : api_Lattice) (a_8 : Nat) (x_11 : Str) : Nat → Option ((Nat) ⊕ (Int ⊕ Unit))
  | b_12 => if (b_12 : Int) < (a_8 : Int) then ((l.Names[b_12]?).bind fun x_15 => if x_11 = x_15 then (some (.inr (.inl (4)))) else ((lazarettoref01_Leq l (a_8 : Int) (b_12 : Int)).bind fun r_16 => if r_16 = true then ((lazarettoref01_Leq l (b_12 : Int) (a_8 : Int)).bind fun r_17 => if r_17 = true then (some (.inr (.inl (4)))) else ((lazarettoref01_Join l (a_8 : Int) (b_12 : Int)).bind fun r_18 => if r_18 < 0 then (some (.inr (.inl (4)))) else ((lazarettoref01_Meet l (a_8 : Int) (b_12 : Int)).bind fun r_19 => if r_19 < 0 then (some (.inr (.inl (4)))) else (some (.inl (b_12 + 1)))))) else ((lazarettoref01_Join l (a_8 : Int) (b_12 : Int)).bind fun r_20 => if r_20 < 0 then (some (.inr (.inl (4)))) else ((lazarettoref01_Meet l (a_8 : Int) (b_12 : Int)).bind fun r_21 => if r_21 < 0 then (some (.inr (.inl (4)))) else (some (.inl (b_12 + 1))))))) else (some (.inr (.inr (()))))
def lazarettoref01_Check_L2 (l : api_Lattice) : Nat → Option ((Nat) ⊕ (Int ⊕ Unit))
  | a_8 => if (a_8 : Int) < (l.Names.length : Int) then ((l.Names[a_8]?).bind fun x_11 => if x_11 = [] then (some (.inr (.inl (4)))) else ((loop (lazarettoref01_Check_L3 l a_8 x_11) 0).bind (fun e__ => match e__ with | (.inl e_22) => some (.inr (.inl (e_22))) | (.inr ()) => some (.inl (a_8 + 1))))) else (some (.inr (.inr (()))))
def lazarettoref01_Check_L1 (l : api_Lattice) : Nat → Option ((Nat) ⊕ (Int ⊕ Unit))
  | i_1 => if (i_1 : Int) < (l.Below.length : Int) then ((l.Below[i_1]?).bind fun x_4 => (lazarettoref01_Is l x_4.a0).bind fun r_5 => if r_5 = true then ((lazarettoref01_Is l x_4.a1).bind fun r_6 => if r_6 = true then (some (.inl (i_1 + 1))) else (some (.inr (.inl (4))))) else (some (.inr (.inl (4))))) else (some (.inr (.inr (()))))
def lazarettoref01_Check (l : api_Lattice) : Option Int :=
  if (l.Names.length : Int) < 1 then (some 3) else (if 8 < (l.Names.length : Int) then (some 3) else ((loop (lazarettoref01_Check_L1 l) 0).bind (fun e__ => match e__ with | (.inl e_7) => some e_7 | (.inr ()) => (loop (lazarettoref01_Check_L2 l) 0).bind (fun e__ => match e__ with | (.inl e_23) => some e_23 | (.inr ()) => some 0))))
def lazarettoref03_Bits (kind : Int) : Option Int :=
  if kind = 1 then (some 1) else (if kind = 2 then (some 16) else (if kind = 3 then (some 32) else (if kind = 4 then (some 32) else (some 0))))
def lazarettoref04_Check (t : api_Type) : Option Int :=
  (lazarettoref03_Bits t.Kind).bind fun r_1 => if r_1 = 0 then (some 6) else (if t.Len < 0 then (some 6) else (if 32 < t.Len then (some 6) else (if t.Len = 0 then (if t.Low = 0 then (if t.Low < (-32768) then (some 6) else (if 32767 < t.Low then (some 6) else (some 0))) else (some 6)) else (if t.Low < (-32768) then (some 6) else (if 32767 < t.Low then (some 6) else (some 0))))))
def lazarettoref03_half (kind : Int) : Option Int :=
  if kind = 2 then (some 32768) else (some 2147483648)
def lazarettoref03_Valid (kind : Int) (n : Int) : Option Bool :=
  if kind = 1 then (if n = 0 then (some true) else (some (decide (n = 1)))) else ((lazarettoref03_Bits kind).bind fun r_1 => if 0 < r_1 then ((lazarettoref03_half kind).bind fun r_2 => if (w64 (0 - r_2)) ≤ n then ((lazarettoref03_half kind).bind fun r_3 => some (decide (n < r_3))) else (some false)) else (some false))
def lazarettoref18_variable (m : api_Image) (v : api_Var) : Option Bool :=
  if v.Name = [] then ((lazarettoref01_Is m.Lattice v.Label).bind fun r_1 => if r_1 = true then ((lazarettoref04_Check v.Type_).bind fun r_2 => if r_2 = 0 then (if v.Mode = 0 then (some (decide (v.Safe = 0))) else (if v.Type_.Len = 0 then (if v.Mode = 1 then (if v.Safe = 0 then (some true) else (if v.Mode = 2 then none else (some false))) else (if v.Mode = 2 then ((lazarettoref03_Valid v.Type_.Kind v.Safe).bind fun r_3 => some r_3) else (some false))) else (some false))) else (some false)) else (some false)) else (some false)
def lazarettoref11_Inputs (kind : Str) : Option (List Int) :=
  if kind = ([84, 79, 78] : Str) then (some [1, 4]) else (if kind = ([84, 79, 70] : Str) then (some [1, 4]) else (if kind = ([84, 80] : Str) then (some [1, 4]) else (if kind = ([67, 84, 85] : Str) then (some [1, 1, 2]) else (if kind = ([67, 84, 68] : Str) then (some [1, 1, 2]) else (if kind = ([67, 84, 85, 68] : Str) then (some [1, 1, 1, 1, 2]) else (if kind = ([82, 95, 84, 82, 73, 71] : Str) then (some [1]) else (if kind = ([70, 95, 84, 82, 73, 71] : Str) then (some [1]) else (if kind = ([83, 82] : Str) then (some [1, 1]) else (if kind = ([82, 83] : Str) then (some [1, 1]) else (some []))))))))))
def lazarettoref18_task_L1 (t : api_Task) : Nat → Option ((Nat) ⊕ (Bool ⊕ Unit))
  | i_1 => if (i_1 : Int) < (t.Budget.length : Int) then ((t.Budget[i_1]?).bind fun x_4 => if x_4 < 0 then (some (.inr (.inl (false)))) else (if 4096 < x_4 then (some (.inr (.inl (false)))) else (some (.inl (i_1 + 1))))) else (some (.inr (.inr (()))))
def lazarettoref18_task (m : api_Image) (t : api_Task) : Option Bool :=
  if t.Every < 1 then (some false) else (if 65536 < t.Every then (some false) else (if t.Priority < 0 then (some false) else (if 255 < t.Priority then (some false) else (if (t.Budget.length : Int) = (m.Lattice.Names.length : Int) then (if 0 < (t.Body.length : Int) then (some false) else ((loop (lazarettoref18_task_L1 t) 0).bind (fun e__ => match e__ with | (.inl e_5) => some e_5 | (.inr ()) => some true))) else (some false)))))
def lazarettoref17_names (op : Int) : Option (Bool × Bool × Bool) :=
  if op = 1 then (some (true, true, false)) else (if op = 7 then (some (true, true, false)) else (if op = 2 then (some (true, false, false)) else (if op = 4 then (some (true, false, false)) else (if op = 8 then (some (true, false, false)) else (if op = 9 then (some (true, false, false)) else (if op = 3 then (some (true, false, true)) else (if op = 5 then (some (true, false, true)) else (if op = 6 then (some (true, true, true)) else (if op = 15 then (some (true, true, true)) else (if op = 10 then (some (false, false, true)) else (if op = 11 then (some (false, false, true)) else (if op = 14 then (some (false, false, true)) else (some (false, false, false))))))))))))))
def lazarettoref17_one (i : api_Ins) : Option Bool :=
  (lazarettoref17_names i.Op).bind fun r_1 => if r_1.1 = true then (if r_1.2.1 = true then (if r_1.2.2 = true then (if 1 ≤ i.Op then (if i.Op ≤ 16 then (if (-2147483648) ≤ i.A then (if i.A ≤ 2147483647 then (if 0 ≤ i.B_ then (if i.B_ ≤ 255 then (if 0 ≤ i.Label then (some (decide (i.Label ≤ 7))) else (some false)) else (some false)) else (some false)) else (some false)) else (some false)) else (some false)) else (some false)) else (if i.Label = 0 then (if 1 ≤ i.Op then (if i.Op ≤ 16 then (if (-2147483648) ≤ i.A then (if i.A ≤ 2147483647 then (if 0 ≤ i.B_ then (if i.B_ ≤ 255 then (if 0 ≤ i.Label then (some (decide (i.Label ≤ 7))) else (some false)) else (some false)) else (some false)) else (some false)) else (some false)) else (some false)) else (some false)) else (some false))) else (if i.B_ = 0 then (if r_1.2.2 = true then (if 1 ≤ i.Op then (if i.Op ≤ 16 then (if (-2147483648) ≤ i.A then (if i.A ≤ 2147483647 then (if 0 ≤ i.B_ then (if i.B_ ≤ 255 then (if 0 ≤ i.Label then (some (decide (i.Label ≤ 7))) else (some false)) else (some false)) else (some false)) else (some false)) else (some false)) else (some false)) else (some false)) else (if i.Label = 0 then (if 1 ≤ i.Op then (if i.Op ≤ 16 then (if (-2147483648) ≤ i.A then (if i.A ≤ 2147483647 then (if 0 ≤ i.B_ then (if i.B_ ≤ 255 then (if 0 ≤ i.Label then (some (decide (i.Label ≤ 7))) else (some false)) else (some false)) else (some false)) else (some false)) else (some false)) else (some false)) else (some false)) else (some false))) else (some false))) else (if i.A = 0 then (if r_1.2.1 = true then (if r_1.2.2 = true then (if 1 ≤ i.Op then (if i.Op ≤ 16 then (if (-2147483648) ≤ i.A then (if i.A ≤ 2147483647 then (if 0 ≤ i.B_ then (if i.B_ ≤ 255 then (if 0 ≤ i.Label then (some (decide (i.Label ≤ 7))) else (some false)) else (some false)) else (some false)) else (some false)) else (some false)) else (some false)) else (some false)) else (if i.Label = 0 then (if 1 ≤ i.Op then (if i.Op ≤ 16 then (if (-2147483648) ≤ i.A then (if i.A ≤ 2147483647 then (if 0 ≤ i.B_ then (if i.B_ ≤ 255 then (if 0 ≤ i.Label then (some (decide (i.Label ≤ 7))) else (some false)) else (some false)) else (some false)) else (some false)) else (some false)) else (some false)) else (some false)) else (some false))) else (if i.B_ = 0 then (if r_1.2.2 = true then (if 1 ≤ i.Op then (if i.Op ≤ 16 then (if (-2147483648) ≤ i.A then (if i.A ≤ 2147483647 then (if 0 ≤ i.B_ then (if i.B_ ≤ 255 then (if 0 ≤ i.Label then (some (decide (i.Label ≤ 7))) else (some false)) else (some false)) else (some false)) else (some false)) else (some false)) else (some false)) else (some false)) else (if i.Label = 0 then (if 1 ≤ i.Op then (if i.Op ≤ 16 then (if (-2147483648) ≤ i.A then (if i.A ≤ 2147483647 then (if 0 ≤ i.B_ then (if i.B_ ≤ 255 then (if 0 ≤ i.Label then (some (decide (i.Label ≤ 7))) else (some false)) else (some false)) else (some false)) else (some false)) else (some false)) else (some false)) else (some false)) else (some false))) else (some false))) else (some false))
def lazarettoref17_Check_L1 (l : List api_Ins) : Nat → Option ((Nat) ⊕ (Int ⊕ Unit))
  | i_1 => if (i_1 : Int) < (l.length : Int) then ((l[i_1]?).bind fun x_4 => (lazarettoref17_one x_4).bind fun r_5 => if r_5 = true then (some (.inl (i_1 + 1))) else (some (.inr (.inl (8))))) else (some (.inr (.inr (()))))
def lazarettoref17_Check (l : List api_Ins) : Option Int :=
  if 32768 < (l.length : Int) then (some 3) else ((loop (lazarettoref17_Check_L1 l) 0).bind (fun e__ => match e__ with | (.inl e_6) => some e_6 | (.inr ()) => some 0))
def lazarettoref18_parts_L4 (m : api_Image) : Nat → Option ((Nat) ⊕ (Bool ⊕ Unit))
  | i_21 => if (i_21 : Int) < (m.Tasks.length : Int) then ((m.Tasks[i_21]?).bind fun x_24 => (lazarettoref18_task m x_24).bind fun r_25 => if r_25 = true then ((m.Code[i_21]?).bind fun x_26 => (lazarettoref17_Check x_26).bind fun r_27 => if r_27 = 0 then (some (.inl (i_21 + 1))) else (some (.inr (.inl (false))))) else (some (.inr (.inl (false))))) else (some (.inr (.inr (()))))
def lazarettoref18_parts_L3 (m : api_Image) : Nat → Option ((Nat) ⊕ (Bool ⊕ Unit))
  | i_14 => if (i_14 : Int) < (m.Blocks.length : Int) then ((m.Blocks[i_14]?).bind fun x_17 => if x_17.Name = [] then ((lazarettoref01_Is m.Lattice x_17.Label).bind fun r_18 => if r_18 = true then ((lazarettoref11_Inputs x_17.Kind).bind fun r_19 => if (r_19.length : Int) = 0 then (some (.inr (.inl (false)))) else (some (.inl (i_14 + 1)))) else (some (.inr (.inl (false))))) else (some (.inr (.inl (false))))) else (some (.inr (.inr (()))))
def lazarettoref18_parts_L2 (m : api_Image) : Nat → Option ((Nat) ⊕ (Bool ⊕ Unit))
  | i_8 => if (i_8 : Int) < (m.Vars.length : Int) then ((m.Vars[i_8]?).bind fun x_11 => (lazarettoref18_variable m x_11).bind fun r_12 => if r_12 = true then (some (.inl (i_8 + 1))) else (some (.inr (.inl (false))))) else (some (.inr (.inr (()))))
def lazarettoref18_parts_L1 (m : api_Image) : Nat → Option ((Nat) ⊕ (Bool ⊕ Unit))
  | i_1 => if (i_1 : Int) < (m.Sites.length : Int) then ((m.Sites[i_1]?).bind fun x_4 => if x_4.Name = [] then ((lazarettoref01_Is m.Lattice x_4.From).bind fun r_5 => if r_5 = true then ((lazarettoref01_Is m.Lattice x_4.To).bind fun r_6 => if r_6 = true then (some (.inl (i_1 + 1))) else (some (.inr (.inl (false))))) else (some (.inr (.inl (false))))) else (some (.inr (.inl (false))))) else (some (.inr (.inr (()))))
def lazarettoref18_parts (m : api_Image) : Option Bool :=
  (loop (lazarettoref18_parts_L1 m) 0).bind (fun e__ => match e__ with | (.inl e_7) => some e_7 | (.inr ()) => (loop (lazarettoref18_parts_L2 m) 0).bind (fun e__ => match e__ with | (.inl e_13) => some e_13 | (.inr ()) => (loop (lazarettoref18_parts_L3 m) 0).bind (fun e__ => match e__ with | (.inl e_20) => some e_20 | (.inr ()) => if (m.Code.length : Int) = (m.Tasks.length : Int) then ((loop (lazarettoref18_parts_L4 m) 0).bind (fun e__ => match e__ with | (.inl e_28) => some e_28 | (.inr ()) => some true)) else (some false))))
def lazarettoref18_Check (m : api_Image) : Option Int :=
  (lazarettoref18_caps m).bind fun r_1 => if r_1 = true then ((lazarettoref01_Check m.Lattice).bind fun r_2 => if r_2 = 0 then ((lazarettoref18_parts m).bind fun r_3 => if r_3 = true then (some 0) else (some 8)) else (some r_2)) else (some 3)
def lazarettoref17_Four (n : Int) : Option (List Int) :=
  some [(IntKind.u8.wrap ((IntKind.u32.wrap n).fdiv 16777216)), (IntKind.u8.wrap ((IntKind.u32.wrap n).fdiv 65536)), (IntKind.u8.wrap ((IntKind.u32.wrap n).fdiv 256)), (IntKind.u8.wrap (IntKind.u32.wrap n))]
def lazarettoref17_Encode_L1 (l : List api_Ins) : ((List Int) × Nat) → Option (((List Int) × Nat) ⊕ (List Int))
  | (b_3, i_5) => if (i_5 : Int) < (l.length : Int) then ((l[i_5]?).bind fun x_8 => need ((b_3.length + 3) * 1 ≤ 140737488355328) (need ((b_3.length + 3 + 4) * 1 ≤ 140737488355328) (some (.inl (((b_3 ++ [(IntKind.u8.wrap x_8.Op), (IntKind.u8.wrap x_8.Label), (IntKind.u8.wrap x_8.B_)]) ++ [(IntKind.u8.wrap ((IntKind.u32.wrap x_8.A).fdiv 16777216)), (IntKind.u8.wrap ((IntKind.u32.wrap x_8.A).fdiv 65536)), (IntKind.u8.wrap ((IntKind.u32.wrap x_8.A).fdiv 256)), (IntKind.u8.wrap (IntKind.u32.wrap x_8.A))]), (i_5 + 1)))))) else (some (.inr (b_3)))
def lazarettoref17_Encode (l : List api_Ins) : Option Str :=
  (lazarettoref17_Check l).bind fun r_1 => if r_1 = 0 then ((loop (lazarettoref17_Encode_L1 l) ([(IntKind.u8.wrap ((IntKind.u32.wrap (l.length : Int)).fdiv 16777216)), (IntKind.u8.wrap ((IntKind.u32.wrap (l.length : Int)).fdiv 65536)), (IntKind.u8.wrap ((IntKind.u32.wrap (l.length : Int)).fdiv 256)), (IntKind.u8.wrap (IntKind.u32.wrap (l.length : Int)))], 0)).bind (fun e_6 => some (iBytes e_6))) else (some [])
def lazarettoref18_put_L21 (m : api_Image) : ((List Int) × Nat) → Option (((List Int) × Nat) ⊕ (List Int))
  | (xs_172, i_173) => if (i_173 : Int) < (m.Code.length : Int) then ((m.Code[i_173]?).bind fun x_176 => (lazarettoref17_Encode x_176).bind fun r_177 => need ((xs_172.length + (sBytes r_177).length) * 1 ≤ 140737488355328) (some (.inl ((xs_172 ++ (sBytes r_177)), (i_173 + 1))))) else (some (.inr (xs_172)))
def lazarettoref18_put_L20 (x_151 : api_Task) : ((List Int) × Nat) → Option (((List Int) × Nat) ⊕ (List Int))
  | (xs_162, i_163) => if (i_163 : Int) < (x_151.Budget.length : Int) then ((x_151.Budget[i_163]?).bind fun x_166 => (lazarettoref17_Four x_166).bind fun r_167 => need ((xs_162.length + r_167.length) * 1 ≤ 140737488355328) (some (.inl ((xs_162 ++ r_167), (i_163 + 1))))) else (some (.inr (xs_162)))
def lazarettoref18_put_L19 (x_151 : api_Task) : ((List Int) × Nat) → Option (((List Int) × Nat) ⊕ (List Int))
  | (xs_153, i_154) => if (i_154 : Int) < 2 then (([x_151.Every, x_151.Priority][i_154]?).bind fun x_157 => (lazarettoref17_Four x_157).bind fun r_158 => need ((xs_153.length + r_158.length) * 1 ≤ 140737488355328) (some (.inl ((xs_153 ++ r_158), (i_154 + 1))))) else (some (.inr (xs_153)))
def lazarettoref18_put_L18 (m : api_Image) : ((List Int) × Nat) → Option (((List Int) × Nat) ⊕ (List Int))
  | (xs_147, i_148) => if (i_148 : Int) < (m.Tasks.length : Int) then ((m.Tasks[i_148]?).bind fun x_151 => (loop (lazarettoref18_put_L19 x_151) (xs_147, 0)).bind (fun e_155 => (loop (lazarettoref18_put_L20 x_151) (e_155, 0)).bind (fun e_164 => some (.inl (e_164, (i_148 + 1)))))) else (some (.inr (xs_147)))
def lazarettoref18_put_L17 (m : api_Image) : ((List Int) × Nat) → Option (((List Int) × Nat) ⊕ (List Int))
  | (xs_138, i_139) => if (i_139 : Int) < 1 then (([(m.Tasks.length : Int)][i_139]?).bind fun x_142 => (lazarettoref17_Four x_142).bind fun r_143 => need ((xs_138.length + r_143.length) * 1 ≤ 140737488355328) (some (.inl ((xs_138 ++ r_143), (i_139 + 1))))) else (some (.inr (xs_138)))
def lazarettoref18_put_L16 (x_116 : api_Block) : ((List Int) × Nat) → Option (((List Int) × Nat) ⊕ (List Int))
  | (xs_128, i_129) => if (i_129 : Int) < 1 then (([x_116.Label][i_129]?).bind fun x_132 => (lazarettoref17_Four x_132).bind fun r_133 => need ((xs_128.length + r_133.length) * 1 ≤ 140737488355328) (some (.inl ((xs_128 ++ r_133), (i_129 + 1))))) else (some (.inr (xs_128)))
def lazarettoref18_put_L15 (x_116 : api_Block) : ((List Int) × Nat) → Option (((List Int) × Nat) ⊕ (List Int))
  | (xs_118, i_119) => if (i_119 : Int) < 1 then (([(x_116.Kind.length : Int)][i_119]?).bind fun x_122 => (lazarettoref17_Four x_122).bind fun r_123 => need ((xs_118.length + r_123.length) * 1 ≤ 140737488355328) (some (.inl ((xs_118 ++ r_123), (i_119 + 1))))) else (some (.inr (xs_118)))
def lazarettoref18_put_L14 (m : api_Image) : ((List Int) × Nat) → Option (((List Int) × Nat) ⊕ (List Int))
  | (xs_112, i_113) => if (i_113 : Int) < (m.Blocks.length : Int) then ((m.Blocks[i_113]?).bind fun x_116 => (loop (lazarettoref18_put_L15 x_116) (xs_112, 0)).bind (fun e_120 => need ((e_120.length + (sBytes x_116.Kind).length) * 1 ≤ 140737488355328) ((loop (lazarettoref18_put_L16 x_116) ((e_120 ++ (sBytes x_116.Kind)), 0)).bind (fun e_130 => some (.inl (e_130, (i_113 + 1))))))) else (some (.inr (xs_112)))
def lazarettoref18_put_L13 (m : api_Image) : ((List Int) × Nat) → Option (((List Int) × Nat) ⊕ (List Int))
  | (xs_103, i_104) => if (i_104 : Int) < 1 then (([(m.Blocks.length : Int)][i_104]?).bind fun x_107 => (lazarettoref17_Four x_107).bind fun r_108 => need ((xs_103.length + r_108.length) * 1 ≤ 140737488355328) (some (.inl ((xs_103 ++ r_108), (i_104 + 1))))) else (some (.inr (xs_103)))
def lazarettoref18_put_L12 (x_91 : api_Var) : ((List Int) × Nat) → Option (((List Int) × Nat) ⊕ (List Int))
  | (xs_93, i_94) => if (i_94 : Int) < 6 then (([x_91.Type_.Kind, x_91.Type_.Low, x_91.Type_.Len, x_91.Mode, x_91.Label, x_91.Safe][i_94]?).bind fun x_97 => (lazarettoref17_Four x_97).bind fun r_98 => need ((xs_93.length + r_98.length) * 1 ≤ 140737488355328) (some (.inl ((xs_93 ++ r_98), (i_94 + 1))))) else (some (.inr (xs_93)))
def lazarettoref18_put_L11 (m : api_Image) : ((List Int) × Nat) → Option (((List Int) × Nat) ⊕ (List Int))
  | (xs_87, i_88) => if (i_88 : Int) < (m.Vars.length : Int) then ((m.Vars[i_88]?).bind fun x_91 => (loop (lazarettoref18_put_L12 x_91) (xs_87, 0)).bind (fun e_95 => some (.inl (e_95, (i_88 + 1))))) else (some (.inr (xs_87)))
def lazarettoref18_put_L10 (m : api_Image) : ((List Int) × Nat) → Option (((List Int) × Nat) ⊕ (List Int))
  | (xs_78, i_79) => if (i_79 : Int) < 1 then (([(m.Vars.length : Int)][i_79]?).bind fun x_82 => (lazarettoref17_Four x_82).bind fun r_83 => need ((xs_78.length + r_83.length) * 1 ≤ 140737488355328) (some (.inl ((xs_78 ++ r_83), (i_79 + 1))))) else (some (.inr (xs_78)))
def lazarettoref18_put_L9 (x_66 : api_Site) : ((List Int) × Nat) → Option (((List Int) × Nat) ⊕ (List Int))
  | (xs_68, i_69) => if (i_69 : Int) < 2 then (([x_66.From, x_66.To][i_69]?).bind fun x_72 => (lazarettoref17_Four x_72).bind fun r_73 => need ((xs_68.length + r_73.length) * 1 ≤ 140737488355328) (some (.inl ((xs_68 ++ r_73), (i_69 + 1))))) else (some (.inr (xs_68)))
def lazarettoref18_put_L8 (m : api_Image) : ((List Int) × Nat) → Option (((List Int) × Nat) ⊕ (List Int))
  | (xs_62, i_63) => if (i_63 : Int) < (m.Sites.length : Int) then ((m.Sites[i_63]?).bind fun x_66 => (loop (lazarettoref18_put_L9 x_66) (xs_62, 0)).bind (fun e_70 => some (.inl (e_70, (i_63 + 1))))) else (some (.inr (xs_62)))
def lazarettoref18_put_L7 (m : api_Image) : ((List Int) × Nat) → Option (((List Int) × Nat) ⊕ (List Int))
  | (xs_53, i_54) => if (i_54 : Int) < 1 then (([(m.Sites.length : Int)][i_54]?).bind fun x_57 => (lazarettoref17_Four x_57).bind fun r_58 => need ((xs_53.length + r_58.length) * 1 ≤ 140737488355328) (some (.inl ((xs_53 ++ r_58), (i_54 + 1))))) else (some (.inr (xs_53)))
def lazarettoref18_put_L6 (x_41 : A2 Int) : ((List Int) × Nat) → Option (((List Int) × Nat) ⊕ (List Int))
  | (xs_43, i_44) => if (i_44 : Int) < 2 then (([x_41.a0, x_41.a1][i_44]?).bind fun x_47 => (lazarettoref17_Four x_47).bind fun r_48 => need ((xs_43.length + r_48.length) * 1 ≤ 140737488355328) (some (.inl ((xs_43 ++ r_48), (i_44 + 1))))) else (some (.inr (xs_43)))
def lazarettoref18_put_L5 (m : api_Image) : ((List Int) × Nat) → Option (((List Int) × Nat) ⊕ (List Int))
  | (xs_37, i_38) => if (i_38 : Int) < (m.Lattice.Below.length : Int) then ((m.Lattice.Below[i_38]?).bind fun x_41 => (loop (lazarettoref18_put_L6 x_41) (xs_37, 0)).bind (fun e_45 => some (.inl (e_45, (i_38 + 1))))) else (some (.inr (xs_37)))
def lazarettoref18_put_L4 (m : api_Image) : ((List Int) × Nat) → Option (((List Int) × Nat) ⊕ (List Int))
  | (xs_28, i_29) => if (i_29 : Int) < 1 then (([(m.Lattice.Below.length : Int)][i_29]?).bind fun x_32 => (lazarettoref17_Four x_32).bind fun r_33 => need ((xs_28.length + r_33.length) * 1 ≤ 140737488355328) (some (.inl ((xs_28 ++ r_33), (i_29 + 1))))) else (some (.inr (xs_28)))
def lazarettoref18_put_L3 (x_15 : Str) : ((List Int) × Nat) → Option (((List Int) × Nat) ⊕ (List Int))
  | (xs_17, i_18) => if (i_18 : Int) < 1 then (([(x_15.length : Int)][i_18]?).bind fun x_21 => (lazarettoref17_Four x_21).bind fun r_22 => need ((xs_17.length + r_22.length) * 1 ≤ 140737488355328) (some (.inl ((xs_17 ++ r_22), (i_18 + 1))))) else (some (.inr (xs_17)))
def lazarettoref18_put_L2 (m : api_Image) : ((List Int) × Nat) → Option (((List Int) × Nat) ⊕ (List Int))
  | (xs_11, i_12) => if (i_12 : Int) < (m.Lattice.Names.length : Int) then ((m.Lattice.Names[i_12]?).bind fun x_15 => (loop (lazarettoref18_put_L3 x_15) (xs_11, 0)).bind (fun e_19 => need ((e_19.length + (sBytes x_15).length) * 1 ≤ 140737488355328) (some (.inl ((e_19 ++ (sBytes x_15)), (i_12 + 1)))))) else (some (.inr (xs_11)))
def lazarettoref18_put_L1 (m : api_Image) : ((List Int) × Nat) → Option (((List Int) × Nat) ⊕ (List Int))
  | (xs_2, i_3) => if (i_3 : Int) < 1 then (([(m.Lattice.Names.length : Int)][i_3]?).bind fun x_6 => (lazarettoref17_Four x_6).bind fun r_7 => need ((xs_2.length + r_7.length) * 1 ≤ 140737488355328) (some (.inl ((xs_2 ++ r_7), (i_3 + 1))))) else (some (.inr (xs_2)))
def lazarettoref18_put (m : api_Image) : Option Str :=
  (loop (lazarettoref18_put_L1 m) ([76, 90, 82, 49], 0)).bind (fun e_4 => (loop (lazarettoref18_put_L2 m) (e_4, 0)).bind (fun e_13 => (loop (lazarettoref18_put_L4 m) (e_13, 0)).bind (fun e_30 => (loop (lazarettoref18_put_L5 m) (e_30, 0)).bind (fun e_39 => (loop (lazarettoref18_put_L7 m) (e_39, 0)).bind (fun e_55 => (loop (lazarettoref18_put_L8 m) (e_55, 0)).bind (fun e_64 => (loop (lazarettoref18_put_L10 m) (e_64, 0)).bind (fun e_80 => (loop (lazarettoref18_put_L11 m) (e_80, 0)).bind (fun e_89 => (loop (lazarettoref18_put_L13 m) (e_89, 0)).bind (fun e_105 => (loop (lazarettoref18_put_L14 m) (e_105, 0)).bind (fun e_114 => (loop (lazarettoref18_put_L17 m) (e_114, 0)).bind (fun e_140 => (loop (lazarettoref18_put_L18 m) (e_140, 0)).bind (fun e_149 => (loop (lazarettoref18_put_L21 m) (e_149, 0)).bind (fun e_174 => some (iBytes e_174))))))))))))))
def lazarettoref18_Encode (m : api_Image) : Option (Str × Int) :=
  (lazarettoref18_Check m).bind fun r_1 => if r_1 = 0 then ((lazarettoref18_put m).bind fun r_2 => some (r_2, 0)) else (some ([], r_1))
end
theorem lazarettoref18_caps_ok {m : api_Image} {r : Bool} (h : lazarettoref18_caps m = some r) :
    Pu Tryz.prog 22 [.agg (e_api_Image m)] (.one (.bool r)) := by
  have F := trivial; have R := trivial
  refine pA Tryz.func22 ?_
  simp only [Tryz.f22]
  unfold lazarettoref18_caps at h
  refine tt ?_
  repeat (first | (with_reducible intro _) | (with_reducible refine and_i ?_ ?_; exact ss))
  refine fi h F (fun h _ F => ?_) (fun h _ F => ?_)
  cases h; exact fin
  refine tt ?_
  repeat (first | (with_reducible intro _) | (with_reducible refine and_i ?_ ?_; exact ss))
  refine fi h F (fun h _ F => ?_) (fun h _ F => ?_)
  cases h; exact fin
  refine tt ?_
  repeat (first | (with_reducible intro _) | (with_reducible refine and_i ?_ ?_; exact ss))
  refine fi h F (fun h _ F => ?_) (fun h _ F => ?_)
  cases h; exact fin
  refine tt ?_
  repeat (first | (with_reducible intro _) | (with_reducible refine and_i ?_ ?_; exact ss))
  refine fi h F (fun h _ F => ?_) (fun h _ F => ?_)
  cases h; exact fin
  refine tt ?_
  repeat (first | (with_reducible intro _) | (with_reducible refine and_i ?_ ?_; exact ss))
  refine fi h F (fun h _ F => ?_) (fun h _ F => ?_)
  cases h; exact fin
  refine tt ?_
  repeat (first | (with_reducible intro _) | (with_reducible refine and_i ?_ ?_; exact ss))
  refine fi h F (fun h _ F => ?_) (fun h _ F => ?_)
  cases h; exact fin
  refine bi h fun e_2 h he_2 => ?_
  refine tt ?_
  refine lE (fun (s__ : Nat) (a__ : Unit) => match s__, a__ with | i_1, _ => ⟨[(1, .one (.ref 0 0 0 0)), (3, .one (.int .i64 (i_1 : Int)))], [.cells 0 7 [[.sl (m.Lattice.Names.map eS), .sl (m.Lattice.Below.map (eA2 eI)), .sl (m.Sites.map e_api_Site), .sl (m.Vars.map e_api_Var), .sl (m.Blocks.map e_api_Block), .sl (m.Tasks.map e_api_Task), .sl (m.Code.map (eL e_api_Ins))]]]⟩) (fun (e__ : Bool ⊕ Unit) (b__ : Unit) => match e__, b__ with | (.inl e_5), _ => ⟨[], []⟩ | (.inr ()), _ => ⟨[(1, .one (.ref 0 0 0 0))], [.cells 0 7 [[.sl (m.Lattice.Names.map eS), .sl (m.Lattice.Below.map (eA2 eI)), .sl (m.Sites.map e_api_Site), .sl (m.Vars.map e_api_Var), .sl (m.Blocks.map e_api_Block), .sl (m.Tasks.map e_api_Task), .sl (m.Code.map (eL e_api_Ins))]]]⟩) (fun (e__ : Bool ⊕ Unit) => match e__ with | (.inl _) => none | (.inr _) => some 0) () he_2 ?_ ?_
  intro i3 b3 hi3
  rcases e_2 with e_case | ⟨⟩
  cases hi3
  obtain rfl := Option.some.inj hi3
  obtain ⟨⟩ := b3
  dsimp only at h ⊢
  refine bi h fun e_7 h he_7 => ?_
  refine tt ?_
  refine lE (fun (s__ : Nat) (a__ : Unit) => match s__, a__ with | i_6, _ => ⟨[(1, .one (.ref 0 0 0 0)), (4, .one (.int .i64 (i_6 : Int)))], [.cells 0 7 [[.sl (m.Lattice.Names.map eS), .sl (m.Lattice.Below.map (eA2 eI)), .sl (m.Sites.map e_api_Site), .sl (m.Vars.map e_api_Var), .sl (m.Blocks.map e_api_Block), .sl (m.Tasks.map e_api_Task), .sl (m.Code.map (eL e_api_Ins))]]]⟩) (fun (e__ : Bool ⊕ Unit) (b__ : Unit) => match e__, b__ with | (.inl e_10), _ => ⟨[], []⟩ | (.inr ()), _ => ⟨[], [.cells 0 7 [[.sl (m.Lattice.Names.map eS), .sl (m.Lattice.Below.map (eA2 eI)), .sl (m.Sites.map e_api_Site), .sl (m.Vars.map e_api_Var), .sl (m.Blocks.map e_api_Block), .sl (m.Tasks.map e_api_Task), .sl (m.Code.map (eL e_api_Ins))]]]⟩) (fun (e__ : Bool ⊕ Unit) => match e__ with | (.inl _) => none | (.inr _) => some 2) () he_7 ?_ ?_
  intro i8 b8 hi8
  rcases e_7 with e_case | ⟨⟩
  cases hi8
  obtain rfl := Option.some.inj hi8
  obtain ⟨⟩ := b8
  dsimp only at h ⊢
  cases h; exact fin
  intro af8 m8 i_6 a8 o8 hf8 ho8 ih8
  obtain ⟨⟩ := a8
  dsimp only [lazarettoref18_caps_L2] at hf8 ⊢
  refine tt ?_
  repeat (first | (with_reducible intro _) | (with_reducible refine and_i ?_ ?_; exact ss))
  refine fl hf8 F (fun hf8 _ F => ?_) (fun hf8 _ F => ?_)
  refine bx hf8 F fun x_9 hf8 hx_9 F => ?_
  refine tt ?_
  repeat (first | (with_reducible intro _) | (with_reducible refine and_i ?_ ?_; exact ss))
  refine fi hf8 F (fun hf8 _ F => ?_) (fun hf8 _ F => ?_)
  cases hf8
  obtain rfl := sr ho8
  try dsimp only at h
  cases h
  exact fin
  cases hf8
  refine tt ?_
  refine wn i_6 F fun F => ?_
  exact bk ih8 ho8 ()
  cases hf8
  refine tt ?_
  exact xt ho8 af8 ()
  intro af3 m3 i_1 a3 o3 hf3 ho3 ih3
  obtain ⟨⟩ := a3
  dsimp only [lazarettoref18_caps_L1] at hf3 ⊢
  refine tt ?_
  repeat (first | (with_reducible intro _) | (with_reducible refine and_i ?_ ?_; exact ss))
  refine fl hf3 F (fun hf3 _ F => ?_) (fun hf3 _ F => ?_)
  refine bx hf3 F fun x_4 hf3 hx_4 F => ?_
  refine tt ?_
  repeat (first | (with_reducible intro _) | (with_reducible refine and_i ?_ ?_; exact ss))
  refine fi hf3 F (fun hf3 _ F => ?_) (fun hf3 _ F => ?_)
  cases hf3
  obtain rfl := sr ho3
  try dsimp only at h
  cases h
  exact fin
  cases hf3
  refine tt ?_
  refine wn i_1 F fun F => ?_
  exact bk ih3 ho3 ()
  cases hf3
  refine tt ?_
  exact xt ho3 af3 ()
theorem lazarettoref01_Is_ok {l : api_Lattice} {a : Int} {r : Bool} (h : lazarettoref01_Is l a = some r) :
    Pu Tryz.prog 58 [.agg (e_api_Lattice l), .one (.int .i64 a)] (.one (.bool r)) := by
  have F := trivial; have R := trivial
  refine pA Tryz.func58 ?_
  simp only [Tryz.f58]
  unfold lazarettoref01_Is at h
  refine fi h F (fun h _ F => ?_) (fun h _ F => ?_)
  cases h; exact fin
  cases h; exact fin
theorem lazarettoref01_Leq_ok {l : api_Lattice} {a : Int} {b : Int} {r : Bool} (h : lazarettoref01_Leq l a b = some r) :
    Pu Tryz.prog 59 [.agg (e_api_Lattice l), .one (.int .i64 a), .one (.int .i64 b)] (.one (.bool r)) := by
  have F := trivial; have R := trivial
  refine pA Tryz.func59 ?_
  simp only [Tryz.f59]
  unfold lazarettoref01_Leq at h
  refine bi h fun r_1 h hr_1 => ?_
  refine tt ?_
  repeat (first | (with_reducible intro _) | (with_reducible refine and_i ?_ ?_; exact ss))
  refine cS (lazarettoref01_Is_ok hr_1) ?_
  refine fv h F (fun h _ F => ?_) (fun h _ F => ?_)
  refine bi h fun r_2 h hr_2 => ?_
  refine tt ?_
  repeat (first | (with_reducible intro _) | (with_reducible refine and_i ?_ ?_; exact ss))
  refine cS (lazarettoref01_Is_ok hr_2) ?_
  refine fv h F (fun h _ F => ?_) (fun h _ F => ?_)
  refine nd h F fun h F => ?_
  have R := And.intro (show List.replicate l.Names.length [.bool false] = List.map eB (List.replicate l.Names.length false) by simp [go_sem]) R
  refine by_ h F fun x_4 h hx_4 F => ?_
  refine ln F fun F => ?_
  have R := And.intro (show (List.map eB (List.replicate l.Names.length false)).set a.toNat [.bool true] = List.map eB ((List.replicate l.Names.length false).set a.toNat true) by simp [go_sem, List.map_set]) R
  refine bi h fun e_7 h he_7 => ?_
  refine tt ?_
  repeat (first | (with_reducible intro _) | (with_reducible refine and_i ?_ ?_; exact ss))
  refine lE (fun (s__ : (List Bool) × Bool) (a__ : Unit) => match s__, a__ with | (above_5, more_6), _ => ⟨[(2, .one (.int .i64 b)), (3, .one (.ref 0 0 0 0)), (7, .one (.msl 1 0 0 above_5.length)), (8, .one (.bool more_6))], [.cells 0 2 [[.sl (l.Names.map eS), .sl (l.Below.map (eA2 eI))]], .cells 0 1 (above_5.map eB)]⟩) (fun (e__ : List Bool) (b__ : Unit) => match e__, b__ with | e_7, _ => ⟨[(2, .one (.int .i64 b)), (7, .one (.msl 1 0 0 e_7.length))], [.cells 0 2 [[.sl (l.Names.map eS), .sl (l.Below.map (eA2 eI))]], .cells 0 1 (e_7.map eB)]⟩) (fun (_ : List Bool) => some 0) () he_7 ?_ ?_
  intro i8 b8 hi8
  obtain rfl := Option.some.inj hi8
  obtain ⟨⟩ := b8
  dsimp only at h ⊢
  refine by_ h F fun x_22 h hx_22 F => ?_
  cases h; exact fin
  intro af8 m8 s8 a8 o8 hf8 ho8 ih8
  obtain ⟨above_5, more_6⟩ := s8
  obtain ⟨⟩ := a8
  dsimp only [lazarettoref01_Leq_L1] at hf8 ⊢
  refine fv hf8 F (fun hf8 _ F => ?_) (fun hf8 _ F => ?_)
  refine bi hf8 fun e_12 hf8 he_12 => ?_
  refine tt ?_
  refine lE (fun (s__ : (List Bool) × Bool × Nat) (a__ : Unit) => match s__, a__ with | (above_9, more_10, i_11), _ => ⟨[(2, .one (.int .i64 b)), (3, .one (.ref 0 0 0 0)), (7, .one (.msl 1 0 0 above_9.length)), (8, .one (.bool more_10)), (9, .one (.int .i64 (i_11 : Int)))], [.cells 0 2 [[.sl (l.Names.map eS), .sl (l.Below.map (eA2 eI))]], .cells 0 1 (above_9.map eB)]⟩) (fun (e__ : (List Bool) × Bool) (b__ : Unit) => match e__, b__ with | (above_19, more_20), _ => ⟨[(2, .one (.int .i64 b)), (3, .one (.ref 0 0 0 0)), (7, .one (.msl 1 0 0 above_19.length)), (8, .one (.bool more_20))], [.cells 0 2 [[.sl (l.Names.map eS), .sl (l.Below.map (eA2 eI))]], .cells 0 1 (above_19.map eB)]⟩) (fun (_ : (List Bool) × Bool) => some 2) () he_12 ?_ ?_
  intro i13 b13 hi13
  obtain rfl := Option.some.inj hi13
  obtain ⟨above_19, more_20⟩ := e_12
  obtain ⟨⟩ := b13
  dsimp only at hf8 ⊢
  cases hf8
  refine tt ?_
  exact bk ih8 ho8 ()
  intro af13 m13 s13 a13 o13 hf13 ho13 ih13
  obtain ⟨above_9, more_10, i_11⟩ := s13
  obtain ⟨⟩ := a13
  dsimp only [lazarettoref01_Leq_L2] at hf13 ⊢
  refine tt ?_
  repeat (first | (with_reducible intro _) | (with_reducible refine and_i ?_ ?_; exact ss))
  refine fl hf13 F (fun hf13 _ F => ?_) (fun hf13 _ F => ?_)
  refine bx hf13 F fun x_14 hf13 hx_14 F => ?_
  refine bi hf13 fun r_15 hf13 hr_15 => ?_
  refine tt ?_
  repeat (first | (with_reducible intro _) | (with_reducible refine and_i ?_ ?_; exact ss))
  refine cS (lazarettoref01_Is_ok hr_15) ?_
  refine fv hf13 F (fun hf13 _ F => ?_) (fun hf13 _ F => ?_)
  refine bi hf13 fun r_16 hf13 hr_16 => ?_
  refine tt ?_
  repeat (first | (with_reducible intro _) | (with_reducible refine and_i ?_ ?_; exact ss))
  refine cS (lazarettoref01_Is_ok hr_16) ?_
  refine fv hf13 F (fun hf13 _ F => ?_) (fun hf13 _ F => ?_)
  refine by_ hf13 F fun x_17 hf13 hx_17 F => ?_
  refine tt ?_
  repeat (first | (with_reducible intro _) | (with_reducible refine and_i ?_ ?_; exact ss))
  refine fv hf13 F (fun hf13 _ F => ?_) (fun hf13 _ F => ?_)
  refine by_ hf13 F fun x_18 hf13 hx_18 F => ?_
  refine tt ?_
  repeat (first | (with_reducible intro _) | (with_reducible refine and_i ?_ ?_; exact ss))
  refine fv hf13 F (fun hf13 _ F => ?_) (fun hf13 _ F => ?_)
  cases hf13
  refine tt ?_
  refine wn i_11 F fun F => ?_
  exact bk ih13 ho13 ()
  have R := And.intro (show (List.map eB above_9).set x_14.a1.toNat [.bool true] = List.map eB (above_9.set x_14.a1.toNat true) by simp [go_sem, List.map_set]) R
  cases hf13
  refine tt ?_
  repeat (first | (with_reducible intro _) | (with_reducible refine and_i ?_ ?_; exact ss))
  refine wn i_11 F fun F => ?_
  exact bk ih13 ho13 ()
  cases hf13
  refine tt ?_
  refine wn i_11 F fun F => ?_
  exact bk ih13 ho13 ()
  cases hf13
  refine tt ?_
  refine wn i_11 F fun F => ?_
  exact bk ih13 ho13 ()
  cases hf13
  refine tt ?_
  refine wn i_11 F fun F => ?_
  exact bk ih13 ho13 ()
  cases hf13
  refine tt ?_
  exact xt ho13 af13 ()
  cases hf8
  refine tt ?_
  exact xt ho8 af8 ()
  cases h; exact fin
  cases h; exact fin
theorem lazarettoref01_Join_ok {l : api_Lattice} {a : Int} {b : Int} {r : Int} (h : lazarettoref01_Join l a b = some r) :
    Pu Tryz.prog 60 [.agg (e_api_Lattice l), .one (.int .i64 a), .one (.int .i64 b)] (.one (.int .i64 r)) := by
  have F := trivial; have R := trivial
  refine pA Tryz.func60 ?_
  simp only [Tryz.f60]
  unfold lazarettoref01_Join at h
  refine bi h fun e_2 h he_2 => ?_
  refine tt ?_
  refine lE (fun (s__ : Nat) (a__ : Unit) => match s__, a__ with | c_1, _ => ⟨[(1, .one (.int .i64 a)), (2, .one (.int .i64 b)), (3, .one (.ref 0 0 0 0)), (7, .one (.int .i64 (c_1 : Int)))], [.cells 0 2 [[.sl (l.Names.map eS), .sl (l.Below.map (eA2 eI))]]]⟩) (fun (e__ : Int ⊕ Unit) (b__ : Unit) => match e__, b__ with | (.inl e_22), _ => ⟨[], []⟩ | (.inr ()), _ => ⟨[], [.cells 0 2 [[.sl (l.Names.map eS), .sl (l.Below.map (eA2 eI))]]]⟩) (fun (e__ : Int ⊕ Unit) => match e__ with | (.inl _) => none | (.inr _) => some 0) () he_2 ?_ ?_
  intro i3 b3 hi3
  rcases e_2 with e_case | ⟨⟩
  cases hi3
  obtain rfl := Option.some.inj hi3
  obtain ⟨⟩ := b3
  dsimp only at h ⊢
  cases h; exact fin
  intro af3 m3 c_1 a3 o3 hf3 ho3 ih3
  obtain ⟨⟩ := a3
  dsimp only [lazarettoref01_Join_L1] at hf3 ⊢
  refine tt ?_
  repeat (first | (with_reducible intro _) | (with_reducible refine and_i ?_ ?_; exact ss))
  refine fl hf3 F (fun hf3 _ F => ?_) (fun hf3 _ F => ?_)
  refine bi hf3 fun r_4 hf3 hr_4 => ?_
  refine tt ?_
  repeat (first | (with_reducible intro _) | (with_reducible refine and_i ?_ ?_; exact ss))
  refine cS (lazarettoref01_Leq_ok hr_4) ?_
  refine fv hf3 F (fun hf3 _ F => ?_) (fun hf3 _ F => ?_)
  refine bi hf3 fun r_5 hf3 hr_5 => ?_
  refine tt ?_
  repeat (first | (with_reducible intro _) | (with_reducible refine and_i ?_ ?_; exact ss))
  refine cS (lazarettoref01_Leq_ok hr_5) ?_
  refine bi hf3 fun e_8 hf3 he_8 => ?_
  refine tt ?_
  refine lE (fun (s__ : Bool × Nat) (a__ : Unit) => match s__, a__ with | (ok_6, d_7), _ => ⟨[(1, .one (.int .i64 a)), (2, .one (.int .i64 b)), (3, .one (.ref 0 0 0 0)), (7, .one (.int .i64 (c_1 : Int))), (8, .one (.bool ok_6)), (9, .one (.int .i64 (d_7 : Int)))], [.cells 0 2 [[.sl (l.Names.map eS), .sl (l.Below.map (eA2 eI))]]]⟩) (fun (e__ : Bool) (b__ : Unit) => match e__, b__ with | e_8, _ => ⟨[(1, .one (.int .i64 a)), (2, .one (.int .i64 b)), (3, .one (.ref 0 0 0 0)), (7, .one (.int .i64 (c_1 : Int))), (8, .one (.bool e_8))], [.cells 0 2 [[.sl (l.Names.map eS), .sl (l.Below.map (eA2 eI))]]]⟩) (fun (_ : Bool) => some 2) () he_8 ?_ ?_
  intro i9 b9 hi9
  obtain rfl := Option.some.inj hi9
  obtain ⟨⟩ := b9
  dsimp only at hf3 ⊢
  refine fv hf3 F (fun hf3 _ F => ?_) (fun hf3 _ F => ?_)
  cases hf3
  obtain rfl := sr ho3
  try dsimp only at h
  cases h
  exact fin
  cases hf3
  refine tt ?_
  refine wn c_1 F fun F => ?_
  exact bk ih3 ho3 ()
  intro af9 m9 s9 a9 o9 hf9 ho9 ih9
  obtain ⟨ok_6, d_7⟩ := s9
  obtain ⟨⟩ := a9
  dsimp only [lazarettoref01_Join_L2] at hf9 ⊢
  refine tt ?_
  repeat (first | (with_reducible intro _) | (with_reducible refine and_i ?_ ?_; exact ss))
  refine fl hf9 F (fun hf9 _ F => ?_) (fun hf9 _ F => ?_)
  refine fv hf9 F (fun hf9 _ F => ?_) (fun hf9 _ F => ?_)
  refine bi hf9 fun r_10 hf9 hr_10 => ?_
  refine tt ?_
  repeat (first | (with_reducible intro _) | (with_reducible refine and_i ?_ ?_; exact ss))
  refine cS (lazarettoref01_Leq_ok hr_10) ?_
  refine fv hf9 F (fun hf9 _ F => ?_) (fun hf9 _ F => ?_)
  refine bi hf9 fun r_11 hf9 hr_11 => ?_
  refine tt ?_
  repeat (first | (with_reducible intro _) | (with_reducible refine and_i ?_ ?_; exact ss))
  refine cS (lazarettoref01_Leq_ok hr_11) ?_
  refine fv hf9 F (fun hf9 _ F => ?_) (fun hf9 _ F => ?_)
  refine bi hf9 fun r_12 hf9 hr_12 => ?_
  refine tt ?_
  repeat (first | (with_reducible intro _) | (with_reducible refine and_i ?_ ?_; exact ss))
  refine cS (lazarettoref01_Leq_ok hr_12) ?_
  cases hf9
  refine tt ?_
  refine wn d_7 F fun F => ?_
  exact bk ih9 ho9 ()
  cases hf9
  refine tt ?_
  refine wn d_7 F fun F => ?_
  exact bk ih9 ho9 ()
  cases hf9
  refine tt ?_
  refine wn d_7 F fun F => ?_
  exact bk ih9 ho9 ()
  cases hf9
  refine tt ?_
  exact xt ho9 af9 ()
  cases hf9
  refine tt ?_
  exact xt ho9 af9 ()
  refine bi hf3 fun e_16 hf3 he_16 => ?_
  refine tt ?_
  refine lE (fun (s__ : Bool × Nat) (a__ : Unit) => match s__, a__ with | (ok_14, d_15), _ => ⟨[(1, .one (.int .i64 a)), (2, .one (.int .i64 b)), (3, .one (.ref 0 0 0 0)), (7, .one (.int .i64 (c_1 : Int))), (8, .one (.bool ok_14)), (9, .one (.int .i64 (d_15 : Int)))], [.cells 0 2 [[.sl (l.Names.map eS), .sl (l.Below.map (eA2 eI))]]]⟩) (fun (e__ : Bool) (b__ : Unit) => match e__, b__ with | e_16, _ => ⟨[(1, .one (.int .i64 a)), (2, .one (.int .i64 b)), (3, .one (.ref 0 0 0 0)), (7, .one (.int .i64 (c_1 : Int))), (8, .one (.bool e_16))], [.cells 0 2 [[.sl (l.Names.map eS), .sl (l.Below.map (eA2 eI))]]]⟩) (fun (_ : Bool) => some 2) () he_16 ?_ ?_
  intro i17 b17 hi17
  obtain rfl := Option.some.inj hi17
  obtain ⟨⟩ := b17
  dsimp only at hf3 ⊢
  refine fv hf3 F (fun hf3 _ F => ?_) (fun hf3 _ F => ?_)
  cases hf3
  obtain rfl := sr ho3
  try dsimp only at h
  cases h
  exact fin
  cases hf3
  refine tt ?_
  refine wn c_1 F fun F => ?_
  exact bk ih3 ho3 ()
  intro af17 m17 s17 a17 o17 hf17 ho17 ih17
  obtain ⟨ok_14, d_15⟩ := s17
  obtain ⟨⟩ := a17
  dsimp only [lazarettoref01_Join_L3] at hf17 ⊢
  refine tt ?_
  repeat (first | (with_reducible intro _) | (with_reducible refine and_i ?_ ?_; exact ss))
  refine fl hf17 F (fun hf17 _ F => ?_) (fun hf17 _ F => ?_)
  refine fv hf17 F (fun hf17 _ F => ?_) (fun hf17 _ F => ?_)
  refine bi hf17 fun r_18 hf17 hr_18 => ?_
  refine tt ?_
  repeat (first | (with_reducible intro _) | (with_reducible refine and_i ?_ ?_; exact ss))
  refine cS (lazarettoref01_Leq_ok hr_18) ?_
  refine fv hf17 F (fun hf17 _ F => ?_) (fun hf17 _ F => ?_)
  refine bi hf17 fun r_19 hf17 hr_19 => ?_
  refine tt ?_
  repeat (first | (with_reducible intro _) | (with_reducible refine and_i ?_ ?_; exact ss))
  refine cS (lazarettoref01_Leq_ok hr_19) ?_
  refine fv hf17 F (fun hf17 _ F => ?_) (fun hf17 _ F => ?_)
  refine bi hf17 fun r_20 hf17 hr_20 => ?_
  refine tt ?_
  repeat (first | (with_reducible intro _) | (with_reducible refine and_i ?_ ?_; exact ss))
  refine cS (lazarettoref01_Leq_ok hr_20) ?_
  cases hf17
  refine tt ?_
  refine wn d_15 F fun F => ?_
  exact bk ih17 ho17 ()
  cases hf17
  refine tt ?_
  refine wn d_15 F fun F => ?_
  exact bk ih17 ho17 ()
  cases hf17
  refine tt ?_
  refine wn d_15 F fun F => ?_
  exact bk ih17 ho17 ()
  cases hf17
  refine tt ?_
  exact xt ho17 af17 ()
  cases hf17
  refine tt ?_
  exact xt ho17 af17 ()
  cases hf3
  refine tt ?_
  exact xt ho3 af3 ()
theorem lazarettoref01_Meet_ok {l : api_Lattice} {a : Int} {b : Int} {r : Int} (h : lazarettoref01_Meet l a b = some r) :
    Pu Tryz.prog 61 [.agg (e_api_Lattice l), .one (.int .i64 a), .one (.int .i64 b)] (.one (.int .i64 r)) := by
  have F := trivial; have R := trivial
  refine pA Tryz.func61 ?_
  simp only [Tryz.f61]
  unfold lazarettoref01_Meet at h
  refine bi h fun e_2 h he_2 => ?_
  refine tt ?_
  refine lE (fun (s__ : Nat) (a__ : Unit) => match s__, a__ with | c_1, _ => ⟨[(1, .one (.int .i64 a)), (2, .one (.int .i64 b)), (3, .one (.ref 0 0 0 0)), (7, .one (.int .i64 (c_1 : Int)))], [.cells 0 2 [[.sl (l.Names.map eS), .sl (l.Below.map (eA2 eI))]]]⟩) (fun (e__ : Int ⊕ Unit) (b__ : Unit) => match e__, b__ with | (.inl e_22), _ => ⟨[], []⟩ | (.inr ()), _ => ⟨[], [.cells 0 2 [[.sl (l.Names.map eS), .sl (l.Below.map (eA2 eI))]]]⟩) (fun (e__ : Int ⊕ Unit) => match e__ with | (.inl _) => none | (.inr _) => some 0) () he_2 ?_ ?_
  intro i3 b3 hi3
  rcases e_2 with e_case | ⟨⟩
  cases hi3
  obtain rfl := Option.some.inj hi3
  obtain ⟨⟩ := b3
  dsimp only at h ⊢
  cases h; exact fin
  intro af3 m3 c_1 a3 o3 hf3 ho3 ih3
  obtain ⟨⟩ := a3
  dsimp only [lazarettoref01_Meet_L1] at hf3 ⊢
  refine tt ?_
  repeat (first | (with_reducible intro _) | (with_reducible refine and_i ?_ ?_; exact ss))
  refine fl hf3 F (fun hf3 _ F => ?_) (fun hf3 _ F => ?_)
  refine bi hf3 fun r_4 hf3 hr_4 => ?_
  refine tt ?_
  repeat (first | (with_reducible intro _) | (with_reducible refine and_i ?_ ?_; exact ss))
  refine cS (lazarettoref01_Leq_ok hr_4) ?_
  refine fv hf3 F (fun hf3 _ F => ?_) (fun hf3 _ F => ?_)
  refine bi hf3 fun r_5 hf3 hr_5 => ?_
  refine tt ?_
  repeat (first | (with_reducible intro _) | (with_reducible refine and_i ?_ ?_; exact ss))
  refine cS (lazarettoref01_Leq_ok hr_5) ?_
  refine bi hf3 fun e_8 hf3 he_8 => ?_
  refine tt ?_
  refine lE (fun (s__ : Bool × Nat) (a__ : Unit) => match s__, a__ with | (ok_6, d_7), _ => ⟨[(1, .one (.int .i64 a)), (2, .one (.int .i64 b)), (3, .one (.ref 0 0 0 0)), (7, .one (.int .i64 (c_1 : Int))), (8, .one (.bool ok_6)), (9, .one (.int .i64 (d_7 : Int)))], [.cells 0 2 [[.sl (l.Names.map eS), .sl (l.Below.map (eA2 eI))]]]⟩) (fun (e__ : Bool) (b__ : Unit) => match e__, b__ with | e_8, _ => ⟨[(1, .one (.int .i64 a)), (2, .one (.int .i64 b)), (3, .one (.ref 0 0 0 0)), (7, .one (.int .i64 (c_1 : Int))), (8, .one (.bool e_8))], [.cells 0 2 [[.sl (l.Names.map eS), .sl (l.Below.map (eA2 eI))]]]⟩) (fun (_ : Bool) => some 2) () he_8 ?_ ?_
  intro i9 b9 hi9
  obtain rfl := Option.some.inj hi9
  obtain ⟨⟩ := b9
  dsimp only at hf3 ⊢
  refine fv hf3 F (fun hf3 _ F => ?_) (fun hf3 _ F => ?_)
  cases hf3
  obtain rfl := sr ho3
  try dsimp only at h
  cases h
  exact fin
  cases hf3
  refine tt ?_
  refine wn c_1 F fun F => ?_
  exact bk ih3 ho3 ()
  intro af9 m9 s9 a9 o9 hf9 ho9 ih9
  obtain ⟨ok_6, d_7⟩ := s9
  obtain ⟨⟩ := a9
  dsimp only [lazarettoref01_Meet_L2] at hf9 ⊢
  refine tt ?_
  repeat (first | (with_reducible intro _) | (with_reducible refine and_i ?_ ?_; exact ss))
  refine fl hf9 F (fun hf9 _ F => ?_) (fun hf9 _ F => ?_)
  refine fv hf9 F (fun hf9 _ F => ?_) (fun hf9 _ F => ?_)
  refine bi hf9 fun r_10 hf9 hr_10 => ?_
  refine tt ?_
  repeat (first | (with_reducible intro _) | (with_reducible refine and_i ?_ ?_; exact ss))
  refine cS (lazarettoref01_Leq_ok hr_10) ?_
  refine fv hf9 F (fun hf9 _ F => ?_) (fun hf9 _ F => ?_)
  refine bi hf9 fun r_11 hf9 hr_11 => ?_
  refine tt ?_
  repeat (first | (with_reducible intro _) | (with_reducible refine and_i ?_ ?_; exact ss))
  refine cS (lazarettoref01_Leq_ok hr_11) ?_
  refine fv hf9 F (fun hf9 _ F => ?_) (fun hf9 _ F => ?_)
  refine bi hf9 fun r_12 hf9 hr_12 => ?_
  refine tt ?_
  repeat (first | (with_reducible intro _) | (with_reducible refine and_i ?_ ?_; exact ss))
  refine cS (lazarettoref01_Leq_ok hr_12) ?_
  cases hf9
  refine tt ?_
  refine wn d_7 F fun F => ?_
  exact bk ih9 ho9 ()
  cases hf9
  refine tt ?_
  refine wn d_7 F fun F => ?_
  exact bk ih9 ho9 ()
  cases hf9
  refine tt ?_
  refine wn d_7 F fun F => ?_
  exact bk ih9 ho9 ()
  cases hf9
  refine tt ?_
  exact xt ho9 af9 ()
  cases hf9
  refine tt ?_
  exact xt ho9 af9 ()
  refine bi hf3 fun e_16 hf3 he_16 => ?_
  refine tt ?_
  refine lE (fun (s__ : Bool × Nat) (a__ : Unit) => match s__, a__ with | (ok_14, d_15), _ => ⟨[(1, .one (.int .i64 a)), (2, .one (.int .i64 b)), (3, .one (.ref 0 0 0 0)), (7, .one (.int .i64 (c_1 : Int))), (8, .one (.bool ok_14)), (9, .one (.int .i64 (d_15 : Int)))], [.cells 0 2 [[.sl (l.Names.map eS), .sl (l.Below.map (eA2 eI))]]]⟩) (fun (e__ : Bool) (b__ : Unit) => match e__, b__ with | e_16, _ => ⟨[(1, .one (.int .i64 a)), (2, .one (.int .i64 b)), (3, .one (.ref 0 0 0 0)), (7, .one (.int .i64 (c_1 : Int))), (8, .one (.bool e_16))], [.cells 0 2 [[.sl (l.Names.map eS), .sl (l.Below.map (eA2 eI))]]]⟩) (fun (_ : Bool) => some 2) () he_16 ?_ ?_
  intro i17 b17 hi17
  obtain rfl := Option.some.inj hi17
  obtain ⟨⟩ := b17
  dsimp only at hf3 ⊢
  refine fv hf3 F (fun hf3 _ F => ?_) (fun hf3 _ F => ?_)
  cases hf3
  obtain rfl := sr ho3
  try dsimp only at h
  cases h
  exact fin
  cases hf3
  refine tt ?_
  refine wn c_1 F fun F => ?_
  exact bk ih3 ho3 ()
  intro af17 m17 s17 a17 o17 hf17 ho17 ih17
  obtain ⟨ok_14, d_15⟩ := s17
  obtain ⟨⟩ := a17
  dsimp only [lazarettoref01_Meet_L3] at hf17 ⊢
  refine tt ?_
  repeat (first | (with_reducible intro _) | (with_reducible refine and_i ?_ ?_; exact ss))
  refine fl hf17 F (fun hf17 _ F => ?_) (fun hf17 _ F => ?_)
  refine fv hf17 F (fun hf17 _ F => ?_) (fun hf17 _ F => ?_)
  refine bi hf17 fun r_18 hf17 hr_18 => ?_
  refine tt ?_
  repeat (first | (with_reducible intro _) | (with_reducible refine and_i ?_ ?_; exact ss))
  refine cS (lazarettoref01_Leq_ok hr_18) ?_
  refine fv hf17 F (fun hf17 _ F => ?_) (fun hf17 _ F => ?_)
  refine bi hf17 fun r_19 hf17 hr_19 => ?_
  refine tt ?_
  repeat (first | (with_reducible intro _) | (with_reducible refine and_i ?_ ?_; exact ss))
  refine cS (lazarettoref01_Leq_ok hr_19) ?_
  refine fv hf17 F (fun hf17 _ F => ?_) (fun hf17 _ F => ?_)
  refine bi hf17 fun r_20 hf17 hr_20 => ?_
  refine tt ?_
  repeat (first | (with_reducible intro _) | (with_reducible refine and_i ?_ ?_; exact ss))
  refine cS (lazarettoref01_Leq_ok hr_20) ?_
  cases hf17
  refine tt ?_
  refine wn d_15 F fun F => ?_
  exact bk ih17 ho17 ()
  cases hf17
  refine tt ?_
  refine wn d_15 F fun F => ?_
  exact bk ih17 ho17 ()
  cases hf17
  refine tt ?_
  refine wn d_15 F fun F => ?_
  exact bk ih17 ho17 ()
  cases hf17
  refine tt ?_
  exact xt ho17 af17 ()
  cases hf17
  refine tt ?_
  exact xt ho17 af17 ()
  cases hf3
  refine tt ?_
  exact xt ho3 af3 ()
theorem lazarettoref01_Check_ok {l : api_Lattice} {r : Int} (h : lazarettoref01_Check l = some r) :
    Pu Tryz.prog 23 [.agg (e_api_Lattice l)] (.one (.int .i64 r)) := by
  have F := trivial; have R := trivial
  refine pA Tryz.func23 ?_
  simp only [Tryz.f23]
  unfold lazarettoref01_Check at h
  refine tt ?_
  repeat (first | (with_reducible intro _) | (with_reducible refine and_i ?_ ?_; exact ss))
  refine fi h F (fun h _ F => ?_) (fun h _ F => ?_)
  cases h; exact fin
  refine fi h F (fun h _ F => ?_) (fun h _ F => ?_)
  cases h; exact fin
  refine bi h fun e_2 h he_2 => ?_
  refine tt ?_
  refine lE (fun (s__ : Nat) (a__ : Unit) => match s__, a__ with | i_1, _ => ⟨[(1, .one (.ref 0 0 0 0)), (3, .one (.int .i64 (l.Names.length : Int))), (4, .one (.int .i64 (i_1 : Int)))], [.cells 0 2 [[.sl (l.Names.map eS), .sl (l.Below.map (eA2 eI))]]]⟩) (fun (e__ : Int ⊕ Unit) (b__ : Unit) => match e__, b__ with | (.inl e_7), _ => ⟨[], []⟩ | (.inr ()), _ => ⟨[(1, .one (.ref 0 0 0 0)), (3, .one (.int .i64 (l.Names.length : Int)))], [.cells 0 2 [[.sl (l.Names.map eS), .sl (l.Below.map (eA2 eI))]]]⟩) (fun (e__ : Int ⊕ Unit) => match e__ with | (.inl _) => none | (.inr _) => some 0) () he_2 ?_ ?_
  intro i3 b3 hi3
  rcases e_2 with e_case | ⟨⟩
  cases hi3
  obtain rfl := Option.some.inj hi3
  obtain ⟨⟩ := b3
  dsimp only at h ⊢
  refine bi h fun e_9 h he_9 => ?_
  refine tt ?_
  refine lE (fun (s__ : Nat) (a__ : Unit) => match s__, a__ with | a_8, _ => ⟨[(1, .one (.ref 0 0 0 0)), (3, .one (.int .i64 (l.Names.length : Int))), (5, .one (.int .i64 (a_8 : Int)))], [.cells 0 2 [[.sl (l.Names.map eS), .sl (l.Below.map (eA2 eI))]]]⟩) (fun (e__ : Int ⊕ Unit) (b__ : Unit) => match e__, b__ with | (.inl e_23), _ => ⟨[], []⟩ | (.inr ()), _ => ⟨[], [.cells 0 2 [[.sl (l.Names.map eS), .sl (l.Below.map (eA2 eI))]]]⟩) (fun (e__ : Int ⊕ Unit) => match e__ with | (.inl _) => none | (.inr _) => some 2) () he_9 ?_ ?_
  intro i10 b10 hi10
  rcases e_9 with e_case | ⟨⟩
  cases hi10
  obtain rfl := Option.some.inj hi10
  obtain ⟨⟩ := b10
  dsimp only at h ⊢
  cases h; exact fin
  intro af10 m10 a_8 a10 o10 hf10 ho10 ih10
  obtain ⟨⟩ := a10
  dsimp only [lazarettoref01_Check_L2] at hf10 ⊢
  refine fl hf10 F (fun hf10 _ F => ?_) (fun hf10 _ F => ?_)
  refine bx hf10 F fun x_11 hf10 hx_11 F => ?_
  refine tt ?_
  repeat (first | (with_reducible intro _) | (with_reducible refine and_i ?_ ?_; exact ss))
  refine fi hf10 F (fun hf10 _ F => ?_) (fun hf10 _ F => ?_)
  cases hf10
  obtain rfl := sr ho10
  try dsimp only at h
  cases h
  exact fin
  refine bi hf10 fun e_13 hf10 he_13 => ?_
  refine tt ?_
  refine lE (fun (s__ : Nat) (a__ : Unit) => match s__, a__ with | b_12, _ => ⟨[(1, .one (.ref 0 0 0 0)), (3, .one (.int .i64 (l.Names.length : Int))), (5, .one (.int .i64 (a_8 : Int))), (6, .one (.int .i64 (b_12 : Int)))], [.cells 0 2 [[.sl (l.Names.map eS), .sl (l.Below.map (eA2 eI))]]]⟩) (fun (e__ : Int ⊕ Unit) (b__ : Unit) => match e__, b__ with | (.inl e_22), _ => ⟨[], []⟩ | (.inr ()), _ => ⟨[(1, .one (.ref 0 0 0 0)), (3, .one (.int .i64 (l.Names.length : Int))), (5, .one (.int .i64 (a_8 : Int)))], [.cells 0 2 [[.sl (l.Names.map eS), .sl (l.Below.map (eA2 eI))]]]⟩) (fun (e__ : Int ⊕ Unit) => match e__ with | (.inl _) => none | (.inr _) => some 4) () he_13 ?_ ?_
  intro i14 b14 hi14
  rcases e_13 with e_case | ⟨⟩
  cases hi14
  obtain rfl := Option.some.inj hi14
  obtain ⟨⟩ := b14
  dsimp only at hf10 ⊢
  cases hf10
  refine tt ?_
  refine wn a_8 F fun F => ?_
  exact bk ih10 ho10 ()
  intro af14 m14 b_12 a14 o14 hf14 ho14 ih14
  obtain ⟨⟩ := a14
  dsimp only [lazarettoref01_Check_L3] at hf14 ⊢
  refine fl hf14 F (fun hf14 _ F => ?_) (fun hf14 _ F => ?_)
  refine bx hf14 F fun x_15 hf14 hx_15 F => ?_
  refine tt ?_
  repeat (first | (with_reducible intro _) | (with_reducible refine and_i ?_ ?_; exact ss))
  refine fi hf14 F (fun hf14 _ F => ?_) (fun hf14 _ F => ?_)
  cases hf14
  obtain rfl := sr ho14
  try dsimp only at hf10
  cases hf10
  obtain rfl := sr ho10
  try dsimp only at h
  cases h
  exact fin
  refine bi hf14 fun r_16 hf14 hr_16 => ?_
  refine tt ?_
  repeat (first | (with_reducible intro _) | (with_reducible refine and_i ?_ ?_; exact ss))
  refine cD (lazarettoref01_Leq_ok hr_16) ?_
  refine tt ?_
  repeat (first | (with_reducible intro _) | (with_reducible refine and_i ?_ ?_; exact ss))
  refine fv hf14 F (fun hf14 _ F => ?_) (fun hf14 _ F => ?_)
  refine bi hf14 fun r_17 hf14 hr_17 => ?_
  refine tt ?_
  repeat (first | (with_reducible intro _) | (with_reducible refine and_i ?_ ?_; exact ss))
  refine cD (lazarettoref01_Leq_ok hr_17) ?_
  refine tt ?_
  repeat (first | (with_reducible intro _) | (with_reducible refine and_i ?_ ?_; exact ss))
  refine fv hf14 F (fun hf14 _ F => ?_) (fun hf14 _ F => ?_)
  cases hf14
  obtain rfl := sr ho14
  try dsimp only at hf10
  cases hf10
  obtain rfl := sr ho10
  try dsimp only at h
  cases h
  exact fin
  refine bi hf14 fun r_18 hf14 hr_18 => ?_
  refine tt ?_
  repeat (first | (with_reducible intro _) | (with_reducible refine and_i ?_ ?_; exact ss))
  refine cD (lazarettoref01_Join_ok hr_18) ?_
  refine tt ?_
  repeat (first | (with_reducible intro _) | (with_reducible refine and_i ?_ ?_; exact ss))
  refine fi hf14 F (fun hf14 _ F => ?_) (fun hf14 _ F => ?_)
  cases hf14
  obtain rfl := sr ho14
  try dsimp only at hf10
  cases hf10
  obtain rfl := sr ho10
  try dsimp only at h
  cases h
  exact fin
  refine bi hf14 fun r_19 hf14 hr_19 => ?_
  refine tt ?_
  repeat (first | (with_reducible intro _) | (with_reducible refine and_i ?_ ?_; exact ss))
  refine cD (lazarettoref01_Meet_ok hr_19) ?_
  refine tt ?_
  repeat (first | (with_reducible intro _) | (with_reducible refine and_i ?_ ?_; exact ss))
  refine fi hf14 F (fun hf14 _ F => ?_) (fun hf14 _ F => ?_)
  cases hf14
  obtain rfl := sr ho14
  try dsimp only at hf10
  cases hf10
  obtain rfl := sr ho10
  try dsimp only at h
  cases h
  exact fin
  cases hf14
  refine tt ?_
  refine wn b_12 F fun F => ?_
  exact bk ih14 ho14 ()
  refine bi hf14 fun r_20 hf14 hr_20 => ?_
  refine tt ?_
  repeat (first | (with_reducible intro _) | (with_reducible refine and_i ?_ ?_; exact ss))
  refine cD (lazarettoref01_Join_ok hr_20) ?_
  refine tt ?_
  repeat (first | (with_reducible intro _) | (with_reducible refine and_i ?_ ?_; exact ss))
  refine fi hf14 F (fun hf14 _ F => ?_) (fun hf14 _ F => ?_)
  cases hf14
  obtain rfl := sr ho14
  try dsimp only at hf10
  cases hf10
  obtain rfl := sr ho10
  try dsimp only at h
  cases h
  exact fin
  refine bi hf14 fun r_21 hf14 hr_21 => ?_
  refine tt ?_
  repeat (first | (with_reducible intro _) | (with_reducible refine and_i ?_ ?_; exact ss))
  refine cD (lazarettoref01_Meet_ok hr_21) ?_
  refine tt ?_
  repeat (first | (with_reducible intro _) | (with_reducible refine and_i ?_ ?_; exact ss))
  refine fi hf14 F (fun hf14 _ F => ?_) (fun hf14 _ F => ?_)
  cases hf14
  obtain rfl := sr ho14
  try dsimp only at hf10
  cases hf10
  obtain rfl := sr ho10
  try dsimp only at h
  cases h
  exact fin
  cases hf14
  refine tt ?_
  refine wn b_12 F fun F => ?_
  exact bk ih14 ho14 ()
  cases hf14
  refine tt ?_
  exact xt ho14 af14 ()
  cases hf10
  refine tt ?_
  exact xt ho10 af10 ()
  intro af3 m3 i_1 a3 o3 hf3 ho3 ih3
  obtain ⟨⟩ := a3
  dsimp only [lazarettoref01_Check_L1] at hf3 ⊢
  refine tt ?_
  repeat (first | (with_reducible intro _) | (with_reducible refine and_i ?_ ?_; exact ss))
  refine fl hf3 F (fun hf3 _ F => ?_) (fun hf3 _ F => ?_)
  refine bx hf3 F fun x_4 hf3 hx_4 F => ?_
  refine bi hf3 fun r_5 hf3 hr_5 => ?_
  refine tt ?_
  repeat (first | (with_reducible intro _) | (with_reducible refine and_i ?_ ?_; exact ss))
  refine cD (lazarettoref01_Is_ok hr_5) ?_
  refine tt ?_
  repeat (first | (with_reducible intro _) | (with_reducible refine and_i ?_ ?_; exact ss))
  refine fv hf3 F (fun hf3 _ F => ?_) (fun hf3 _ F => ?_)
  refine bi hf3 fun r_6 hf3 hr_6 => ?_
  refine tt ?_
  repeat (first | (with_reducible intro _) | (with_reducible refine and_i ?_ ?_; exact ss))
  refine cD (lazarettoref01_Is_ok hr_6) ?_
  refine tt ?_
  repeat (first | (with_reducible intro _) | (with_reducible refine and_i ?_ ?_; exact ss))
  refine fv hf3 F (fun hf3 _ F => ?_) (fun hf3 _ F => ?_)
  cases hf3
  refine tt ?_
  refine wn i_1 F fun F => ?_
  exact bk ih3 ho3 ()
  cases hf3
  obtain rfl := sr ho3
  try dsimp only at h
  cases h
  exact fin
  cases hf3
  obtain rfl := sr ho3
  try dsimp only at h
  cases h
  exact fin
  cases hf3
  refine tt ?_
  exact xt ho3 af3 ()
theorem lazarettoref03_Bits_ok {kind : Int} {r : Int} (h : lazarettoref03_Bits kind = some r) :
    Pu Tryz.prog 112 [.one (.int .i64 kind)] (.one (.int .i64 r)) := by
  have F := trivial; have R := trivial
  refine pA Tryz.func112 ?_
  simp only [Tryz.f112]
  unfold lazarettoref03_Bits at h
  refine fi h F (fun h _ F => ?_) (fun h _ F => ?_)
  cases h; exact fin
  refine fi h F (fun h _ F => ?_) (fun h _ F => ?_)
  cases h; exact fin
  refine tt ?_
  refine fi h F (fun h _ F => ?_) (fun h _ F => ?_)
  cases h; exact fin
  refine fi h F (fun h _ F => ?_) (fun h _ F => ?_)
  cases h; exact fin
  cases h; exact fin
theorem lazarettoref04_Check_ok {t : api_Type} {r : Int} (h : lazarettoref04_Check t = some r) :
    Pu Tryz.prog 91 [.agg (e_api_Type t)] (.one (.int .i64 r)) := by
  have F := trivial; have R := trivial
  refine pA Tryz.func91 ?_
  simp only [Tryz.f91]
  unfold lazarettoref04_Check at h
  refine bi h fun r_1 h hr_1 => ?_
  refine tt ?_
  repeat (first | (with_reducible intro _) | (with_reducible refine and_i ?_ ?_; exact ss))
  refine cS (lazarettoref03_Bits_ok hr_1) ?_
  refine fi h F (fun h _ F => ?_) (fun h _ F => ?_)
  cases h; exact fin
  refine tt ?_
  refine fi h F (fun h _ F => ?_) (fun h _ F => ?_)
  cases h; exact fin
  refine fi h F (fun h _ F => ?_) (fun h _ F => ?_)
  cases h; exact fin
  refine tt ?_
  refine fi h F (fun h _ F => ?_) (fun h _ F => ?_)
  refine fi h F (fun h _ F => ?_) (fun h _ F => ?_)
  refine tt ?_
  refine fi h F (fun h _ F => ?_) (fun h _ F => ?_)
  cases h; exact fin
  refine fi h F (fun h _ F => ?_) (fun h _ F => ?_)
  cases h; exact fin
  cases h; exact fin
  cases h; exact fin
  refine tt ?_
  refine fi h F (fun h _ F => ?_) (fun h _ F => ?_)
  cases h; exact fin
  refine fi h F (fun h _ F => ?_) (fun h _ F => ?_)
  cases h; exact fin
  cases h; exact fin
theorem lazarettoref03_half_ok {kind : Int} {r : Int} (h : lazarettoref03_half kind = some r) :
    Pu Tryz.prog 113 [.one (.int .i64 kind)] (.one (.int .i64 r)) := by
  have F := trivial; have R := trivial
  refine pA Tryz.func113 ?_
  simp only [Tryz.f113]
  unfold lazarettoref03_half at h
  refine fi h F (fun h _ F => ?_) (fun h _ F => ?_)
  cases h; exact fin
  cases h; exact fin
theorem lazarettoref03_Valid_ok {kind : Int} {n : Int} {r : Bool} (h : lazarettoref03_Valid kind n = some r) :
    Pu Tryz.prog 92 [.one (.int .i64 kind), .one (.int .i64 n)] (.one (.bool r)) := by
  have F := trivial; have R := trivial
  refine pA Tryz.func92 ?_
  simp only [Tryz.f92]
  unfold lazarettoref03_Valid at h
  refine fi h F (fun h _ F => ?_) (fun h _ F => ?_)
  refine fi h F (fun h _ F => ?_) (fun h _ F => ?_)
  cases h; exact fin
  cases h; exact fin
  refine bi h fun r_1 h hr_1 => ?_
  refine tt ?_
  repeat (first | (with_reducible intro _) | (with_reducible refine and_i ?_ ?_; exact ss))
  refine cS (lazarettoref03_Bits_ok hr_1) ?_
  refine fi h F (fun h _ F => ?_) (fun h _ F => ?_)
  refine bi h fun r_2 h hr_2 => ?_
  refine tt ?_
  repeat (first | (with_reducible intro _) | (with_reducible refine and_i ?_ ?_; exact ss))
  refine cS (lazarettoref03_half_ok hr_2) ?_
  refine fi h F (fun h _ F => ?_) (fun h _ F => ?_)
  refine bi h fun r_3 h hr_3 => ?_
  refine tt ?_
  repeat (first | (with_reducible intro _) | (with_reducible refine and_i ?_ ?_; exact ss))
  refine cS (lazarettoref03_half_ok hr_3) ?_
  cases h; exact fin
  cases h; exact fin
  cases h; exact fin
theorem lazarettoref18_variable_ok {m : api_Image} {v : api_Var} {r : Bool} (h : lazarettoref18_variable m v = some r) :
    Pu Tryz.prog 62 [.agg (e_api_Image m), .agg (e_api_Var v)] (.one (.bool r)) := by
  have F := trivial; have R := trivial
  refine pA Tryz.func62 ?_
  simp only [Tryz.f62]
  unfold lazarettoref18_variable at h
  refine tt ?_
  refine fi h F (fun h _ F => ?_) (fun h _ F => ?_)
  refine bi h fun r_1 h hr_1 => ?_
  refine tt ?_
  repeat (first | (with_reducible intro _) | (with_reducible refine and_i ?_ ?_; exact ss))
  refine cS (lazarettoref01_Is_ok hr_1) ?_
  refine fv h F (fun h _ F => ?_) (fun h _ F => ?_)
  refine bi h fun r_2 h hr_2 => ?_
  refine tt ?_
  repeat (first | (with_reducible intro _) | (with_reducible refine and_i ?_ ?_; exact ss))
  refine cS (lazarettoref04_Check_ok hr_2) ?_
  refine fi h F (fun h _ F => ?_) (fun h _ F => ?_)
  refine fi h F (fun h _ F => ?_) (fun h _ F => ?_)
  cases h; exact fin
  refine tt ?_
  refine fi h F (fun h _ F => ?_) (fun h _ F => ?_)
  refine fi h F (fun h _ F => ?_) (fun h _ F => ?_)
  refine tt ?_
  refine fi h F (fun h _ F => ?_) (fun h _ F => ?_)
  cases h; exact fin
  refine fi h F (fun h _ F => ?_) (fun h _ F => ?_)
  exact (by omega : False).elim
  cases h; exact fin
  refine tt ?_
  refine fi h F (fun h _ F => ?_) (fun h _ F => ?_)
  refine bi h fun r_3 h hr_3 => ?_
  refine tt ?_
  repeat (first | (with_reducible intro _) | (with_reducible refine and_i ?_ ?_; exact ss))
  refine cS (lazarettoref03_Valid_ok hr_3) ?_
  cases h; exact fin
  cases h; exact fin
  cases h; exact fin
  cases h; exact fin
  cases h; exact fin
  cases h; exact fin
theorem lazarettoref11_Inputs_ok {kind : Str} {r : List Int} (h : lazarettoref11_Inputs kind = some r) :
    Pu Tryz.prog 63 [.one (.str kind)] (.one (.sl (r.map eI))) := by
  have F := trivial; have R := trivial
  refine pA Tryz.func63 ?_
  simp only [Tryz.f63]
  unfold lazarettoref11_Inputs at h
  refine fi h F (fun h _ F => ?_) (fun h _ F => ?_)
  cases h; exact fin
  refine fi h F (fun h _ F => ?_) (fun h _ F => ?_)
  cases h; exact fin
  refine tt ?_
  refine fi h F (fun h _ F => ?_) (fun h _ F => ?_)
  cases h; exact fin
  refine fi h F (fun h _ F => ?_) (fun h _ F => ?_)
  cases h; exact fin
  refine fi h F (fun h _ F => ?_) (fun h _ F => ?_)
  cases h; exact fin
  refine fi h F (fun h _ F => ?_) (fun h _ F => ?_)
  cases h; exact fin
  refine tt ?_
  refine fi h F (fun h _ F => ?_) (fun h _ F => ?_)
  cases h; exact fin
  refine fi h F (fun h _ F => ?_) (fun h _ F => ?_)
  cases h; exact fin
  refine fi h F (fun h _ F => ?_) (fun h _ F => ?_)
  cases h; exact fin
  refine fi h F (fun h _ F => ?_) (fun h _ F => ?_)
  cases h; exact fin
  cases h; exact fin
theorem lazarettoref18_task_ok {m : api_Image} {t : api_Task} {r : Bool} (h : lazarettoref18_task m t = some r) :
    Pu Tryz.prog 64 [.agg (e_api_Image m), .agg (e_api_Task t)] (.one (.bool r)) := by
  have F := trivial; have R := trivial
  refine pA Tryz.func64 ?_
  simp only [Tryz.f64]
  unfold lazarettoref18_task at h
  refine tt ?_
  refine fi h F (fun h _ F => ?_) (fun h _ F => ?_)
  cases h; exact fin
  refine fi h F (fun h _ F => ?_) (fun h _ F => ?_)
  cases h; exact fin
  refine tt ?_
  refine fi h F (fun h _ F => ?_) (fun h _ F => ?_)
  cases h; exact fin
  refine fi h F (fun h _ F => ?_) (fun h _ F => ?_)
  cases h; exact fin
  refine tt ?_
  repeat (first | (with_reducible intro _) | (with_reducible refine and_i ?_ ?_; exact ss))
  refine fi h F (fun h _ F => ?_) (fun h _ F => ?_)
  refine tt ?_
  repeat (first | (with_reducible intro _) | (with_reducible refine and_i ?_ ?_; exact ss))
  refine fi h F (fun h _ F => ?_) (fun h _ F => ?_)
  cases h; exact fin
  refine bi h fun e_2 h he_2 => ?_
  refine tt ?_
  refine lE (fun (s__ : Nat) (a__ : Unit) => match s__, a__ with | i_1, _ => ⟨[(3, .one (.ref 1 0 0 0)), (5, .one (.int .i64 (i_1 : Int)))], [.cells 0 7 [[.sl (m.Lattice.Names.map eS), .sl (m.Lattice.Below.map (eA2 eI)), .sl (m.Sites.map e_api_Site), .sl (m.Vars.map e_api_Var), .sl (m.Blocks.map e_api_Block), .sl (m.Tasks.map e_api_Task), .sl (m.Code.map (eL e_api_Ins))]], .cells 0 4 [[.int .i64 t.Every, .int .i64 t.Priority, .sl (t.Budget.map eI), .sl (t.Body.map e_api_Stmt)]]]⟩) (fun (e__ : Bool ⊕ Unit) (b__ : Unit) => match e__, b__ with | (.inl e_5), _ => ⟨[], []⟩ | (.inr ()), _ => ⟨[], [.cells 0 7 [[.sl (m.Lattice.Names.map eS), .sl (m.Lattice.Below.map (eA2 eI)), .sl (m.Sites.map e_api_Site), .sl (m.Vars.map e_api_Var), .sl (m.Blocks.map e_api_Block), .sl (m.Tasks.map e_api_Task), .sl (m.Code.map (eL e_api_Ins))]], .cells 0 4 [[.int .i64 t.Every, .int .i64 t.Priority, .sl (t.Budget.map eI), .sl (t.Body.map e_api_Stmt)]]]⟩) (fun (e__ : Bool ⊕ Unit) => match e__ with | (.inl _) => none | (.inr _) => some 0) () he_2 ?_ ?_
  intro i3 b3 hi3
  rcases e_2 with e_case | ⟨⟩
  cases hi3
  obtain rfl := Option.some.inj hi3
  obtain ⟨⟩ := b3
  dsimp only at h ⊢
  cases h; exact fin
  intro af3 m3 i_1 a3 o3 hf3 ho3 ih3
  obtain ⟨⟩ := a3
  dsimp only [lazarettoref18_task_L1] at hf3 ⊢
  refine tt ?_
  repeat (first | (with_reducible intro _) | (with_reducible refine and_i ?_ ?_; exact ss))
  refine fl hf3 F (fun hf3 _ F => ?_) (fun hf3 _ F => ?_)
  refine bx hf3 F fun x_4 hf3 hx_4 F => ?_
  refine tt ?_
  repeat (first | (with_reducible intro _) | (with_reducible refine and_i ?_ ?_; exact ss))
  refine fi hf3 F (fun hf3 _ F => ?_) (fun hf3 _ F => ?_)
  cases hf3
  obtain rfl := sr ho3
  try dsimp only at h
  cases h
  exact fin
  refine tt ?_
  repeat (first | (with_reducible intro _) | (with_reducible refine and_i ?_ ?_; exact ss))
  refine fi hf3 F (fun hf3 _ F => ?_) (fun hf3 _ F => ?_)
  cases hf3
  obtain rfl := sr ho3
  try dsimp only at h
  cases h
  exact fin
  cases hf3
  refine tt ?_
  refine wn i_1 F fun F => ?_
  exact bk ih3 ho3 ()
  cases hf3
  refine tt ?_
  exact xt ho3 af3 ()
  cases h; exact fin
theorem lazarettoref17_names_ok {op : Int} {r : Bool × Bool × Bool} (h : lazarettoref17_names op = some r) :
    Pu Tryz.prog 114 [.one (.int .i64 op)] (.tup [.one (.bool r.1), .one (.bool r.2.1), .one (.bool r.2.2)]) := by
  have F := trivial; have R := trivial
  refine pA Tryz.func114 ?_
  simp only [Tryz.f114]
  unfold lazarettoref17_names at h
  refine fi h F (fun h _ F => ?_) (fun h _ F => ?_)
  cases h; exact fin
  refine tt ?_
  refine fi h F (fun h _ F => ?_) (fun h _ F => ?_)
  cases h; exact fin
  refine fi h F (fun h _ F => ?_) (fun h _ F => ?_)
  cases h; exact fin
  refine fi h F (fun h _ F => ?_) (fun h _ F => ?_)
  cases h; exact fin
  refine fi h F (fun h _ F => ?_) (fun h _ F => ?_)
  cases h; exact fin
  refine tt ?_
  refine fi h F (fun h _ F => ?_) (fun h _ F => ?_)
  cases h; exact fin
  refine fi h F (fun h _ F => ?_) (fun h _ F => ?_)
  cases h; exact fin
  refine fi h F (fun h _ F => ?_) (fun h _ F => ?_)
  cases h; exact fin
  refine fi h F (fun h _ F => ?_) (fun h _ F => ?_)
  cases h; exact fin
  refine tt ?_
  refine fi h F (fun h _ F => ?_) (fun h _ F => ?_)
  cases h; exact fin
  refine fi h F (fun h _ F => ?_) (fun h _ F => ?_)
  cases h; exact fin
  refine fi h F (fun h _ F => ?_) (fun h _ F => ?_)
  cases h; exact fin
  refine fi h F (fun h _ F => ?_) (fun h _ F => ?_)
  cases h; exact fin
  cases h; exact fin
theorem lazarettoref17_one_ok {i : api_Ins} {r : Bool} (h : lazarettoref17_one i = some r) :
    Pu Tryz.prog 93 [.agg (e_api_Ins i)] (.one (.bool r)) := by
  have F := trivial; have R := trivial
  refine pA Tryz.func93 ?_
  simp only [Tryz.f93]
  unfold lazarettoref17_one at h
  refine bi h fun r_1 h hr_1 => ?_
  refine tt ?_
  repeat (first | (with_reducible intro _) | (with_reducible refine and_i ?_ ?_; exact ss))
  refine cS (lazarettoref17_names_ok hr_1) ?_
  refine tt ?_
  refine fv h F (fun h _ F => ?_) (fun h _ F => ?_)
  refine fv h F (fun h _ F => ?_) (fun h _ F => ?_)
  refine tt ?_
  refine fv h F (fun h _ F => ?_) (fun h _ F => ?_)
  refine fi h F (fun h _ F => ?_) (fun h _ F => ?_)
  refine tt ?_
  refine fi h F (fun h _ F => ?_) (fun h _ F => ?_)
  refine fi h F (fun h _ F => ?_) (fun h _ F => ?_)
  refine tt ?_
  refine fi h F (fun h _ F => ?_) (fun h _ F => ?_)
  refine fi h F (fun h _ F => ?_) (fun h _ F => ?_)
  refine tt ?_
  refine fi h F (fun h _ F => ?_) (fun h _ F => ?_)
  refine fi h F (fun h _ F => ?_) (fun h _ F => ?_)
  cases h; exact fin
  cases h; exact fin
  cases h; exact fin
  cases h; exact fin
  cases h; exact fin
  cases h; exact fin
  cases h; exact fin
  cases h; exact fin
  refine fi h F (fun h _ F => ?_) (fun h _ F => ?_)
  refine tt ?_
  refine fi h F (fun h _ F => ?_) (fun h _ F => ?_)
  refine fi h F (fun h _ F => ?_) (fun h _ F => ?_)
  refine tt ?_
  refine fi h F (fun h _ F => ?_) (fun h _ F => ?_)
  refine fi h F (fun h _ F => ?_) (fun h _ F => ?_)
  refine tt ?_
  refine fi h F (fun h _ F => ?_) (fun h _ F => ?_)
  refine fi h F (fun h _ F => ?_) (fun h _ F => ?_)
  refine tt ?_
  refine fi h F (fun h _ F => ?_) (fun h _ F => ?_)
  cases h; exact fin
  cases h; exact fin
  cases h; exact fin
  cases h; exact fin
  cases h; exact fin
  cases h; exact fin
  cases h; exact fin
  cases h; exact fin
  cases h; exact fin
  refine tt ?_
  refine fi h F (fun h _ F => ?_) (fun h _ F => ?_)
  refine fv h F (fun h _ F => ?_) (fun h _ F => ?_)
  refine tt ?_
  refine fi h F (fun h _ F => ?_) (fun h _ F => ?_)
  refine fi h F (fun h _ F => ?_) (fun h _ F => ?_)
  refine tt ?_
  refine fi h F (fun h _ F => ?_) (fun h _ F => ?_)
  refine fi h F (fun h _ F => ?_) (fun h _ F => ?_)
  refine tt ?_
  refine fi h F (fun h _ F => ?_) (fun h _ F => ?_)
  refine fi h F (fun h _ F => ?_) (fun h _ F => ?_)
  refine tt ?_
  refine fi h F (fun h _ F => ?_) (fun h _ F => ?_)
  cases h; exact fin
  cases h; exact fin
  cases h; exact fin
  cases h; exact fin
  cases h; exact fin
  cases h; exact fin
  cases h; exact fin
  cases h; exact fin
  refine tt ?_
  refine fi h F (fun h _ F => ?_) (fun h _ F => ?_)
  refine fi h F (fun h _ F => ?_) (fun h _ F => ?_)
  refine tt ?_
  refine fi h F (fun h _ F => ?_) (fun h _ F => ?_)
  refine fi h F (fun h _ F => ?_) (fun h _ F => ?_)
  refine tt ?_
  refine fi h F (fun h _ F => ?_) (fun h _ F => ?_)
  refine fi h F (fun h _ F => ?_) (fun h _ F => ?_)
  refine tt ?_
  refine fi h F (fun h _ F => ?_) (fun h _ F => ?_)
  refine fi h F (fun h _ F => ?_) (fun h _ F => ?_)
  cases h; exact fin
  cases h; exact fin
  cases h; exact fin
  cases h; exact fin
  cases h; exact fin
  cases h; exact fin
  cases h; exact fin
  cases h; exact fin
  cases h; exact fin
  cases h; exact fin
  refine fi h F (fun h _ F => ?_) (fun h _ F => ?_)
  refine tt ?_
  refine fv h F (fun h _ F => ?_) (fun h _ F => ?_)
  refine fv h F (fun h _ F => ?_) (fun h _ F => ?_)
  refine tt ?_
  refine fi h F (fun h _ F => ?_) (fun h _ F => ?_)
  refine fi h F (fun h _ F => ?_) (fun h _ F => ?_)
  refine tt ?_
  refine fi h F (fun h _ F => ?_) (fun h _ F => ?_)
  refine fi h F (fun h _ F => ?_) (fun h _ F => ?_)
  refine tt ?_
  refine fi h F (fun h _ F => ?_) (fun h _ F => ?_)
  refine fi h F (fun h _ F => ?_) (fun h _ F => ?_)
  refine tt ?_
  refine fi h F (fun h _ F => ?_) (fun h _ F => ?_)
  cases h; exact fin
  cases h; exact fin
  cases h; exact fin
  cases h; exact fin
  cases h; exact fin
  cases h; exact fin
  cases h; exact fin
  cases h; exact fin
  refine tt ?_
  refine fi h F (fun h _ F => ?_) (fun h _ F => ?_)
  refine fi h F (fun h _ F => ?_) (fun h _ F => ?_)
  refine tt ?_
  refine fi h F (fun h _ F => ?_) (fun h _ F => ?_)
  refine fi h F (fun h _ F => ?_) (fun h _ F => ?_)
  refine tt ?_
  refine fi h F (fun h _ F => ?_) (fun h _ F => ?_)
  refine fi h F (fun h _ F => ?_) (fun h _ F => ?_)
  refine tt ?_
  refine fi h F (fun h _ F => ?_) (fun h _ F => ?_)
  refine fi h F (fun h _ F => ?_) (fun h _ F => ?_)
  cases h; exact fin
  cases h; exact fin
  cases h; exact fin
  cases h; exact fin
  cases h; exact fin
  cases h; exact fin
  cases h; exact fin
  cases h; exact fin
  cases h; exact fin
  refine fi h F (fun h _ F => ?_) (fun h _ F => ?_)
  refine tt ?_
  refine fv h F (fun h _ F => ?_) (fun h _ F => ?_)
  refine fi h F (fun h _ F => ?_) (fun h _ F => ?_)
  refine tt ?_
  refine fi h F (fun h _ F => ?_) (fun h _ F => ?_)
  refine fi h F (fun h _ F => ?_) (fun h _ F => ?_)
  refine tt ?_
  refine fi h F (fun h _ F => ?_) (fun h _ F => ?_)
  refine fi h F (fun h _ F => ?_) (fun h _ F => ?_)
  refine tt ?_
  refine fi h F (fun h _ F => ?_) (fun h _ F => ?_)
  refine fi h F (fun h _ F => ?_) (fun h _ F => ?_)
  cases h; exact fin
  cases h; exact fin
  cases h; exact fin
  cases h; exact fin
  cases h; exact fin
  cases h; exact fin
  cases h; exact fin
  cases h; exact fin
  refine fi h F (fun h _ F => ?_) (fun h _ F => ?_)
  refine tt ?_
  refine fi h F (fun h _ F => ?_) (fun h _ F => ?_)
  refine fi h F (fun h _ F => ?_) (fun h _ F => ?_)
  refine tt ?_
  refine fi h F (fun h _ F => ?_) (fun h _ F => ?_)
  refine fi h F (fun h _ F => ?_) (fun h _ F => ?_)
  refine tt ?_
  refine fi h F (fun h _ F => ?_) (fun h _ F => ?_)
  refine fi h F (fun h _ F => ?_) (fun h _ F => ?_)
  refine tt ?_
  refine fi h F (fun h _ F => ?_) (fun h _ F => ?_)
  cases h; exact fin
  cases h; exact fin
  cases h; exact fin
  cases h; exact fin
  cases h; exact fin
  cases h; exact fin
  cases h; exact fin
  cases h; exact fin
  cases h; exact fin
  cases h; exact fin
  cases h; exact fin
theorem lazarettoref17_Check_ok {l : List api_Ins} {r : Int} (h : lazarettoref17_Check l = some r) :
    Pu Tryz.prog 65 [.one (.sl (l.map e_api_Ins))] (.one (.int .i64 r)) := by
  have F := trivial; have R := trivial
  refine pA Tryz.func65 ?_
  simp only [Tryz.f65]
  unfold lazarettoref17_Check at h
  refine tt ?_
  repeat (first | (with_reducible intro _) | (with_reducible refine and_i ?_ ?_; exact ss))
  refine fi h F (fun h _ F => ?_) (fun h _ F => ?_)
  cases h; exact fin
  refine bi h fun e_2 h he_2 => ?_
  refine tt ?_
  refine lE (fun (s__ : Nat) (a__ : Unit) => match s__, a__ with | i_1, _ => ⟨[(0, .one (.sl (l.map e_api_Ins))), (3, .one (.int .i64 (i_1 : Int)))], []⟩) (fun (e__ : Int ⊕ Unit) (b__ : Unit) => match e__, b__ with | (.inl e_6), _ => ⟨[], []⟩ | (.inr ()), _ => ⟨[], []⟩) (fun (e__ : Int ⊕ Unit) => match e__ with | (.inl _) => none | (.inr _) => some 0) () he_2 ?_ ?_
  intro i3 b3 hi3
  rcases e_2 with e_case | ⟨⟩
  cases hi3
  obtain rfl := Option.some.inj hi3
  obtain ⟨⟩ := b3
  dsimp only at h ⊢
  cases h; exact fin
  intro af3 m3 i_1 a3 o3 hf3 ho3 ih3
  obtain ⟨⟩ := a3
  dsimp only [lazarettoref17_Check_L1] at hf3 ⊢
  refine tt ?_
  repeat (first | (with_reducible intro _) | (with_reducible refine and_i ?_ ?_; exact ss))
  refine fl hf3 F (fun hf3 _ F => ?_) (fun hf3 _ F => ?_)
  refine bx hf3 F fun x_4 hf3 hx_4 F => ?_
  refine bi hf3 fun r_5 hf3 hr_5 => ?_
  refine tt ?_
  repeat (first | (with_reducible intro _) | (with_reducible refine and_i ?_ ?_; exact ss))
  refine cS (lazarettoref17_one_ok hr_5) ?_
  refine fv hf3 F (fun hf3 _ F => ?_) (fun hf3 _ F => ?_)
  cases hf3
  refine tt ?_
  refine wn i_1 F fun F => ?_
  exact bk ih3 ho3 ()
  cases hf3
  obtain rfl := sr ho3
  try dsimp only at h
  cases h
  exact fin
  cases hf3
  refine tt ?_
  exact xt ho3 af3 ()
theorem lazarettoref18_parts_ok {m : api_Image} {r : Bool} (h : lazarettoref18_parts m = some r) :
    Pu Tryz.prog 24 [.agg (e_api_Image m)] (.one (.bool r)) := by
  have F := trivial; have R := trivial
  refine pA Tryz.func24 ?_
  simp only [Tryz.f24]
  unfold lazarettoref18_parts at h
  refine bi h fun e_2 h he_2 => ?_
  refine tt ?_
  refine lE (fun (s__ : Nat) (a__ : Unit) => match s__, a__ with | i_1, _ => ⟨[(1, .one (.ref 0 0 0 0)), (3, .one (.int .i64 (i_1 : Int)))], [.cells 0 7 [[.sl (m.Lattice.Names.map eS), .sl (m.Lattice.Below.map (eA2 eI)), .sl (m.Sites.map e_api_Site), .sl (m.Vars.map e_api_Var), .sl (m.Blocks.map e_api_Block), .sl (m.Tasks.map e_api_Task), .sl (m.Code.map (eL e_api_Ins))]]]⟩) (fun (e__ : Bool ⊕ Unit) (b__ : Unit) => match e__, b__ with | (.inl e_7), _ => ⟨[], []⟩ | (.inr ()), _ => ⟨[(1, .one (.ref 0 0 0 0))], [.cells 0 7 [[.sl (m.Lattice.Names.map eS), .sl (m.Lattice.Below.map (eA2 eI)), .sl (m.Sites.map e_api_Site), .sl (m.Vars.map e_api_Var), .sl (m.Blocks.map e_api_Block), .sl (m.Tasks.map e_api_Task), .sl (m.Code.map (eL e_api_Ins))]]]⟩) (fun (e__ : Bool ⊕ Unit) => match e__ with | (.inl _) => none | (.inr _) => some 0) () he_2 ?_ ?_
  intro i3 b3 hi3
  rcases e_2 with e_case | ⟨⟩
  cases hi3
  obtain rfl := Option.some.inj hi3
  obtain ⟨⟩ := b3
  dsimp only at h ⊢
  refine bi h fun e_9 h he_9 => ?_
  refine tt ?_
  refine lE (fun (s__ : Nat) (a__ : Unit) => match s__, a__ with | i_8, _ => ⟨[(1, .one (.ref 0 0 0 0)), (5, .one (.int .i64 (i_8 : Int)))], [.cells 0 7 [[.sl (m.Lattice.Names.map eS), .sl (m.Lattice.Below.map (eA2 eI)), .sl (m.Sites.map e_api_Site), .sl (m.Vars.map e_api_Var), .sl (m.Blocks.map e_api_Block), .sl (m.Tasks.map e_api_Task), .sl (m.Code.map (eL e_api_Ins))]]]⟩) (fun (e__ : Bool ⊕ Unit) (b__ : Unit) => match e__, b__ with | (.inl e_13), _ => ⟨[], []⟩ | (.inr ()), _ => ⟨[(1, .one (.ref 0 0 0 0))], [.cells 0 7 [[.sl (m.Lattice.Names.map eS), .sl (m.Lattice.Below.map (eA2 eI)), .sl (m.Sites.map e_api_Site), .sl (m.Vars.map e_api_Var), .sl (m.Blocks.map e_api_Block), .sl (m.Tasks.map e_api_Task), .sl (m.Code.map (eL e_api_Ins))]]]⟩) (fun (e__ : Bool ⊕ Unit) => match e__ with | (.inl _) => none | (.inr _) => some 2) () he_9 ?_ ?_
  intro i10 b10 hi10
  rcases e_9 with e_case | ⟨⟩
  cases hi10
  obtain rfl := Option.some.inj hi10
  obtain ⟨⟩ := b10
  dsimp only at h ⊢
  refine bi h fun e_15 h he_15 => ?_
  refine tt ?_
  refine lE (fun (s__ : Nat) (a__ : Unit) => match s__, a__ with | i_14, _ => ⟨[(1, .one (.ref 0 0 0 0)), (6, .one (.int .i64 (i_14 : Int)))], [.cells 0 7 [[.sl (m.Lattice.Names.map eS), .sl (m.Lattice.Below.map (eA2 eI)), .sl (m.Sites.map e_api_Site), .sl (m.Vars.map e_api_Var), .sl (m.Blocks.map e_api_Block), .sl (m.Tasks.map e_api_Task), .sl (m.Code.map (eL e_api_Ins))]]]⟩) (fun (e__ : Bool ⊕ Unit) (b__ : Unit) => match e__, b__ with | (.inl e_20), _ => ⟨[], []⟩ | (.inr ()), _ => ⟨[(1, .one (.ref 0 0 0 0))], [.cells 0 7 [[.sl (m.Lattice.Names.map eS), .sl (m.Lattice.Below.map (eA2 eI)), .sl (m.Sites.map e_api_Site), .sl (m.Vars.map e_api_Var), .sl (m.Blocks.map e_api_Block), .sl (m.Tasks.map e_api_Task), .sl (m.Code.map (eL e_api_Ins))]]]⟩) (fun (e__ : Bool ⊕ Unit) => match e__ with | (.inl _) => none | (.inr _) => some 4) () he_15 ?_ ?_
  intro i16 b16 hi16
  rcases e_15 with e_case | ⟨⟩
  cases hi16
  obtain rfl := Option.some.inj hi16
  obtain ⟨⟩ := b16
  dsimp only at h ⊢
  refine tt ?_
  repeat (first | (with_reducible intro _) | (with_reducible refine and_i ?_ ?_; exact ss))
  refine fi h F (fun h _ F => ?_) (fun h _ F => ?_)
  refine bi h fun e_22 h he_22 => ?_
  refine tt ?_
  refine lE (fun (s__ : Nat) (a__ : Unit) => match s__, a__ with | i_21, _ => ⟨[(1, .one (.ref 0 0 0 0)), (8, .one (.int .i64 (i_21 : Int)))], [.cells 0 7 [[.sl (m.Lattice.Names.map eS), .sl (m.Lattice.Below.map (eA2 eI)), .sl (m.Sites.map e_api_Site), .sl (m.Vars.map e_api_Var), .sl (m.Blocks.map e_api_Block), .sl (m.Tasks.map e_api_Task), .sl (m.Code.map (eL e_api_Ins))]]]⟩) (fun (e__ : Bool ⊕ Unit) (b__ : Unit) => match e__, b__ with | (.inl e_28), _ => ⟨[], []⟩ | (.inr ()), _ => ⟨[], [.cells 0 7 [[.sl (m.Lattice.Names.map eS), .sl (m.Lattice.Below.map (eA2 eI)), .sl (m.Sites.map e_api_Site), .sl (m.Vars.map e_api_Var), .sl (m.Blocks.map e_api_Block), .sl (m.Tasks.map e_api_Task), .sl (m.Code.map (eL e_api_Ins))]]]⟩) (fun (e__ : Bool ⊕ Unit) => match e__ with | (.inl _) => none | (.inr _) => some 6) () he_22 ?_ ?_
  intro i23 b23 hi23
  rcases e_22 with e_case | ⟨⟩
  cases hi23
  obtain rfl := Option.some.inj hi23
  obtain ⟨⟩ := b23
  dsimp only at h ⊢
  cases h; exact fin
  intro af23 m23 i_21 a23 o23 hf23 ho23 ih23
  obtain ⟨⟩ := a23
  dsimp only [lazarettoref18_parts_L4] at hf23 ⊢
  refine tt ?_
  repeat (first | (with_reducible intro _) | (with_reducible refine and_i ?_ ?_; exact ss))
  refine fl hf23 F (fun hf23 _ F => ?_) (fun hf23 _ F => ?_)
  refine bx hf23 F fun x_24 hf23 hx_24 F => ?_
  refine bi hf23 fun r_25 hf23 hr_25 => ?_
  refine tt ?_
  repeat (first | (with_reducible intro _) | (with_reducible refine and_i ?_ ?_; exact ss))
  refine cD (lazarettoref18_task_ok hr_25) ?_
  refine tt ?_
  repeat (first | (with_reducible intro _) | (with_reducible refine and_i ?_ ?_; exact ss))
  refine fv hf23 F (fun hf23 _ F => ?_) (fun hf23 _ F => ?_)
  refine bx hf23 F fun x_26 hf23 hx_26 F => ?_
  refine bi hf23 fun r_27 hf23 hr_27 => ?_
  refine tt ?_
  repeat (first | (with_reducible intro _) | (with_reducible refine and_i ?_ ?_; exact ss))
  refine cD (lazarettoref17_Check_ok hr_27) ?_
  refine tt ?_
  repeat (first | (with_reducible intro _) | (with_reducible refine and_i ?_ ?_; exact ss))
  refine fi hf23 F (fun hf23 _ F => ?_) (fun hf23 _ F => ?_)
  cases hf23
  refine tt ?_
  refine wn i_21 F fun F => ?_
  exact bk ih23 ho23 ()
  cases hf23
  obtain rfl := sr ho23
  try dsimp only at h
  cases h
  exact fin
  cases hf23
  obtain rfl := sr ho23
  try dsimp only at h
  cases h
  exact fin
  cases hf23
  refine tt ?_
  exact xt ho23 af23 ()
  cases h; exact fin
  intro af16 m16 i_14 a16 o16 hf16 ho16 ih16
  obtain ⟨⟩ := a16
  dsimp only [lazarettoref18_parts_L3] at hf16 ⊢
  refine tt ?_
  repeat (first | (with_reducible intro _) | (with_reducible refine and_i ?_ ?_; exact ss))
  refine fl hf16 F (fun hf16 _ F => ?_) (fun hf16 _ F => ?_)
  refine bx hf16 F fun x_17 hf16 hx_17 F => ?_
  refine tt ?_
  repeat (first | (with_reducible intro _) | (with_reducible refine and_i ?_ ?_; exact ss))
  refine fi hf16 F (fun hf16 _ F => ?_) (fun hf16 _ F => ?_)
  refine bi hf16 fun r_18 hf16 hr_18 => ?_
  refine tt ?_
  repeat (first | (with_reducible intro _) | (with_reducible refine and_i ?_ ?_; exact ss))
  refine cS (lazarettoref01_Is_ok hr_18) ?_
  refine fv hf16 F (fun hf16 _ F => ?_) (fun hf16 _ F => ?_)
  refine bi hf16 fun r_19 hf16 hr_19 => ?_
  refine tt ?_
  repeat (first | (with_reducible intro _) | (with_reducible refine and_i ?_ ?_; exact ss))
  refine cS (lazarettoref11_Inputs_ok hr_19) ?_
  refine tt ?_
  repeat (first | (with_reducible intro _) | (with_reducible refine and_i ?_ ?_; exact ss))
  refine fi hf16 F (fun hf16 _ F => ?_) (fun hf16 _ F => ?_)
  cases hf16
  obtain rfl := sr ho16
  try dsimp only at h
  cases h
  exact fin
  cases hf16
  refine tt ?_
  refine wn i_14 F fun F => ?_
  exact bk ih16 ho16 ()
  cases hf16
  obtain rfl := sr ho16
  try dsimp only at h
  cases h
  exact fin
  cases hf16
  obtain rfl := sr ho16
  try dsimp only at h
  cases h
  exact fin
  cases hf16
  refine tt ?_
  exact xt ho16 af16 ()
  intro af10 m10 i_8 a10 o10 hf10 ho10 ih10
  obtain ⟨⟩ := a10
  dsimp only [lazarettoref18_parts_L2] at hf10 ⊢
  refine tt ?_
  repeat (first | (with_reducible intro _) | (with_reducible refine and_i ?_ ?_; exact ss))
  refine fl hf10 F (fun hf10 _ F => ?_) (fun hf10 _ F => ?_)
  refine bx hf10 F fun x_11 hf10 hx_11 F => ?_
  refine bi hf10 fun r_12 hf10 hr_12 => ?_
  refine tt ?_
  repeat (first | (with_reducible intro _) | (with_reducible refine and_i ?_ ?_; exact ss))
  refine cD (lazarettoref18_variable_ok hr_12) ?_
  refine tt ?_
  repeat (first | (with_reducible intro _) | (with_reducible refine and_i ?_ ?_; exact ss))
  refine fv hf10 F (fun hf10 _ F => ?_) (fun hf10 _ F => ?_)
  cases hf10
  refine tt ?_
  refine wn i_8 F fun F => ?_
  exact bk ih10 ho10 ()
  cases hf10
  obtain rfl := sr ho10
  try dsimp only at h
  cases h
  exact fin
  cases hf10
  refine tt ?_
  exact xt ho10 af10 ()
  intro af3 m3 i_1 a3 o3 hf3 ho3 ih3
  obtain ⟨⟩ := a3
  dsimp only [lazarettoref18_parts_L1] at hf3 ⊢
  refine tt ?_
  repeat (first | (with_reducible intro _) | (with_reducible refine and_i ?_ ?_; exact ss))
  refine fl hf3 F (fun hf3 _ F => ?_) (fun hf3 _ F => ?_)
  refine bx hf3 F fun x_4 hf3 hx_4 F => ?_
  refine tt ?_
  repeat (first | (with_reducible intro _) | (with_reducible refine and_i ?_ ?_; exact ss))
  refine fi hf3 F (fun hf3 _ F => ?_) (fun hf3 _ F => ?_)
  refine bi hf3 fun r_5 hf3 hr_5 => ?_
  refine tt ?_
  repeat (first | (with_reducible intro _) | (with_reducible refine and_i ?_ ?_; exact ss))
  refine cS (lazarettoref01_Is_ok hr_5) ?_
  refine fv hf3 F (fun hf3 _ F => ?_) (fun hf3 _ F => ?_)
  refine bi hf3 fun r_6 hf3 hr_6 => ?_
  refine tt ?_
  repeat (first | (with_reducible intro _) | (with_reducible refine and_i ?_ ?_; exact ss))
  refine cS (lazarettoref01_Is_ok hr_6) ?_
  refine fv hf3 F (fun hf3 _ F => ?_) (fun hf3 _ F => ?_)
  cases hf3
  refine tt ?_
  refine wn i_1 F fun F => ?_
  exact bk ih3 ho3 ()
  cases hf3
  obtain rfl := sr ho3
  try dsimp only at h
  cases h
  exact fin
  cases hf3
  obtain rfl := sr ho3
  try dsimp only at h
  cases h
  exact fin
  cases hf3
  obtain rfl := sr ho3
  try dsimp only at h
  cases h
  exact fin
  cases hf3
  refine tt ?_
  exact xt ho3 af3 ()
theorem lazarettoref18_Check_ok {m : api_Image} {r : Int} (h : lazarettoref18_Check m = some r) :
    Pu Tryz.prog 10 [.agg (e_api_Image m)] (.one (.int .i64 r)) := by
  have F := trivial; have R := trivial
  refine pA Tryz.func10 ?_
  simp only [Tryz.f10]
  unfold lazarettoref18_Check at h
  refine bi h fun r_1 h hr_1 => ?_
  refine tt ?_
  repeat (first | (with_reducible intro _) | (with_reducible refine and_i ?_ ?_; exact ss))
  refine cS (lazarettoref18_caps_ok hr_1) ?_
  refine fv h F (fun h _ F => ?_) (fun h _ F => ?_)
  refine bi h fun r_2 h hr_2 => ?_
  refine tt ?_
  repeat (first | (with_reducible intro _) | (with_reducible refine and_i ?_ ?_; exact ss))
  refine cS (lazarettoref01_Check_ok hr_2) ?_
  refine fi h F (fun h _ F => ?_) (fun h _ F => ?_)
  refine bi h fun r_3 h hr_3 => ?_
  refine tt ?_
  repeat (first | (with_reducible intro _) | (with_reducible refine and_i ?_ ?_; exact ss))
  refine cS (lazarettoref18_parts_ok hr_3) ?_
  refine fv h F (fun h _ F => ?_) (fun h _ F => ?_)
  cases h; exact fin
  cases h; exact fin
  cases h; exact fin
  cases h; exact fin
theorem lazarettoref17_Four_ok {n : Int} {r : List Int} (h : lazarettoref17_Four n = some r) :
    Pu Tryz.prog 77 [.one (.int .i64 n)] (.one (.sl (r.map (eK .u8)))) := by
  have F := trivial; have R := trivial
  refine pA Tryz.func77 ?_
  simp only [Tryz.f77]
  unfold lazarettoref17_Four at h
  cases h; exact fin
theorem lazarettoref17_Encode_ok {l : List api_Ins} {r : Str} (h : lazarettoref17_Encode l = some r) :
    Pu Tryz.prog 45 [.one (.sl (l.map e_api_Ins))] (.one (.str r)) := by
  have F := trivial; have R := trivial
  refine pA Tryz.func45 ?_
  simp only [Tryz.f45]
  unfold lazarettoref17_Encode at h
  refine bi h fun r_1 h hr_1 => ?_
  refine tt ?_
  repeat (first | (with_reducible intro _) | (with_reducible refine and_i ?_ ?_; exact ss))
  refine cS (lazarettoref17_Check_ok hr_1) ?_
  refine fi h F (fun h _ F => ?_) (fun h _ F => ?_)
  refine tt ?_
  repeat (first | (with_reducible intro _) | (with_reducible refine and_i ?_ ?_; exact ss))
  refine iS Tryz.func77 ?_
  simp only [Tryz.f77]
  refine bi h fun e_6 h he_6 => ?_
  refine tt ?_
  repeat (first | (with_reducible intro _) | (with_reducible refine and_i ?_ ?_; exact ss))
  refine lE (fun (s__ : (List Int) × Nat) (a__ : Nat) => match s__, a__ with | (b_3, i_5), v_2 => ⟨[(0, .one (.sl (l.map e_api_Ins))), (3, .one (.msl 0 v_2 0 b_3.length)), (4, .one (.int .i64 (i_5 : Int)))], [.cells v_2 1 (b_3.map (eK .u8))]⟩) (fun (e__ : List Int) (b__ : Nat) => match e__, b__ with | e_6, b7 => ⟨[(3, .one (.msl 0 b7 0 e_6.length))], [.cells b7 1 (e_6.map (eK .u8))]⟩) (fun (_ : List Int) => some 0) 0 he_6 ?_ ?_
  intro i7 b7 hi7
  obtain rfl := Option.some.inj hi7
  dsimp only at h ⊢
  cases h; exact fin
  intro af7 m7 s7 v_2 o7 hf7 ho7 ih7
  obtain ⟨b_3, i_5⟩ := s7
  dsimp only [lazarettoref17_Encode_L1] at hf7 ⊢
  refine tt ?_
  repeat (first | (with_reducible intro _) | (with_reducible refine and_i ?_ ?_; exact ss))
  refine fl hf7 F (fun hf7 _ F => ?_) (fun hf7 _ F => ?_)
  refine bx hf7 F fun x_8 hf7 hx_8 F => ?_
  refine nd hf7 F fun hf7 F => ?_
  refine tt ?_
  repeat (first | (with_reducible intro _) | (with_reducible refine and_i ?_ ?_; exact ss))
  refine iS Tryz.func77 ?_
  simp only [Tryz.f77]
  refine nd hf7 F fun hf7 F => ?_
  cases hf7
  refine tt ?_
  repeat (first | (with_reducible intro _) | (with_reducible refine and_i ?_ ?_; exact ss))
  refine wn i_5 F fun F => ?_
  exact bk ih7 ho7 ((v_2 + 1) + 1)
  cases hf7
  refine tt ?_
  exact xt ho7 af7 v_2
  cases h; exact fin
theorem lazarettoref18_put_ok {m : api_Image} {r : Str} (h : lazarettoref18_put m = some r) :
    Pu Tryz.prog 18 [.agg (e_api_Image m)] (.one (.str r)) := by
  have F := trivial; have R := trivial
  refine pA Tryz.func18 ?_
  simp only [Tryz.f18]
  unfold lazarettoref18_put at h
  refine tt ?_
  repeat (first | (with_reducible intro _) | (with_reducible refine and_i ?_ ?_; exact ss))
  refine iS Tryz.func43 ?_
  simp only [Tryz.f43]
  refine bi h fun e_4 h he_4 => ?_
  refine tt ?_
  refine lE (fun (s__ : (List Int) × Nat) (a__ : Nat) => match s__, a__ with | (xs_2, i_3), v_1 => ⟨[(0, .one (.ref 2 0 0 0)), (1, .one (.slf ([(m.Lattice.Names.length : Int)].map eI))), (4, .one (.int .i64 (i_3 : Int)))], [.cells 0 7 [[.sl (m.Lattice.Names.map eS), .sl (m.Lattice.Below.map (eA2 eI)), .sl (m.Sites.map e_api_Site), .sl (m.Vars.map e_api_Var), .sl (m.Blocks.map e_api_Block), .sl (m.Tasks.map e_api_Task), .sl (m.Code.map (eL e_api_Ins))]], .cells v_1 1 (xs_2.map (eK .u8)), .cells 0 1 [[.msl 1 v_1 0 xs_2.length]]]⟩) (fun (e__ : List Int) (b__ : Nat) => match e__, b__ with | e_4, b5 => ⟨[], [.cells 0 7 [[.sl (m.Lattice.Names.map eS), .sl (m.Lattice.Below.map (eA2 eI)), .sl (m.Sites.map e_api_Site), .sl (m.Vars.map e_api_Var), .sl (m.Blocks.map e_api_Block), .sl (m.Tasks.map e_api_Task), .sl (m.Code.map (eL e_api_Ins))]], .cells b5 1 (e_4.map (eK .u8)), .cells 0 1 [[.msl 1 b5 0 e_4.length]]]⟩) (fun (_ : List Int) => some 0) 0 he_4 ?_ ?_
  intro i5 b5 hi5
  obtain rfl := Option.some.inj hi5
  dsimp only at h ⊢
  refine bi h fun e_13 h he_13 => ?_
  refine tt ?_
  refine lE (fun (s__ : (List Int) × Nat) (a__ : Nat) => match s__, a__ with | (xs_11, i_12), v_10 => ⟨[(1, .one (.ref 0 0 0 0)), (3, .one (.ref 2 0 0 0)), (4, .one (.int .i64 (i_12 : Int)))], [.cells 0 7 [[.sl (m.Lattice.Names.map eS), .sl (m.Lattice.Below.map (eA2 eI)), .sl (m.Sites.map e_api_Site), .sl (m.Vars.map e_api_Var), .sl (m.Blocks.map e_api_Block), .sl (m.Tasks.map e_api_Task), .sl (m.Code.map (eL e_api_Ins))]], .cells v_10 1 (xs_11.map (eK .u8)), .cells 0 1 [[.msl 1 v_10 0 xs_11.length]]]⟩) (fun (e__ : List Int) (b__ : Nat) => match e__, b__ with | e_13, b14 => ⟨[(1, .one (.ref 0 0 0 0)), (3, .one (.ref 2 0 0 0))], [.cells 0 7 [[.sl (m.Lattice.Names.map eS), .sl (m.Lattice.Below.map (eA2 eI)), .sl (m.Sites.map e_api_Site), .sl (m.Vars.map e_api_Var), .sl (m.Blocks.map e_api_Block), .sl (m.Tasks.map e_api_Task), .sl (m.Code.map (eL e_api_Ins))]], .cells b14 1 (e_13.map (eK .u8)), .cells 0 1 [[.msl 1 b14 0 e_13.length]]]⟩) (fun (_ : List Int) => some 0) b5 he_13 ?_ ?_
  intro i14 b14 hi14
  obtain rfl := Option.some.inj hi14
  dsimp only at h ⊢
  refine tt ?_
  repeat (first | (with_reducible intro _) | (with_reducible refine and_i ?_ ?_; exact ss))
  refine iS Tryz.func43 ?_
  simp only [Tryz.f43]
  refine bi h fun e_30 h he_30 => ?_
  refine tt ?_
  refine lE (fun (s__ : (List Int) × Nat) (a__ : Nat) => match s__, a__ with | (xs_28, i_29), v_27 => ⟨[(0, .one (.ref 2 0 0 0)), (1, .one (.slf ([(m.Lattice.Below.length : Int)].map eI))), (4, .one (.int .i64 (i_29 : Int)))], [.cells 0 7 [[.sl (m.Lattice.Names.map eS), .sl (m.Lattice.Below.map (eA2 eI)), .sl (m.Sites.map e_api_Site), .sl (m.Vars.map e_api_Var), .sl (m.Blocks.map e_api_Block), .sl (m.Tasks.map e_api_Task), .sl (m.Code.map (eL e_api_Ins))]], .cells v_27 1 (xs_28.map (eK .u8)), .cells 0 1 [[.msl 1 v_27 0 xs_28.length]]]⟩) (fun (e__ : List Int) (b__ : Nat) => match e__, b__ with | e_30, b31 => ⟨[], [.cells 0 7 [[.sl (m.Lattice.Names.map eS), .sl (m.Lattice.Below.map (eA2 eI)), .sl (m.Sites.map e_api_Site), .sl (m.Vars.map e_api_Var), .sl (m.Blocks.map e_api_Block), .sl (m.Tasks.map e_api_Task), .sl (m.Code.map (eL e_api_Ins))]], .cells b31 1 (e_30.map (eK .u8)), .cells 0 1 [[.msl 1 b31 0 e_30.length]]]⟩) (fun (_ : List Int) => some 0) b14 he_30 ?_ ?_
  intro i31 b31 hi31
  obtain rfl := Option.some.inj hi31
  dsimp only at h ⊢
  refine bi h fun e_39 h he_39 => ?_
  refine tt ?_
  refine lE (fun (s__ : (List Int) × Nat) (a__ : Nat) => match s__, a__ with | (xs_37, i_38), v_36 => ⟨[(1, .one (.ref 0 0 0 0)), (3, .one (.ref 2 0 0 0)), (5, .one (.int .i64 (i_38 : Int)))], [.cells 0 7 [[.sl (m.Lattice.Names.map eS), .sl (m.Lattice.Below.map (eA2 eI)), .sl (m.Sites.map e_api_Site), .sl (m.Vars.map e_api_Var), .sl (m.Blocks.map e_api_Block), .sl (m.Tasks.map e_api_Task), .sl (m.Code.map (eL e_api_Ins))]], .cells v_36 1 (xs_37.map (eK .u8)), .cells 0 1 [[.msl 1 v_36 0 xs_37.length]]]⟩) (fun (e__ : List Int) (b__ : Nat) => match e__, b__ with | e_39, b40 => ⟨[(1, .one (.ref 0 0 0 0)), (3, .one (.ref 2 0 0 0))], [.cells 0 7 [[.sl (m.Lattice.Names.map eS), .sl (m.Lattice.Below.map (eA2 eI)), .sl (m.Sites.map e_api_Site), .sl (m.Vars.map e_api_Var), .sl (m.Blocks.map e_api_Block), .sl (m.Tasks.map e_api_Task), .sl (m.Code.map (eL e_api_Ins))]], .cells b40 1 (e_39.map (eK .u8)), .cells 0 1 [[.msl 1 b40 0 e_39.length]]]⟩) (fun (_ : List Int) => some 2) b31 he_39 ?_ ?_
  intro i40 b40 hi40
  obtain rfl := Option.some.inj hi40
  dsimp only at h ⊢
  refine tt ?_
  repeat (first | (with_reducible intro _) | (with_reducible refine and_i ?_ ?_; exact ss))
  refine iS Tryz.func43 ?_
  simp only [Tryz.f43]
  refine bi h fun e_55 h he_55 => ?_
  refine tt ?_
  refine lE (fun (s__ : (List Int) × Nat) (a__ : Nat) => match s__, a__ with | (xs_53, i_54), v_52 => ⟨[(0, .one (.ref 2 0 0 0)), (1, .one (.slf ([(m.Sites.length : Int)].map eI))), (4, .one (.int .i64 (i_54 : Int)))], [.cells 0 7 [[.sl (m.Lattice.Names.map eS), .sl (m.Lattice.Below.map (eA2 eI)), .sl (m.Sites.map e_api_Site), .sl (m.Vars.map e_api_Var), .sl (m.Blocks.map e_api_Block), .sl (m.Tasks.map e_api_Task), .sl (m.Code.map (eL e_api_Ins))]], .cells v_52 1 (xs_53.map (eK .u8)), .cells 0 1 [[.msl 1 v_52 0 xs_53.length]]]⟩) (fun (e__ : List Int) (b__ : Nat) => match e__, b__ with | e_55, b56 => ⟨[], [.cells 0 7 [[.sl (m.Lattice.Names.map eS), .sl (m.Lattice.Below.map (eA2 eI)), .sl (m.Sites.map e_api_Site), .sl (m.Vars.map e_api_Var), .sl (m.Blocks.map e_api_Block), .sl (m.Tasks.map e_api_Task), .sl (m.Code.map (eL e_api_Ins))]], .cells b56 1 (e_55.map (eK .u8)), .cells 0 1 [[.msl 1 b56 0 e_55.length]]]⟩) (fun (_ : List Int) => some 0) b40 he_55 ?_ ?_
  intro i56 b56 hi56
  obtain rfl := Option.some.inj hi56
  dsimp only at h ⊢
  refine bi h fun e_64 h he_64 => ?_
  refine tt ?_
  refine lE (fun (s__ : (List Int) × Nat) (a__ : Nat) => match s__, a__ with | (xs_62, i_63), v_61 => ⟨[(1, .one (.ref 0 0 0 0)), (3, .one (.ref 2 0 0 0)), (6, .one (.int .i64 (i_63 : Int)))], [.cells 0 7 [[.sl (m.Lattice.Names.map eS), .sl (m.Lattice.Below.map (eA2 eI)), .sl (m.Sites.map e_api_Site), .sl (m.Vars.map e_api_Var), .sl (m.Blocks.map e_api_Block), .sl (m.Tasks.map e_api_Task), .sl (m.Code.map (eL e_api_Ins))]], .cells v_61 1 (xs_62.map (eK .u8)), .cells 0 1 [[.msl 1 v_61 0 xs_62.length]]]⟩) (fun (e__ : List Int) (b__ : Nat) => match e__, b__ with | e_64, b65 => ⟨[(1, .one (.ref 0 0 0 0)), (3, .one (.ref 2 0 0 0))], [.cells 0 7 [[.sl (m.Lattice.Names.map eS), .sl (m.Lattice.Below.map (eA2 eI)), .sl (m.Sites.map e_api_Site), .sl (m.Vars.map e_api_Var), .sl (m.Blocks.map e_api_Block), .sl (m.Tasks.map e_api_Task), .sl (m.Code.map (eL e_api_Ins))]], .cells b65 1 (e_64.map (eK .u8)), .cells 0 1 [[.msl 1 b65 0 e_64.length]]]⟩) (fun (_ : List Int) => some 4) b56 he_64 ?_ ?_
  intro i65 b65 hi65
  obtain rfl := Option.some.inj hi65
  dsimp only at h ⊢
  refine tt ?_
  repeat (first | (with_reducible intro _) | (with_reducible refine and_i ?_ ?_; exact ss))
  refine iS Tryz.func43 ?_
  simp only [Tryz.f43]
  refine bi h fun e_80 h he_80 => ?_
  refine tt ?_
  refine lE (fun (s__ : (List Int) × Nat) (a__ : Nat) => match s__, a__ with | (xs_78, i_79), v_77 => ⟨[(0, .one (.ref 2 0 0 0)), (1, .one (.slf ([(m.Vars.length : Int)].map eI))), (4, .one (.int .i64 (i_79 : Int)))], [.cells 0 7 [[.sl (m.Lattice.Names.map eS), .sl (m.Lattice.Below.map (eA2 eI)), .sl (m.Sites.map e_api_Site), .sl (m.Vars.map e_api_Var), .sl (m.Blocks.map e_api_Block), .sl (m.Tasks.map e_api_Task), .sl (m.Code.map (eL e_api_Ins))]], .cells v_77 1 (xs_78.map (eK .u8)), .cells 0 1 [[.msl 1 v_77 0 xs_78.length]]]⟩) (fun (e__ : List Int) (b__ : Nat) => match e__, b__ with | e_80, b81 => ⟨[], [.cells 0 7 [[.sl (m.Lattice.Names.map eS), .sl (m.Lattice.Below.map (eA2 eI)), .sl (m.Sites.map e_api_Site), .sl (m.Vars.map e_api_Var), .sl (m.Blocks.map e_api_Block), .sl (m.Tasks.map e_api_Task), .sl (m.Code.map (eL e_api_Ins))]], .cells b81 1 (e_80.map (eK .u8)), .cells 0 1 [[.msl 1 b81 0 e_80.length]]]⟩) (fun (_ : List Int) => some 0) b65 he_80 ?_ ?_
  intro i81 b81 hi81
  obtain rfl := Option.some.inj hi81
  dsimp only at h ⊢
  refine bi h fun e_89 h he_89 => ?_
  refine tt ?_
  refine lE (fun (s__ : (List Int) × Nat) (a__ : Nat) => match s__, a__ with | (xs_87, i_88), v_86 => ⟨[(1, .one (.ref 0 0 0 0)), (3, .one (.ref 2 0 0 0)), (7, .one (.int .i64 (i_88 : Int)))], [.cells 0 7 [[.sl (m.Lattice.Names.map eS), .sl (m.Lattice.Below.map (eA2 eI)), .sl (m.Sites.map e_api_Site), .sl (m.Vars.map e_api_Var), .sl (m.Blocks.map e_api_Block), .sl (m.Tasks.map e_api_Task), .sl (m.Code.map (eL e_api_Ins))]], .cells v_86 1 (xs_87.map (eK .u8)), .cells 0 1 [[.msl 1 v_86 0 xs_87.length]]]⟩) (fun (e__ : List Int) (b__ : Nat) => match e__, b__ with | e_89, b90 => ⟨[(1, .one (.ref 0 0 0 0)), (3, .one (.ref 2 0 0 0))], [.cells 0 7 [[.sl (m.Lattice.Names.map eS), .sl (m.Lattice.Below.map (eA2 eI)), .sl (m.Sites.map e_api_Site), .sl (m.Vars.map e_api_Var), .sl (m.Blocks.map e_api_Block), .sl (m.Tasks.map e_api_Task), .sl (m.Code.map (eL e_api_Ins))]], .cells b90 1 (e_89.map (eK .u8)), .cells 0 1 [[.msl 1 b90 0 e_89.length]]]⟩) (fun (_ : List Int) => some 6) b81 he_89 ?_ ?_
  intro i90 b90 hi90
  obtain rfl := Option.some.inj hi90
  dsimp only at h ⊢
  refine tt ?_
  repeat (first | (with_reducible intro _) | (with_reducible refine and_i ?_ ?_; exact ss))
  refine iS Tryz.func43 ?_
  simp only [Tryz.f43]
  refine bi h fun e_105 h he_105 => ?_
  refine tt ?_
  refine lE (fun (s__ : (List Int) × Nat) (a__ : Nat) => match s__, a__ with | (xs_103, i_104), v_102 => ⟨[(0, .one (.ref 2 0 0 0)), (1, .one (.slf ([(m.Blocks.length : Int)].map eI))), (4, .one (.int .i64 (i_104 : Int)))], [.cells 0 7 [[.sl (m.Lattice.Names.map eS), .sl (m.Lattice.Below.map (eA2 eI)), .sl (m.Sites.map e_api_Site), .sl (m.Vars.map e_api_Var), .sl (m.Blocks.map e_api_Block), .sl (m.Tasks.map e_api_Task), .sl (m.Code.map (eL e_api_Ins))]], .cells v_102 1 (xs_103.map (eK .u8)), .cells 0 1 [[.msl 1 v_102 0 xs_103.length]]]⟩) (fun (e__ : List Int) (b__ : Nat) => match e__, b__ with | e_105, b106 => ⟨[], [.cells 0 7 [[.sl (m.Lattice.Names.map eS), .sl (m.Lattice.Below.map (eA2 eI)), .sl (m.Sites.map e_api_Site), .sl (m.Vars.map e_api_Var), .sl (m.Blocks.map e_api_Block), .sl (m.Tasks.map e_api_Task), .sl (m.Code.map (eL e_api_Ins))]], .cells b106 1 (e_105.map (eK .u8)), .cells 0 1 [[.msl 1 b106 0 e_105.length]]]⟩) (fun (_ : List Int) => some 0) b90 he_105 ?_ ?_
  intro i106 b106 hi106
  obtain rfl := Option.some.inj hi106
  dsimp only at h ⊢
  refine bi h fun e_114 h he_114 => ?_
  refine tt ?_
  refine lE (fun (s__ : (List Int) × Nat) (a__ : Nat) => match s__, a__ with | (xs_112, i_113), v_111 => ⟨[(1, .one (.ref 0 0 0 0)), (3, .one (.ref 2 0 0 0)), (9, .one (.int .i64 (i_113 : Int)))], [.cells 0 7 [[.sl (m.Lattice.Names.map eS), .sl (m.Lattice.Below.map (eA2 eI)), .sl (m.Sites.map e_api_Site), .sl (m.Vars.map e_api_Var), .sl (m.Blocks.map e_api_Block), .sl (m.Tasks.map e_api_Task), .sl (m.Code.map (eL e_api_Ins))]], .cells v_111 1 (xs_112.map (eK .u8)), .cells 0 1 [[.msl 1 v_111 0 xs_112.length]]]⟩) (fun (e__ : List Int) (b__ : Nat) => match e__, b__ with | e_114, b115 => ⟨[(1, .one (.ref 0 0 0 0)), (3, .one (.ref 2 0 0 0))], [.cells 0 7 [[.sl (m.Lattice.Names.map eS), .sl (m.Lattice.Below.map (eA2 eI)), .sl (m.Sites.map e_api_Site), .sl (m.Vars.map e_api_Var), .sl (m.Blocks.map e_api_Block), .sl (m.Tasks.map e_api_Task), .sl (m.Code.map (eL e_api_Ins))]], .cells b115 1 (e_114.map (eK .u8)), .cells 0 1 [[.msl 1 b115 0 e_114.length]]]⟩) (fun (_ : List Int) => some 8) b106 he_114 ?_ ?_
  intro i115 b115 hi115
  obtain rfl := Option.some.inj hi115
  dsimp only at h ⊢
  refine tt ?_
  repeat (first | (with_reducible intro _) | (with_reducible refine and_i ?_ ?_; exact ss))
  refine iS Tryz.func43 ?_
  simp only [Tryz.f43]
  refine bi h fun e_140 h he_140 => ?_
  refine tt ?_
  refine lE (fun (s__ : (List Int) × Nat) (a__ : Nat) => match s__, a__ with | (xs_138, i_139), v_137 => ⟨[(0, .one (.ref 2 0 0 0)), (1, .one (.slf ([(m.Tasks.length : Int)].map eI))), (4, .one (.int .i64 (i_139 : Int)))], [.cells 0 7 [[.sl (m.Lattice.Names.map eS), .sl (m.Lattice.Below.map (eA2 eI)), .sl (m.Sites.map e_api_Site), .sl (m.Vars.map e_api_Var), .sl (m.Blocks.map e_api_Block), .sl (m.Tasks.map e_api_Task), .sl (m.Code.map (eL e_api_Ins))]], .cells v_137 1 (xs_138.map (eK .u8)), .cells 0 1 [[.msl 1 v_137 0 xs_138.length]]]⟩) (fun (e__ : List Int) (b__ : Nat) => match e__, b__ with | e_140, b141 => ⟨[], [.cells 0 7 [[.sl (m.Lattice.Names.map eS), .sl (m.Lattice.Below.map (eA2 eI)), .sl (m.Sites.map e_api_Site), .sl (m.Vars.map e_api_Var), .sl (m.Blocks.map e_api_Block), .sl (m.Tasks.map e_api_Task), .sl (m.Code.map (eL e_api_Ins))]], .cells b141 1 (e_140.map (eK .u8)), .cells 0 1 [[.msl 1 b141 0 e_140.length]]]⟩) (fun (_ : List Int) => some 0) b115 he_140 ?_ ?_
  intro i141 b141 hi141
  obtain rfl := Option.some.inj hi141
  dsimp only at h ⊢
  refine bi h fun e_149 h he_149 => ?_
  refine tt ?_
  refine lE (fun (s__ : (List Int) × Nat) (a__ : Nat) => match s__, a__ with | (xs_147, i_148), v_146 => ⟨[(1, .one (.ref 0 0 0 0)), (3, .one (.ref 2 0 0 0)), (10, .one (.int .i64 (i_148 : Int)))], [.cells 0 7 [[.sl (m.Lattice.Names.map eS), .sl (m.Lattice.Below.map (eA2 eI)), .sl (m.Sites.map e_api_Site), .sl (m.Vars.map e_api_Var), .sl (m.Blocks.map e_api_Block), .sl (m.Tasks.map e_api_Task), .sl (m.Code.map (eL e_api_Ins))]], .cells v_146 1 (xs_147.map (eK .u8)), .cells 0 1 [[.msl 1 v_146 0 xs_147.length]]]⟩) (fun (e__ : List Int) (b__ : Nat) => match e__, b__ with | e_149, b150 => ⟨[(1, .one (.ref 0 0 0 0)), (3, .one (.ref 2 0 0 0))], [.cells 0 7 [[.sl (m.Lattice.Names.map eS), .sl (m.Lattice.Below.map (eA2 eI)), .sl (m.Sites.map e_api_Site), .sl (m.Vars.map e_api_Var), .sl (m.Blocks.map e_api_Block), .sl (m.Tasks.map e_api_Task), .sl (m.Code.map (eL e_api_Ins))]], .cells b150 1 (e_149.map (eK .u8)), .cells 0 1 [[.msl 1 b150 0 e_149.length]]]⟩) (fun (_ : List Int) => some 10) b141 he_149 ?_ ?_
  intro i150 b150 hi150
  obtain rfl := Option.some.inj hi150
  dsimp only at h ⊢
  refine bi h fun e_174 h he_174 => ?_
  refine tt ?_
  refine lE (fun (s__ : (List Int) × Nat) (a__ : Nat) => match s__, a__ with | (xs_172, i_173), v_171 => ⟨[(1, .one (.ref 0 0 0 0)), (3, .one (.ref 2 0 0 0)), (11, .one (.int .i64 (i_173 : Int)))], [.cells 0 7 [[.sl (m.Lattice.Names.map eS), .sl (m.Lattice.Below.map (eA2 eI)), .sl (m.Sites.map e_api_Site), .sl (m.Vars.map e_api_Var), .sl (m.Blocks.map e_api_Block), .sl (m.Tasks.map e_api_Task), .sl (m.Code.map (eL e_api_Ins))]], .cells v_171 1 (xs_172.map (eK .u8)), .cells 0 1 [[.msl 1 v_171 0 xs_172.length]]]⟩) (fun (e__ : List Int) (b__ : Nat) => match e__, b__ with | e_174, b175 => ⟨[(3, .one (.ref 2 0 0 0))], [.cells 0 7 [[.sl (m.Lattice.Names.map eS), .sl (m.Lattice.Below.map (eA2 eI)), .sl (m.Sites.map e_api_Site), .sl (m.Vars.map e_api_Var), .sl (m.Blocks.map e_api_Block), .sl (m.Tasks.map e_api_Task), .sl (m.Code.map (eL e_api_Ins))]], .cells b175 1 (e_174.map (eK .u8)), .cells 0 1 [[.msl 1 b175 0 e_174.length]]]⟩) (fun (_ : List Int) => some 12) b150 he_174 ?_ ?_
  intro i175 b175 hi175
  obtain rfl := Option.some.inj hi175
  dsimp only at h ⊢
  cases h; exact fin
  intro af175 m175 s175 v_171 o175 hf175 ho175 ih175
  obtain ⟨xs_172, i_173⟩ := s175
  dsimp only [lazarettoref18_put_L21] at hf175 ⊢
  refine tt ?_
  repeat (first | (with_reducible intro _) | (with_reducible refine and_i ?_ ?_; exact ss))
  refine fl hf175 F (fun hf175 _ F => ?_) (fun hf175 _ F => ?_)
  refine bx hf175 F fun x_176 hf175 hx_176 F => ?_
  refine bi hf175 fun r_177 hf175 hr_177 => ?_
  refine tt ?_
  repeat (first | (with_reducible intro _) | (with_reducible refine and_i ?_ ?_; exact ss))
  refine cD (lazarettoref17_Encode_ok hr_177) ?_
  refine tt ?_
  repeat (first | (with_reducible intro _) | refine ⟨sb, ?_⟩)
  refine ⟨lt_ [0], ?_⟩
  refine nd hf175 F fun hf175 F => ?_
  cases hf175
  refine tt ?_
  repeat (first | (with_reducible intro _) | (with_reducible refine and_i ?_ ?_; exact ss))
  refine wn i_173 F fun F => ?_
  exact bk ih175 ho175 (v_171 + 1)
  cases hf175
  refine tt ?_
  exact xt ho175 af175 v_171
  intro af150 m150 s150 v_146 o150 hf150 ho150 ih150
  obtain ⟨xs_147, i_148⟩ := s150
  dsimp only [lazarettoref18_put_L18] at hf150 ⊢
  refine tt ?_
  repeat (first | (with_reducible intro _) | (with_reducible refine and_i ?_ ?_; exact ss))
  refine fl hf150 F (fun hf150 _ F => ?_) (fun hf150 _ F => ?_)
  refine bx hf150 F fun x_151 hf150 hx_151 F => ?_
  refine tt ?_
  repeat (first | (with_reducible intro _) | (with_reducible refine and_i ?_ ?_; exact ss))
  refine iS Tryz.func43 ?_
  simp only [Tryz.f43]
  refine bi hf150 fun e_155 hf150 he_155 => ?_
  refine tt ?_
  refine lE (fun (s__ : (List Int) × Nat) (a__ : Nat) => match s__, a__ with | (xs_153, i_154), v_152 => ⟨[(0, .one (.ref 2 0 0 0)), (1, .one (.slf ([x_151.Every, x_151.Priority].map eI))), (4, .one (.int .i64 (i_154 : Int)))], [.cells 0 7 [[.sl (m.Lattice.Names.map eS), .sl (m.Lattice.Below.map (eA2 eI)), .sl (m.Sites.map e_api_Site), .sl (m.Vars.map e_api_Var), .sl (m.Blocks.map e_api_Block), .sl (m.Tasks.map e_api_Task), .sl (m.Code.map (eL e_api_Ins))]], .cells v_152 1 (xs_153.map (eK .u8)), .cells 0 1 [[.msl 1 v_152 0 xs_153.length]]]⟩) (fun (e__ : List Int) (b__ : Nat) => match e__, b__ with | e_155, b156 => ⟨[], [.cells 0 7 [[.sl (m.Lattice.Names.map eS), .sl (m.Lattice.Below.map (eA2 eI)), .sl (m.Sites.map e_api_Site), .sl (m.Vars.map e_api_Var), .sl (m.Blocks.map e_api_Block), .sl (m.Tasks.map e_api_Task), .sl (m.Code.map (eL e_api_Ins))]], .cells b156 1 (e_155.map (eK .u8)), .cells 0 1 [[.msl 1 b156 0 e_155.length]]]⟩) (fun (_ : List Int) => some 0) v_146 he_155 ?_ ?_
  intro i156 b156 hi156
  obtain rfl := Option.some.inj hi156
  dsimp only at hf150 ⊢
  refine tt ?_
  repeat (first | (with_reducible intro _) | (with_reducible refine and_i ?_ ?_; exact ss))
  refine iS Tryz.func43 ?_
  simp only [Tryz.f43]
  refine bi hf150 fun e_164 hf150 he_164 => ?_
  refine tt ?_
  refine lE (fun (s__ : (List Int) × Nat) (a__ : Nat) => match s__, a__ with | (xs_162, i_163), v_161 => ⟨[(0, .one (.ref 2 0 0 0)), (1, .one (.sl (x_151.Budget.map eI))), (4, .one (.int .i64 (i_163 : Int)))], [.cells 0 7 [[.sl (m.Lattice.Names.map eS), .sl (m.Lattice.Below.map (eA2 eI)), .sl (m.Sites.map e_api_Site), .sl (m.Vars.map e_api_Var), .sl (m.Blocks.map e_api_Block), .sl (m.Tasks.map e_api_Task), .sl (m.Code.map (eL e_api_Ins))]], .cells v_161 1 (xs_162.map (eK .u8)), .cells 0 1 [[.msl 1 v_161 0 xs_162.length]]]⟩) (fun (e__ : List Int) (b__ : Nat) => match e__, b__ with | e_164, b165 => ⟨[], [.cells 0 7 [[.sl (m.Lattice.Names.map eS), .sl (m.Lattice.Below.map (eA2 eI)), .sl (m.Sites.map e_api_Site), .sl (m.Vars.map e_api_Var), .sl (m.Blocks.map e_api_Block), .sl (m.Tasks.map e_api_Task), .sl (m.Code.map (eL e_api_Ins))]], .cells b165 1 (e_164.map (eK .u8)), .cells 0 1 [[.msl 1 b165 0 e_164.length]]]⟩) (fun (_ : List Int) => some 0) b156 he_164 ?_ ?_
  intro i165 b165 hi165
  obtain rfl := Option.some.inj hi165
  dsimp only at hf150 ⊢
  cases hf150
  refine tt ?_
  refine wn i_148 F fun F => ?_
  exact bk ih150 ho150 b165
  intro af165 m165 s165 v_161 o165 hf165 ho165 ih165
  obtain ⟨xs_162, i_163⟩ := s165
  dsimp only [lazarettoref18_put_L20] at hf165 ⊢
  refine tt ?_
  repeat (first | (with_reducible intro _) | (with_reducible refine and_i ?_ ?_; exact ss))
  refine fl hf165 F (fun hf165 _ F => ?_) (fun hf165 _ F => ?_)
  refine bx hf165 F fun x_166 hf165 hx_166 F => ?_
  refine bi hf165 fun r_167 hf165 hr_167 => ?_
  refine tt ?_
  repeat (first | (with_reducible intro _) | (with_reducible refine and_i ?_ ?_; exact ss))
  refine cD (lazarettoref17_Four_ok hr_167) ?_
  refine tt ?_
  repeat (first | (with_reducible intro _) | refine ⟨sb, ?_⟩)
  refine ⟨lt_ [0], ?_⟩
  refine nd hf165 F fun hf165 F => ?_
  cases hf165
  refine tt ?_
  repeat (first | (with_reducible intro _) | (with_reducible refine and_i ?_ ?_; exact ss))
  refine wn i_163 F fun F => ?_
  exact bk ih165 ho165 (v_161 + 1)
  cases hf165
  refine tt ?_
  exact xt ho165 af165 v_161
  intro af156 m156 s156 v_152 o156 hf156 ho156 ih156
  obtain ⟨xs_153, i_154⟩ := s156
  dsimp only [lazarettoref18_put_L19] at hf156 ⊢
  refine tt ?_
  repeat (first | (with_reducible intro _) | (with_reducible refine and_i ?_ ?_; exact ss))
  refine fi hf156 F (fun hf156 _ F => ?_) (fun hf156 _ F => ?_)
  refine bx hf156 F fun x_157 hf156 hx_157 F => ?_
  refine ln F fun F => ?_
  have R := And.intro (show ([[.int .i64 x_151.Every], [.int .i64 x_151.Priority]] : List (List C))[i_154]? = some [.int .i64 x_157] from q_map (f := eI) hx_157) R
  refine bi hf156 fun r_158 hf156 hr_158 => ?_
  refine tt ?_
  repeat (first | (with_reducible intro _) | (with_reducible refine and_i ?_ ?_; exact ss))
  refine cD (lazarettoref17_Four_ok hr_158) ?_
  refine tt ?_
  repeat (first | (with_reducible intro _) | refine ⟨sb, ?_⟩)
  refine ⟨lt_ [0], ?_⟩
  refine nd hf156 F fun hf156 F => ?_
  cases hf156
  refine tt ?_
  repeat (first | (with_reducible intro _) | (with_reducible refine and_i ?_ ?_; exact ss))
  refine wn i_154 F fun F => ?_
  exact bk ih156 ho156 (v_152 + 1)
  cases hf156
  refine tt ?_
  exact xt ho156 af156 v_152
  cases hf150
  refine tt ?_
  exact xt ho150 af150 v_146
  intro af141 m141 s141 v_137 o141 hf141 ho141 ih141
  obtain ⟨xs_138, i_139⟩ := s141
  dsimp only [lazarettoref18_put_L17] at hf141 ⊢
  refine tt ?_
  repeat (first | (with_reducible intro _) | (with_reducible refine and_i ?_ ?_; exact ss))
  refine fi hf141 F (fun hf141 _ F => ?_) (fun hf141 _ F => ?_)
  refine bx hf141 F fun x_142 hf141 hx_142 F => ?_
  refine ln F fun F => ?_
  have R := And.intro (show ([[.int .i64 (m.Tasks.length : Int)]] : List (List C))[i_139]? = some [.int .i64 x_142] from q_map (f := eI) hx_142) R
  refine bi hf141 fun r_143 hf141 hr_143 => ?_
  refine tt ?_
  repeat (first | (with_reducible intro _) | (with_reducible refine and_i ?_ ?_; exact ss))
  refine cD (lazarettoref17_Four_ok hr_143) ?_
  refine tt ?_
  repeat (first | (with_reducible intro _) | refine ⟨sb, ?_⟩)
  refine ⟨lt_ [0], ?_⟩
  refine nd hf141 F fun hf141 F => ?_
  cases hf141
  refine tt ?_
  repeat (first | (with_reducible intro _) | (with_reducible refine and_i ?_ ?_; exact ss))
  refine wn i_139 F fun F => ?_
  exact bk ih141 ho141 (v_137 + 1)
  cases hf141
  refine tt ?_
  exact xt ho141 af141 v_137
  intro af115 m115 s115 v_111 o115 hf115 ho115 ih115
  obtain ⟨xs_112, i_113⟩ := s115
  dsimp only [lazarettoref18_put_L14] at hf115 ⊢
  refine tt ?_
  repeat (first | (with_reducible intro _) | (with_reducible refine and_i ?_ ?_; exact ss))
  refine fl hf115 F (fun hf115 _ F => ?_) (fun hf115 _ F => ?_)
  refine bx hf115 F fun x_116 hf115 hx_116 F => ?_
  refine tt ?_
  repeat (first | (with_reducible intro _) | (with_reducible refine and_i ?_ ?_; exact ss))
  refine iS Tryz.func44 ?_
  simp only [Tryz.f44]
  refine tt ?_
  repeat (first | (with_reducible intro _) | (with_reducible refine and_i ?_ ?_; exact ss))
  refine iS Tryz.func43 ?_
  simp only [Tryz.f43]
  refine bi hf115 fun e_120 hf115 he_120 => ?_
  refine tt ?_
  refine lE (fun (s__ : (List Int) × Nat) (a__ : Nat) => match s__, a__ with | (xs_118, i_119), v_117 => ⟨[(0, .one (.ref 2 0 0 0)), (1, .one (.slf ([(x_116.Kind.length : Int)].map eI))), (4, .one (.int .i64 (i_119 : Int)))], [.cells 0 7 [[.sl (m.Lattice.Names.map eS), .sl (m.Lattice.Below.map (eA2 eI)), .sl (m.Sites.map e_api_Site), .sl (m.Vars.map e_api_Var), .sl (m.Blocks.map e_api_Block), .sl (m.Tasks.map e_api_Task), .sl (m.Code.map (eL e_api_Ins))]], .cells v_117 1 (xs_118.map (eK .u8)), .cells 0 1 [[.msl 1 v_117 0 xs_118.length]]]⟩) (fun (e__ : List Int) (b__ : Nat) => match e__, b__ with | e_120, b121 => ⟨[], [.cells 0 7 [[.sl (m.Lattice.Names.map eS), .sl (m.Lattice.Below.map (eA2 eI)), .sl (m.Sites.map e_api_Site), .sl (m.Vars.map e_api_Var), .sl (m.Blocks.map e_api_Block), .sl (m.Tasks.map e_api_Task), .sl (m.Code.map (eL e_api_Ins))]], .cells b121 1 (e_120.map (eK .u8)), .cells 0 1 [[.msl 1 b121 0 e_120.length]]]⟩) (fun (_ : List Int) => some 0) v_111 he_120 ?_ ?_
  intro i121 b121 hi121
  obtain rfl := Option.some.inj hi121
  dsimp only at hf115 ⊢
  refine nd hf115 F fun hf115 F => ?_
  refine tt ?_
  repeat (first | (with_reducible intro _) | (with_reducible refine and_i ?_ ?_; exact ss))
  refine iS Tryz.func43 ?_
  simp only [Tryz.f43]
  refine bi hf115 fun e_130 hf115 he_130 => ?_
  refine tt ?_
  refine lE (fun (s__ : (List Int) × Nat) (a__ : Nat) => match s__, a__ with | (xs_128, i_129), v_127 => ⟨[(0, .one (.ref 2 0 0 0)), (1, .one (.slf ([x_116.Label].map eI))), (4, .one (.int .i64 (i_129 : Int)))], [.cells 0 7 [[.sl (m.Lattice.Names.map eS), .sl (m.Lattice.Below.map (eA2 eI)), .sl (m.Sites.map e_api_Site), .sl (m.Vars.map e_api_Var), .sl (m.Blocks.map e_api_Block), .sl (m.Tasks.map e_api_Task), .sl (m.Code.map (eL e_api_Ins))]], .cells v_127 1 (xs_128.map (eK .u8)), .cells 0 1 [[.msl 1 v_127 0 xs_128.length]], .cells 0 1 ((sBytes x_116.Kind).map (eK .u8))]⟩) (fun (e__ : List Int) (b__ : Nat) => match e__, b__ with | e_130, b131 => ⟨[], [.cells 0 7 [[.sl (m.Lattice.Names.map eS), .sl (m.Lattice.Below.map (eA2 eI)), .sl (m.Sites.map e_api_Site), .sl (m.Vars.map e_api_Var), .sl (m.Blocks.map e_api_Block), .sl (m.Tasks.map e_api_Task), .sl (m.Code.map (eL e_api_Ins))]], .cells b131 1 (e_130.map (eK .u8)), .cells 0 1 [[.msl 1 b131 0 e_130.length]], .cells 0 1 ((sBytes x_116.Kind).map (eK .u8))]⟩) (fun (_ : List Int) => some 0) (b121 + 1) he_130 ?_ ?_
  intro i131 b131 hi131
  obtain rfl := Option.some.inj hi131
  dsimp only at hf115 ⊢
  cases hf115
  refine tt ?_
  refine wn i_113 F fun F => ?_
  exact bk ih115 ho115 b131
  intro af131 m131 s131 v_127 o131 hf131 ho131 ih131
  obtain ⟨xs_128, i_129⟩ := s131
  dsimp only [lazarettoref18_put_L16] at hf131 ⊢
  refine tt ?_
  repeat (first | (with_reducible intro _) | (with_reducible refine and_i ?_ ?_; exact ss))
  refine fi hf131 F (fun hf131 _ F => ?_) (fun hf131 _ F => ?_)
  refine bx hf131 F fun x_132 hf131 hx_132 F => ?_
  refine ln F fun F => ?_
  have R := And.intro (show ([[.int .i64 x_116.Label]] : List (List C))[i_129]? = some [.int .i64 x_132] from q_map (f := eI) hx_132) R
  refine bi hf131 fun r_133 hf131 hr_133 => ?_
  refine tt ?_
  repeat (first | (with_reducible intro _) | (with_reducible refine and_i ?_ ?_; exact ss))
  refine cD (lazarettoref17_Four_ok hr_133) ?_
  refine tt ?_
  repeat (first | (with_reducible intro _) | refine ⟨sb, ?_⟩)
  refine ⟨lt_ [0], ?_⟩
  refine nd hf131 F fun hf131 F => ?_
  cases hf131
  refine tt ?_
  repeat (first | (with_reducible intro _) | (with_reducible refine and_i ?_ ?_; exact ss))
  refine wn i_129 F fun F => ?_
  exact bk ih131 ho131 (v_127 + 1)
  cases hf131
  refine tt ?_
  exact xt ho131 af131 v_127
  intro af121 m121 s121 v_117 o121 hf121 ho121 ih121
  obtain ⟨xs_118, i_119⟩ := s121
  dsimp only [lazarettoref18_put_L15] at hf121 ⊢
  refine tt ?_
  repeat (first | (with_reducible intro _) | (with_reducible refine and_i ?_ ?_; exact ss))
  refine fi hf121 F (fun hf121 _ F => ?_) (fun hf121 _ F => ?_)
  refine bx hf121 F fun x_122 hf121 hx_122 F => ?_
  refine ln F fun F => ?_
  have R := And.intro (show ([[.int .i64 (x_116.Kind.length : Int)]] : List (List C))[i_119]? = some [.int .i64 x_122] from q_map (f := eI) hx_122) R
  refine bi hf121 fun r_123 hf121 hr_123 => ?_
  refine tt ?_
  repeat (first | (with_reducible intro _) | (with_reducible refine and_i ?_ ?_; exact ss))
  refine cD (lazarettoref17_Four_ok hr_123) ?_
  refine tt ?_
  repeat (first | (with_reducible intro _) | refine ⟨sb, ?_⟩)
  refine ⟨lt_ [0], ?_⟩
  refine nd hf121 F fun hf121 F => ?_
  cases hf121
  refine tt ?_
  repeat (first | (with_reducible intro _) | (with_reducible refine and_i ?_ ?_; exact ss))
  refine wn i_119 F fun F => ?_
  exact bk ih121 ho121 (v_117 + 1)
  cases hf121
  refine tt ?_
  exact xt ho121 af121 v_117
  cases hf115
  refine tt ?_
  exact xt ho115 af115 v_111
  intro af106 m106 s106 v_102 o106 hf106 ho106 ih106
  obtain ⟨xs_103, i_104⟩ := s106
  dsimp only [lazarettoref18_put_L13] at hf106 ⊢
  refine tt ?_
  repeat (first | (with_reducible intro _) | (with_reducible refine and_i ?_ ?_; exact ss))
  refine fi hf106 F (fun hf106 _ F => ?_) (fun hf106 _ F => ?_)
  refine bx hf106 F fun x_107 hf106 hx_107 F => ?_
  refine ln F fun F => ?_
  have R := And.intro (show ([[.int .i64 (m.Blocks.length : Int)]] : List (List C))[i_104]? = some [.int .i64 x_107] from q_map (f := eI) hx_107) R
  refine bi hf106 fun r_108 hf106 hr_108 => ?_
  refine tt ?_
  repeat (first | (with_reducible intro _) | (with_reducible refine and_i ?_ ?_; exact ss))
  refine cD (lazarettoref17_Four_ok hr_108) ?_
  refine tt ?_
  repeat (first | (with_reducible intro _) | refine ⟨sb, ?_⟩)
  refine ⟨lt_ [0], ?_⟩
  refine nd hf106 F fun hf106 F => ?_
  cases hf106
  refine tt ?_
  repeat (first | (with_reducible intro _) | (with_reducible refine and_i ?_ ?_; exact ss))
  refine wn i_104 F fun F => ?_
  exact bk ih106 ho106 (v_102 + 1)
  cases hf106
  refine tt ?_
  exact xt ho106 af106 v_102
  intro af90 m90 s90 v_86 o90 hf90 ho90 ih90
  obtain ⟨xs_87, i_88⟩ := s90
  dsimp only [lazarettoref18_put_L11] at hf90 ⊢
  refine tt ?_
  repeat (first | (with_reducible intro _) | (with_reducible refine and_i ?_ ?_; exact ss))
  refine fl hf90 F (fun hf90 _ F => ?_) (fun hf90 _ F => ?_)
  refine bx hf90 F fun x_91 hf90 hx_91 F => ?_
  refine tt ?_
  repeat (first | (with_reducible intro _) | (with_reducible refine and_i ?_ ?_; exact ss))
  refine iS Tryz.func43 ?_
  simp only [Tryz.f43]
  refine bi hf90 fun e_95 hf90 he_95 => ?_
  refine tt ?_
  refine lE (fun (s__ : (List Int) × Nat) (a__ : Nat) => match s__, a__ with | (xs_93, i_94), v_92 => ⟨[(0, .one (.ref 2 0 0 0)), (1, .one (.slf ([x_91.Type_.Kind, x_91.Type_.Low, x_91.Type_.Len, x_91.Mode, x_91.Label, x_91.Safe].map eI))), (4, .one (.int .i64 (i_94 : Int)))], [.cells 0 7 [[.sl (m.Lattice.Names.map eS), .sl (m.Lattice.Below.map (eA2 eI)), .sl (m.Sites.map e_api_Site), .sl (m.Vars.map e_api_Var), .sl (m.Blocks.map e_api_Block), .sl (m.Tasks.map e_api_Task), .sl (m.Code.map (eL e_api_Ins))]], .cells v_92 1 (xs_93.map (eK .u8)), .cells 0 1 [[.msl 1 v_92 0 xs_93.length]], .cells 0 7 [[.str x_91.Name, .int .i64 x_91.Type_.Kind, .int .i64 x_91.Type_.Low, .int .i64 x_91.Type_.Len, .int .i64 x_91.Mode, .int .i64 x_91.Label, .int .i64 x_91.Safe]]]⟩) (fun (e__ : List Int) (b__ : Nat) => match e__, b__ with | e_95, b96 => ⟨[], [.cells 0 7 [[.sl (m.Lattice.Names.map eS), .sl (m.Lattice.Below.map (eA2 eI)), .sl (m.Sites.map e_api_Site), .sl (m.Vars.map e_api_Var), .sl (m.Blocks.map e_api_Block), .sl (m.Tasks.map e_api_Task), .sl (m.Code.map (eL e_api_Ins))]], .cells b96 1 (e_95.map (eK .u8)), .cells 0 1 [[.msl 1 b96 0 e_95.length]], .cells 0 7 [[.str x_91.Name, .int .i64 x_91.Type_.Kind, .int .i64 x_91.Type_.Low, .int .i64 x_91.Type_.Len, .int .i64 x_91.Mode, .int .i64 x_91.Label, .int .i64 x_91.Safe]]]⟩) (fun (_ : List Int) => some 0) v_86 he_95 ?_ ?_
  intro i96 b96 hi96
  obtain rfl := Option.some.inj hi96
  dsimp only at hf90 ⊢
  cases hf90
  refine tt ?_
  refine wn i_88 F fun F => ?_
  exact bk ih90 ho90 b96
  intro af96 m96 s96 v_92 o96 hf96 ho96 ih96
  obtain ⟨xs_93, i_94⟩ := s96
  dsimp only [lazarettoref18_put_L12] at hf96 ⊢
  refine tt ?_
  repeat (first | (with_reducible intro _) | (with_reducible refine and_i ?_ ?_; exact ss))
  refine fi hf96 F (fun hf96 _ F => ?_) (fun hf96 _ F => ?_)
  refine bx hf96 F fun x_97 hf96 hx_97 F => ?_
  refine ln F fun F => ?_
  have R := And.intro (show ([[.int .i64 x_91.Type_.Kind], [.int .i64 x_91.Type_.Low], [.int .i64 x_91.Type_.Len], [.int .i64 x_91.Mode], [.int .i64 x_91.Label], [.int .i64 x_91.Safe]] : List (List C))[i_94]? = some [.int .i64 x_97] from q_map (f := eI) hx_97) R
  refine bi hf96 fun r_98 hf96 hr_98 => ?_
  refine tt ?_
  repeat (first | (with_reducible intro _) | (with_reducible refine and_i ?_ ?_; exact ss))
  refine cD (lazarettoref17_Four_ok hr_98) ?_
  refine tt ?_
  repeat (first | (with_reducible intro _) | refine ⟨sb, ?_⟩)
  refine ⟨lt_ [0], ?_⟩
  refine nd hf96 F fun hf96 F => ?_
  cases hf96
  refine tt ?_
  repeat (first | (with_reducible intro _) | (with_reducible refine and_i ?_ ?_; exact ss))
  refine wn i_94 F fun F => ?_
  exact bk ih96 ho96 (v_92 + 1)
  cases hf96
  refine tt ?_
  exact xt ho96 af96 v_92
  cases hf90
  refine tt ?_
  exact xt ho90 af90 v_86
  intro af81 m81 s81 v_77 o81 hf81 ho81 ih81
  obtain ⟨xs_78, i_79⟩ := s81
  dsimp only [lazarettoref18_put_L10] at hf81 ⊢
  refine tt ?_
  repeat (first | (with_reducible intro _) | (with_reducible refine and_i ?_ ?_; exact ss))
  refine fi hf81 F (fun hf81 _ F => ?_) (fun hf81 _ F => ?_)
  refine bx hf81 F fun x_82 hf81 hx_82 F => ?_
  refine ln F fun F => ?_
  have R := And.intro (show ([[.int .i64 (m.Vars.length : Int)]] : List (List C))[i_79]? = some [.int .i64 x_82] from q_map (f := eI) hx_82) R
  refine bi hf81 fun r_83 hf81 hr_83 => ?_
  refine tt ?_
  repeat (first | (with_reducible intro _) | (with_reducible refine and_i ?_ ?_; exact ss))
  refine cD (lazarettoref17_Four_ok hr_83) ?_
  refine tt ?_
  repeat (first | (with_reducible intro _) | refine ⟨sb, ?_⟩)
  refine ⟨lt_ [0], ?_⟩
  refine nd hf81 F fun hf81 F => ?_
  cases hf81
  refine tt ?_
  repeat (first | (with_reducible intro _) | (with_reducible refine and_i ?_ ?_; exact ss))
  refine wn i_79 F fun F => ?_
  exact bk ih81 ho81 (v_77 + 1)
  cases hf81
  refine tt ?_
  exact xt ho81 af81 v_77
  intro af65 m65 s65 v_61 o65 hf65 ho65 ih65
  obtain ⟨xs_62, i_63⟩ := s65
  dsimp only [lazarettoref18_put_L8] at hf65 ⊢
  refine tt ?_
  repeat (first | (with_reducible intro _) | (with_reducible refine and_i ?_ ?_; exact ss))
  refine fl hf65 F (fun hf65 _ F => ?_) (fun hf65 _ F => ?_)
  refine bx hf65 F fun x_66 hf65 hx_66 F => ?_
  refine tt ?_
  repeat (first | (with_reducible intro _) | (with_reducible refine and_i ?_ ?_; exact ss))
  refine iS Tryz.func43 ?_
  simp only [Tryz.f43]
  refine bi hf65 fun e_70 hf65 he_70 => ?_
  refine tt ?_
  refine lE (fun (s__ : (List Int) × Nat) (a__ : Nat) => match s__, a__ with | (xs_68, i_69), v_67 => ⟨[(0, .one (.ref 2 0 0 0)), (1, .one (.slf ([x_66.From, x_66.To].map eI))), (4, .one (.int .i64 (i_69 : Int)))], [.cells 0 7 [[.sl (m.Lattice.Names.map eS), .sl (m.Lattice.Below.map (eA2 eI)), .sl (m.Sites.map e_api_Site), .sl (m.Vars.map e_api_Var), .sl (m.Blocks.map e_api_Block), .sl (m.Tasks.map e_api_Task), .sl (m.Code.map (eL e_api_Ins))]], .cells v_67 1 (xs_68.map (eK .u8)), .cells 0 1 [[.msl 1 v_67 0 xs_68.length]]]⟩) (fun (e__ : List Int) (b__ : Nat) => match e__, b__ with | e_70, b71 => ⟨[], [.cells 0 7 [[.sl (m.Lattice.Names.map eS), .sl (m.Lattice.Below.map (eA2 eI)), .sl (m.Sites.map e_api_Site), .sl (m.Vars.map e_api_Var), .sl (m.Blocks.map e_api_Block), .sl (m.Tasks.map e_api_Task), .sl (m.Code.map (eL e_api_Ins))]], .cells b71 1 (e_70.map (eK .u8)), .cells 0 1 [[.msl 1 b71 0 e_70.length]]]⟩) (fun (_ : List Int) => some 0) v_61 he_70 ?_ ?_
  intro i71 b71 hi71
  obtain rfl := Option.some.inj hi71
  dsimp only at hf65 ⊢
  cases hf65
  refine tt ?_
  refine wn i_63 F fun F => ?_
  exact bk ih65 ho65 b71
  intro af71 m71 s71 v_67 o71 hf71 ho71 ih71
  obtain ⟨xs_68, i_69⟩ := s71
  dsimp only [lazarettoref18_put_L9] at hf71 ⊢
  refine tt ?_
  repeat (first | (with_reducible intro _) | (with_reducible refine and_i ?_ ?_; exact ss))
  refine fi hf71 F (fun hf71 _ F => ?_) (fun hf71 _ F => ?_)
  refine bx hf71 F fun x_72 hf71 hx_72 F => ?_
  refine ln F fun F => ?_
  have R := And.intro (show ([[.int .i64 x_66.From], [.int .i64 x_66.To]] : List (List C))[i_69]? = some [.int .i64 x_72] from q_map (f := eI) hx_72) R
  refine bi hf71 fun r_73 hf71 hr_73 => ?_
  refine tt ?_
  repeat (first | (with_reducible intro _) | (with_reducible refine and_i ?_ ?_; exact ss))
  refine cD (lazarettoref17_Four_ok hr_73) ?_
  refine tt ?_
  repeat (first | (with_reducible intro _) | refine ⟨sb, ?_⟩)
  refine ⟨lt_ [0], ?_⟩
  refine nd hf71 F fun hf71 F => ?_
  cases hf71
  refine tt ?_
  repeat (first | (with_reducible intro _) | (with_reducible refine and_i ?_ ?_; exact ss))
  refine wn i_69 F fun F => ?_
  exact bk ih71 ho71 (v_67 + 1)
  cases hf71
  refine tt ?_
  exact xt ho71 af71 v_67
  cases hf65
  refine tt ?_
  exact xt ho65 af65 v_61
  intro af56 m56 s56 v_52 o56 hf56 ho56 ih56
  obtain ⟨xs_53, i_54⟩ := s56
  dsimp only [lazarettoref18_put_L7] at hf56 ⊢
  refine tt ?_
  repeat (first | (with_reducible intro _) | (with_reducible refine and_i ?_ ?_; exact ss))
  refine fi hf56 F (fun hf56 _ F => ?_) (fun hf56 _ F => ?_)
  refine bx hf56 F fun x_57 hf56 hx_57 F => ?_
  refine ln F fun F => ?_
  have R := And.intro (show ([[.int .i64 (m.Sites.length : Int)]] : List (List C))[i_54]? = some [.int .i64 x_57] from q_map (f := eI) hx_57) R
  refine bi hf56 fun r_58 hf56 hr_58 => ?_
  refine tt ?_
  repeat (first | (with_reducible intro _) | (with_reducible refine and_i ?_ ?_; exact ss))
  refine cD (lazarettoref17_Four_ok hr_58) ?_
  refine tt ?_
  repeat (first | (with_reducible intro _) | refine ⟨sb, ?_⟩)
  refine ⟨lt_ [0], ?_⟩
  refine nd hf56 F fun hf56 F => ?_
  cases hf56
  refine tt ?_
  repeat (first | (with_reducible intro _) | (with_reducible refine and_i ?_ ?_; exact ss))
  refine wn i_54 F fun F => ?_
  exact bk ih56 ho56 (v_52 + 1)
  cases hf56
  refine tt ?_
  exact xt ho56 af56 v_52
  intro af40 m40 s40 v_36 o40 hf40 ho40 ih40
  obtain ⟨xs_37, i_38⟩ := s40
  dsimp only [lazarettoref18_put_L5] at hf40 ⊢
  refine tt ?_
  repeat (first | (with_reducible intro _) | (with_reducible refine and_i ?_ ?_; exact ss))
  refine fl hf40 F (fun hf40 _ F => ?_) (fun hf40 _ F => ?_)
  refine bx hf40 F fun x_41 hf40 hx_41 F => ?_
  refine tt ?_
  repeat (first | (with_reducible intro _) | (with_reducible refine and_i ?_ ?_; exact ss))
  refine iS Tryz.func43 ?_
  simp only [Tryz.f43]
  refine bi hf40 fun e_45 hf40 he_45 => ?_
  refine tt ?_
  refine lE (fun (s__ : (List Int) × Nat) (a__ : Nat) => match s__, a__ with | (xs_43, i_44), v_42 => ⟨[(0, .one (.ref 2 0 0 0)), (1, .one (.slf ([x_41.a0, x_41.a1].map eI))), (4, .one (.int .i64 (i_44 : Int)))], [.cells 0 7 [[.sl (m.Lattice.Names.map eS), .sl (m.Lattice.Below.map (eA2 eI)), .sl (m.Sites.map e_api_Site), .sl (m.Vars.map e_api_Var), .sl (m.Blocks.map e_api_Block), .sl (m.Tasks.map e_api_Task), .sl (m.Code.map (eL e_api_Ins))]], .cells v_42 1 (xs_43.map (eK .u8)), .cells 0 1 [[.msl 1 v_42 0 xs_43.length]]]⟩) (fun (e__ : List Int) (b__ : Nat) => match e__, b__ with | e_45, b46 => ⟨[], [.cells 0 7 [[.sl (m.Lattice.Names.map eS), .sl (m.Lattice.Below.map (eA2 eI)), .sl (m.Sites.map e_api_Site), .sl (m.Vars.map e_api_Var), .sl (m.Blocks.map e_api_Block), .sl (m.Tasks.map e_api_Task), .sl (m.Code.map (eL e_api_Ins))]], .cells b46 1 (e_45.map (eK .u8)), .cells 0 1 [[.msl 1 b46 0 e_45.length]]]⟩) (fun (_ : List Int) => some 0) v_36 he_45 ?_ ?_
  intro i46 b46 hi46
  obtain rfl := Option.some.inj hi46
  dsimp only at hf40 ⊢
  cases hf40
  refine tt ?_
  refine wn i_38 F fun F => ?_
  exact bk ih40 ho40 b46
  intro af46 m46 s46 v_42 o46 hf46 ho46 ih46
  obtain ⟨xs_43, i_44⟩ := s46
  dsimp only [lazarettoref18_put_L6] at hf46 ⊢
  refine tt ?_
  repeat (first | (with_reducible intro _) | (with_reducible refine and_i ?_ ?_; exact ss))
  refine fi hf46 F (fun hf46 _ F => ?_) (fun hf46 _ F => ?_)
  refine bx hf46 F fun x_47 hf46 hx_47 F => ?_
  refine ln F fun F => ?_
  have R := And.intro (show ([[.int .i64 x_41.a0], [.int .i64 x_41.a1]] : List (List C))[i_44]? = some [.int .i64 x_47] from q_map (f := eI) hx_47) R
  refine bi hf46 fun r_48 hf46 hr_48 => ?_
  refine tt ?_
  repeat (first | (with_reducible intro _) | (with_reducible refine and_i ?_ ?_; exact ss))
  refine cD (lazarettoref17_Four_ok hr_48) ?_
  refine tt ?_
  repeat (first | (with_reducible intro _) | refine ⟨sb, ?_⟩)
  refine ⟨lt_ [0], ?_⟩
  refine nd hf46 F fun hf46 F => ?_
  cases hf46
  refine tt ?_
  repeat (first | (with_reducible intro _) | (with_reducible refine and_i ?_ ?_; exact ss))
  refine wn i_44 F fun F => ?_
  exact bk ih46 ho46 (v_42 + 1)
  cases hf46
  refine tt ?_
  exact xt ho46 af46 v_42
  cases hf40
  refine tt ?_
  exact xt ho40 af40 v_36
  intro af31 m31 s31 v_27 o31 hf31 ho31 ih31
  obtain ⟨xs_28, i_29⟩ := s31
  dsimp only [lazarettoref18_put_L4] at hf31 ⊢
  refine tt ?_
  repeat (first | (with_reducible intro _) | (with_reducible refine and_i ?_ ?_; exact ss))
  refine fi hf31 F (fun hf31 _ F => ?_) (fun hf31 _ F => ?_)
  refine bx hf31 F fun x_32 hf31 hx_32 F => ?_
  refine ln F fun F => ?_
  have R := And.intro (show ([[.int .i64 (m.Lattice.Below.length : Int)]] : List (List C))[i_29]? = some [.int .i64 x_32] from q_map (f := eI) hx_32) R
  refine bi hf31 fun r_33 hf31 hr_33 => ?_
  refine tt ?_
  repeat (first | (with_reducible intro _) | (with_reducible refine and_i ?_ ?_; exact ss))
  refine cD (lazarettoref17_Four_ok hr_33) ?_
  refine tt ?_
  repeat (first | (with_reducible intro _) | refine ⟨sb, ?_⟩)
  refine ⟨lt_ [0], ?_⟩
  refine nd hf31 F fun hf31 F => ?_
  cases hf31
  refine tt ?_
  repeat (first | (with_reducible intro _) | (with_reducible refine and_i ?_ ?_; exact ss))
  refine wn i_29 F fun F => ?_
  exact bk ih31 ho31 (v_27 + 1)
  cases hf31
  refine tt ?_
  exact xt ho31 af31 v_27
  intro af14 m14 s14 v_10 o14 hf14 ho14 ih14
  obtain ⟨xs_11, i_12⟩ := s14
  dsimp only [lazarettoref18_put_L2] at hf14 ⊢
  refine tt ?_
  repeat (first | (with_reducible intro _) | (with_reducible refine and_i ?_ ?_; exact ss))
  refine fl hf14 F (fun hf14 _ F => ?_) (fun hf14 _ F => ?_)
  refine bx hf14 F fun x_15 hf14 hx_15 F => ?_
  refine tt ?_
  repeat (first | (with_reducible intro _) | (with_reducible refine and_i ?_ ?_; exact ss))
  refine iS Tryz.func44 ?_
  simp only [Tryz.f44]
  refine tt ?_
  repeat (first | (with_reducible intro _) | (with_reducible refine and_i ?_ ?_; exact ss))
  refine iS Tryz.func43 ?_
  simp only [Tryz.f43]
  refine bi hf14 fun e_19 hf14 he_19 => ?_
  refine tt ?_
  refine lE (fun (s__ : (List Int) × Nat) (a__ : Nat) => match s__, a__ with | (xs_17, i_18), v_16 => ⟨[(0, .one (.ref 2 0 0 0)), (1, .one (.slf ([(x_15.length : Int)].map eI))), (4, .one (.int .i64 (i_18 : Int)))], [.cells 0 7 [[.sl (m.Lattice.Names.map eS), .sl (m.Lattice.Below.map (eA2 eI)), .sl (m.Sites.map e_api_Site), .sl (m.Vars.map e_api_Var), .sl (m.Blocks.map e_api_Block), .sl (m.Tasks.map e_api_Task), .sl (m.Code.map (eL e_api_Ins))]], .cells v_16 1 (xs_17.map (eK .u8)), .cells 0 1 [[.msl 1 v_16 0 xs_17.length]]]⟩) (fun (e__ : List Int) (b__ : Nat) => match e__, b__ with | e_19, b20 => ⟨[], [.cells 0 7 [[.sl (m.Lattice.Names.map eS), .sl (m.Lattice.Below.map (eA2 eI)), .sl (m.Sites.map e_api_Site), .sl (m.Vars.map e_api_Var), .sl (m.Blocks.map e_api_Block), .sl (m.Tasks.map e_api_Task), .sl (m.Code.map (eL e_api_Ins))]], .cells b20 1 (e_19.map (eK .u8)), .cells 0 1 [[.msl 1 b20 0 e_19.length]]]⟩) (fun (_ : List Int) => some 0) v_10 he_19 ?_ ?_
  intro i20 b20 hi20
  obtain rfl := Option.some.inj hi20
  dsimp only at hf14 ⊢
  refine nd hf14 F fun hf14 F => ?_
  cases hf14
  refine tt ?_
  repeat (first | (with_reducible intro _) | (with_reducible refine and_i ?_ ?_; exact ss))
  refine wn i_12 F fun F => ?_
  exact bk ih14 ho14 (b20 + 1)
  intro af20 m20 s20 v_16 o20 hf20 ho20 ih20
  obtain ⟨xs_17, i_18⟩ := s20
  dsimp only [lazarettoref18_put_L3] at hf20 ⊢
  refine tt ?_
  repeat (first | (with_reducible intro _) | (with_reducible refine and_i ?_ ?_; exact ss))
  refine fi hf20 F (fun hf20 _ F => ?_) (fun hf20 _ F => ?_)
  refine bx hf20 F fun x_21 hf20 hx_21 F => ?_
  refine ln F fun F => ?_
  have R := And.intro (show ([[.int .i64 (x_15.length : Int)]] : List (List C))[i_18]? = some [.int .i64 x_21] from q_map (f := eI) hx_21) R
  refine bi hf20 fun r_22 hf20 hr_22 => ?_
  refine tt ?_
  repeat (first | (with_reducible intro _) | (with_reducible refine and_i ?_ ?_; exact ss))
  refine cD (lazarettoref17_Four_ok hr_22) ?_
  refine tt ?_
  repeat (first | (with_reducible intro _) | refine ⟨sb, ?_⟩)
  refine ⟨lt_ [0], ?_⟩
  refine nd hf20 F fun hf20 F => ?_
  cases hf20
  refine tt ?_
  repeat (first | (with_reducible intro _) | (with_reducible refine and_i ?_ ?_; exact ss))
  refine wn i_18 F fun F => ?_
  exact bk ih20 ho20 (v_16 + 1)
  cases hf20
  refine tt ?_
  exact xt ho20 af20 v_16
  cases hf14
  refine tt ?_
  exact xt ho14 af14 v_10
  intro af5 m5 s5 v_1 o5 hf5 ho5 ih5
  obtain ⟨xs_2, i_3⟩ := s5
  dsimp only [lazarettoref18_put_L1] at hf5 ⊢
  refine tt ?_
  repeat (first | (with_reducible intro _) | (with_reducible refine and_i ?_ ?_; exact ss))
  refine fi hf5 F (fun hf5 _ F => ?_) (fun hf5 _ F => ?_)
  refine bx hf5 F fun x_6 hf5 hx_6 F => ?_
  refine ln F fun F => ?_
  have R := And.intro (show ([[.int .i64 (m.Lattice.Names.length : Int)]] : List (List C))[i_3]? = some [.int .i64 x_6] from q_map (f := eI) hx_6) R
  refine bi hf5 fun r_7 hf5 hr_7 => ?_
  refine tt ?_
  repeat (first | (with_reducible intro _) | (with_reducible refine and_i ?_ ?_; exact ss))
  refine cD (lazarettoref17_Four_ok hr_7) ?_
  refine tt ?_
  repeat (first | (with_reducible intro _) | refine ⟨sb, ?_⟩)
  refine ⟨lt_ [0], ?_⟩
  refine nd hf5 F fun hf5 F => ?_
  cases hf5
  refine tt ?_
  repeat (first | (with_reducible intro _) | (with_reducible refine and_i ?_ ?_; exact ss))
  refine wn i_3 F fun F => ?_
  exact bk ih5 ho5 (v_1 + 1)
  cases hf5
  refine tt ?_
  exact xt ho5 af5 v_1
theorem lazarettoref18_Encode_ok {m : api_Image} {r : Str × Int} (h : lazarettoref18_Encode m = some r) :
    Pu Tryz.prog 8 [.agg (e_api_Image m)] (.tup [.one (.str r.1), .one (.int .i64 r.2)]) := by
  have F := trivial; have R := trivial
  refine pA Tryz.func8 ?_
  simp only [Tryz.f8]
  unfold lazarettoref18_Encode at h
  refine bi h fun r_1 h hr_1 => ?_
  refine tt ?_
  repeat (first | (with_reducible intro _) | (with_reducible refine and_i ?_ ?_; exact ss))
  refine cS (lazarettoref18_Check_ok hr_1) ?_
  refine fi h F (fun h _ F => ?_) (fun h _ F => ?_)
  refine bi h fun r_2 h hr_2 => ?_
  refine tt ?_
  repeat (first | (with_reducible intro _) | (with_reducible refine and_i ?_ ?_; exact ss))
  refine cS (lazarettoref18_put_ok hr_2) ?_
  cases h; exact fin
  cases h; exact fin
end Go.Lz
