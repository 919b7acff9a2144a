/- V08 -/
import Derived.Test.YtmgedefdjobgdaaGreatV07
namespace Go.Lz
set_option linter.unusedVariables false
set_option linter.unusedSimpArgs false
open Go.Proofs
attribute [-go_sem] q_cond g_b gd_b
set_option maxRecDepth 100000
set_option maxHeartbeats 4000000
noncomputable section
def lazarettolaw08_Few_L1 (p : api_Program) : Nat → Option ((Nat) ⊕ (Int ⊕ Unit))
  | i_1 => if (i_1 : Int) < (p.Tasks.length : Int) then ((p.Tasks[i_1]?).bind fun x_4 => if 100 < (x_4.Budget.length : Int) then (some (.inr (.inl (0)))) else ((lazarettolaw07_Few x_4.Body 60 2000).bind fun r_5 => if r_5 < 0 then (some (.inr (.inl (0)))) else (some (.inl (i_1 + 1))))) else (some (.inr (.inr (()))))
def lazarettolaw08_Few (p : api_Program) : Option Int :=
  if 500 < (w64 ((w64 ((w64 ((w64 ((p.Lattice.Names.length : Int) + (p.Lattice.Below.length : Int))) + (p.Sites.length : Int))) + (p.Vars.length : Int))) + (p.Blocks.length : Int))) then (some 0) else (if 10 < (p.Tasks.length : Int) then (some 0) else ((loop (lazarettolaw08_Few_L1 p) 0).bind (fun e__ => match e__ with | (.inl e_6) => some e_6 | (.inr ()) => some 1)))
def lazarettoref08_find_L1 (l : List Str) (name : Str) : Nat → Option ((Nat) ⊕ (Int ⊕ Unit))
  | i_1 => if (i_1 : Int) < (l.length : Int) then ((l[i_1]?).bind fun x_4 => if x_4 = name then (some (.inr (.inl ((i_1 : Int))))) else (some (.inl (i_1 + 1)))) else (some (.inr (.inr (()))))
def lazarettoref08_find (l : List Str) (name : Str) : Option Int :=
  (loop (lazarettoref08_find_L1 l name) 0).bind (fun e__ => match e__ with | (.inl e_5) => some e_5 | (.inr ()) => some (-1))
def lazarettoref01_Is (l : api_Lattice) (a : Int) : Option Bool :=
  if 0 ≤ a then (some (decide (a < (l.Names.length : Int)))) else (some false)
def lazarettoref08_label (p : api_Program) (n : Int) : Option Bool :=
  (lazarettoref01_Is p.Lattice n).bind fun r_1 => some r_1
def lazarettoref03_Bits (kind : Int) : Option Int :=
  if kind = 1 then (some 1) else (if kind = 2 then (some 16) else (if kind = 3 then (some 32) else (if kind = 4 then (some 32) else (some 0))))
def lazarettoref04_Check (t : api_Type) : Option Int :=
  (lazarettoref03_Bits t.Kind).bind fun r_1 => if r_1 = 0 then (some 6) else (if t.Len < 0 then (some 6) else (if 32 < t.Len then (some 6) else (if t.Len = 0 then (if t.Low = 0 then (if t.Low < (-32768) then (some 6) else (if 32767 < t.Low then (some 6) else (some 0))) else (some 6)) else (if t.Low < (-32768) then (some 6) else (if 32767 < t.Low then (some 6) else (some 0))))))
def lazarettoref03_half (kind : Int) : Option Int :=
  if kind = 2 then (some 32768) else (some 2147483648)
def lazarettoref03_Valid (kind : Int) (n : Int) : Option Bool :=
  if kind = 1 then (if n = 0 then (some true) else (some (decide (n = 1)))) else ((lazarettoref03_Bits kind).bind fun r_1 => if 0 < r_1 then ((lazarettoref03_half kind).bind fun r_2 => if (w64 (0 - r_2)) ≤ n then ((lazarettoref03_half kind).bind fun r_3 => some (decide (n < r_3))) else (some false)) else (some false))
def lazarettoref08_variable (p : api_Program) (v : api_Var) : Option Bool :=
  (lazarettoref05_Name v.Name).bind fun r_1 => if r_1 = true then ((lazarettoref04_Check v.Type_).bind fun r_2 => if r_2 = 0 then (if v.Mode = 0 then (if v.Safe = 0 then (if v.Label = (-1) then (if v.Type_.Len = 0 then (some true) else (some (decide (v.Type_.Low ≤ (w64 (32768 - v.Type_.Len)))))) else ((lazarettoref08_label p v.Label).bind fun r_3 => if r_3 = true then (if v.Type_.Len = 0 then (some true) else (some (decide (v.Type_.Low ≤ (w64 (32768 - v.Type_.Len)))))) else (some false))) else (some false)) else (if v.Mode = 1 then (if v.Safe = 0 then ((lazarettoref08_label p v.Label).bind fun r_4 => if r_4 = true then (some (decide (v.Type_.Len = 0))) else (some false)) else (some false)) else (if v.Mode = 2 then ((lazarettoref08_label p v.Label).bind fun r_5 => if r_5 = true then (if v.Type_.Len = 0 then ((lazarettoref03_Valid v.Type_.Kind v.Safe).bind fun r_6 => some r_6) else (some false)) else (some false)) else (some false)))) else (some false)) else (some false)
def lazarettoref08_parts_L5 (p : api_Program) : Nat → Option ((Nat) ⊕ (Bool ⊕ Unit))
  | i_29 => if (i_29 : Int) < (p.Blocks.length : Int) then ((p.Blocks[i_29]?).bind fun x_32 => (lazarettoref05_Name x_32.Name).bind fun r_33 => if r_33 = true then ((lazarettoref05_Among x_32.Kind ([67, 84, 68, 32, 67, 84, 85, 32, 67, 84, 85, 68, 32, 70, 95, 84, 82, 73, 71, 32, 82, 83, 32, 82, 95, 84, 82, 73, 71, 32, 83, 82, 32, 84, 79, 70, 32, 84, 79, 78, 32, 84, 80] : Str)).bind fun r_34 => if r_34 = true then ((lazarettoref08_label p x_32.Label).bind fun r_35 => if r_35 = true then (some (.inl (i_29 + 1))) else (some (.inr (.inl (false))))) else (some (.inr (.inl (false))))) else (some (.inr (.inl (false))))) else (some (.inr (.inr (()))))
def lazarettoref08_parts_L4 (p : api_Program) : Nat → Option ((Nat) ⊕ (Bool ⊕ Unit))
  | i_23 => if (i_23 : Int) < (p.Vars.length : Int) then ((p.Vars[i_23]?).bind fun x_26 => (lazarettoref08_variable p x_26).bind fun r_27 => if r_27 = true then (some (.inl (i_23 + 1))) else (some (.inr (.inl (false))))) else (some (.inr (.inr (()))))
def lazarettoref08_parts_L3 (p : api_Program) : Nat → Option ((Nat) ⊕ (Bool ⊕ Unit))
  | i_15 => if (i_15 : Int) < (p.Sites.length : Int) then ((p.Sites[i_15]?).bind fun x_18 => (lazarettoref05_Name x_18.Name).bind fun r_19 => if r_19 = true then ((lazarettoref08_label p x_18.From).bind fun r_20 => if r_20 = true then ((lazarettoref08_label p x_18.To).bind fun r_21 => if r_21 = true then (some (.inl (i_15 + 1))) else (some (.inr (.inl (false))))) else (some (.inr (.inl (false))))) else (some (.inr (.inl (false))))) else (some (.inr (.inr (()))))
def lazarettoref08_parts_L2 (p : api_Program) : Nat → Option ((Nat) ⊕ (Bool ⊕ Unit))
  | i_8 => if (i_8 : Int) < (p.Lattice.Below.length : Int) then ((p.Lattice.Below[i_8]?).bind fun x_11 => (lazarettoref08_label p x_11.a0).bind fun r_12 => if r_12 = true then ((lazarettoref08_label p x_11.a1).bind fun r_13 => if r_13 = true then (some (.inl (i_8 + 1))) else (some (.inr (.inl (false))))) else (some (.inr (.inl (false))))) else (some (.inr (.inr (()))))
def lazarettoref08_parts_L1 (p : api_Program) : Nat → Option ((Nat) ⊕ (Bool ⊕ Unit))
  | i_1 => if (i_1 : Int) < (p.Lattice.Names.length : Int) then ((p.Lattice.Names[i_1]?).bind fun x_4 => (lazarettoref05_Name x_4).bind fun r_5 => if r_5 = true then ((lazarettoref08_find p.Lattice.Names x_4).bind fun r_6 => if r_6 = (i_1 : Int) then (some (.inl (i_1 + 1))) else (some (.inr (.inl (false))))) else (some (.inr (.inl (false))))) else (some (.inr (.inr (()))))
def lazarettoref08_parts (p : api_Program) : Option Bool :=
  if 8 < (p.Lattice.Names.length : Int) then (some false) else (if 8 < (p.Sites.length : Int) then (some false) else (if 48 < (p.Vars.length : Int) then (some false) else (if 12 < (p.Blocks.length : Int) then (some false) else (if 4 < (p.Tasks.length : Int) then (some false) else (if 16384 < (p.Lattice.Below.length : Int) then (some false) else ((loop (lazarettoref08_parts_L1 p) 0).bind (fun e__ => match e__ with | (.inl e_7) => some e_7 | (.inr ()) => (loop (lazarettoref08_parts_L2 p) 0).bind (fun e__ => match e__ with | (.inl e_14) => some e_14 | (.inr ()) => (loop (lazarettoref08_parts_L3 p) 0).bind (fun e__ => match e__ with | (.inl e_22) => some e_22 | (.inr ()) => (loop (lazarettoref08_parts_L4 p) 0).bind (fun e__ => match e__ with | (.inl e_28) => some e_28 | (.inr ()) => (loop (lazarettoref08_parts_L5 p) 0).bind (fun e__ => match e__ with | (.inl e_36) => some e_36 | (.inr ()) => some true)))))))))))
def lazarettoref08_tasks_L2 (x_4 : api_Task) : Nat → Option ((Nat) ⊕ (Bool ⊕ Unit))
  | k_6 => if (k_6 : Int) < (x_4.Budget.length : Int) then ((x_4.Budget[k_6]?).bind fun x_9 => if x_9 < 0 then (some (.inr (.inl (false)))) else (if 4096 < x_9 then (some (.inr (.inl (false)))) else (some (.inl (k_6 + 1))))) else (some (.inr (.inr (()))))
def lazarettoref08_tasks_L1 (p : api_Program) : Nat → Option ((Nat) ⊕ (Bool ⊕ Unit))
  | i_1 => if (i_1 : Int) < (p.Tasks.length : Int) then ((p.Tasks[i_1]?).bind fun x_4 => if x_4.Every < 1 then (some (.inr (.inl (false)))) else (if 65536 < x_4.Every then (some (.inr (.inl (false)))) else (if x_4.Priority < 0 then (some (.inr (.inl (false)))) else (if 255 < x_4.Priority then (some (.inr (.inl (false)))) else (if (x_4.Budget.length : Int) = (p.Lattice.Names.length : Int) then ((lazarettoref07_Fits x_4.Body).bind fun r_5 => if r_5 = true then ((loop (lazarettoref08_tasks_L2 x_4) 0).bind (fun e__ => match e__ with | (.inl e_10) => some (.inr (.inl (e_10))) | (.inr ()) => some (.inl (i_1 + 1)))) else (some (.inr (.inl (false))))) else (some (.inr (.inl (false))))))))) else (some (.inr (.inr (()))))
def lazarettoref08_tasks (p : api_Program) : Option Bool :=
  (loop (lazarettoref08_tasks_L1 p) 0).bind (fun e__ => match e__ with | (.inl e_11) => some e_11 | (.inr ()) => some true)
def lazarettoref08_signed (n : Int) : Option Str :=
  if n < 0 then ((lazarettoref05_Digits (w64 (0 - n))).bind fun r_1 => need (r_1.length + 1 ≤ 281474976710656) (some (([45] : Str) ++ r_1))) else ((lazarettoref05_Digits n).bind fun r_3 => some r_3)
def lazarettoref08_typ (t : api_Type) : Option Str :=
  (idx [[], ([66, 79, 79, 76] : Str), ([73, 78, 84] : Str), ([68, 73, 78, 84] : Str), ([84, 73, 77, 69] : Str)] t.Kind).bind fun x_1 => if t.Len = 0 then (some x_1) else ((lazarettoref08_signed t.Low).bind fun r_2 => need (r_2.length + 6 ≤ 281474976710656) (need (r_2.length + 8 ≤ 281474976710656) ((lazarettoref08_signed (w64 ((w64 (t.Low + t.Len)) - 1))).bind fun r_5 => need (r_2.length + r_5.length + 8 ≤ 281474976710656) (need (r_2.length + r_5.length + 13 ≤ 281474976710656) (need (r_2.length + r_5.length + x_1.length + 13 ≤ 281474976710656) (some (((((([65, 82, 82, 65, 89, 91] : Str) ++ r_2) ++ ([46, 46] : Str)) ++ r_5) ++ ([93, 32, 79, 70, 32] : Str)) ++ x_1)))))))
def lazarettoref08_one (p : api_Program) (v : api_Var) : Option Str :=
  (idx [([86, 65, 82, 32] : Str), ([73, 78, 80, 85, 84, 32] : Str), ([79, 85, 84, 80, 85, 84, 32] : Str)] v.Mode).bind fun x_1 => need (x_1.length + v.Name.length ≤ 281474976710656) (need (x_1.length + v.Name.length + 2 ≤ 281474976710656) ((lazarettoref08_typ v.Type_).bind fun r_4 => need (x_1.length + v.Name.length + r_4.length + 2 ≤ 281474976710656) (if 0 ≤ v.Label then ((idx p.Lattice.Names v.Label).bind fun x_6 => need (x_6.length + 3 ≤ 281474976710656) (need (x_1.length + v.Name.length + r_4.length + x_6.length + 5 ≤ 281474976710656) (if v.Mode = 2 then (if v.Type_.Kind = 1 then (if v.Safe = 1 then (need (x_1.length + v.Name.length + r_4.length + x_6.length + 13 ≤ 281474976710656) (need (x_1.length + v.Name.length + r_4.length + x_6.length + 15 ≤ 281474976710656) (some ((((((x_1 ++ v.Name) ++ ([58, 32] : Str)) ++ r_4) ++ (([32, 64, 32] : Str) ++ x_6)) ++ ([32, 58, 61, 32, 84, 82, 85, 69] : Str)) ++ ([59, 10] : Str))))) else (need (x_1.length + v.Name.length + r_4.length + x_6.length + 14 ≤ 281474976710656) (need (x_1.length + v.Name.length + r_4.length + x_6.length + 16 ≤ 281474976710656) (some ((((((x_1 ++ v.Name) ++ ([58, 32] : Str)) ++ r_4) ++ (([32, 64, 32] : Str) ++ x_6)) ++ ([32, 58, 61, 32, 70, 65, 76, 83, 69] : Str)) ++ ([59, 10] : Str)))))) else ((lazarettoref08_signed v.Safe).bind fun r_13 => need (r_13.length + 4 ≤ 281474976710656) (need (x_1.length + v.Name.length + r_4.length + x_6.length + r_13.length + 9 ≤ 281474976710656) (need (x_1.length + v.Name.length + r_4.length + x_6.length + r_13.length + 11 ≤ 281474976710656) (some ((((((x_1 ++ v.Name) ++ ([58, 32] : Str)) ++ r_4) ++ (([32, 64, 32] : Str) ++ x_6)) ++ (([32, 58, 61, 32] : Str) ++ r_13)) ++ ([59, 10] : Str))))))) else (need (x_1.length + v.Name.length + r_4.length + x_6.length + 7 ≤ 281474976710656) (some (((((x_1 ++ v.Name) ++ ([58, 32] : Str)) ++ r_4) ++ (([32, 64, 32] : Str) ++ x_6)) ++ ([59, 10] : Str))))))) else (if v.Mode = 2 then (if v.Type_.Kind = 1 then (if v.Safe = 1 then (need (x_1.length + v.Name.length + r_4.length + 10 ≤ 281474976710656) (need (x_1.length + v.Name.length + r_4.length + 12 ≤ 281474976710656) (some (((((x_1 ++ v.Name) ++ ([58, 32] : Str)) ++ r_4) ++ ([32, 58, 61, 32, 84, 82, 85, 69] : Str)) ++ ([59, 10] : Str))))) else (need (x_1.length + v.Name.length + r_4.length + 11 ≤ 281474976710656) (need (x_1.length + v.Name.length + r_4.length + 13 ≤ 281474976710656) (some (((((x_1 ++ v.Name) ++ ([58, 32] : Str)) ++ r_4) ++ ([32, 58, 61, 32, 70, 65, 76, 83, 69] : Str)) ++ ([59, 10] : Str)))))) else ((lazarettoref08_signed v.Safe).bind fun r_22 => need (r_22.length + 4 ≤ 281474976710656) (need (x_1.length + v.Name.length + r_4.length + r_22.length + 6 ≤ 281474976710656) (need (x_1.length + v.Name.length + r_4.length + r_22.length + 8 ≤ 281474976710656) (some (((((x_1 ++ v.Name) ++ ([58, 32] : Str)) ++ r_4) ++ (([32, 58, 61, 32] : Str) ++ r_22)) ++ ([59, 10] : Str))))))) else (need (x_1.length + v.Name.length + r_4.length + 4 ≤ 281474976710656) (some ((((x_1 ++ v.Name) ++ ([58, 32] : Str)) ++ r_4) ++ ([59, 10] : Str))))))))
def lazarettoref08_task_L1 (p : api_Program) (t : api_Task) : (Str × Nat) → Option ((Str × Nat) ⊕ (Str))
  | (s_6, i_7) => if (i_7 : Int) < (t.Budget.length : Int) then (if (i_7 : Int) = 0 then (need (s_6.length + 8 ≤ 281474976710656) ((p.Lattice.Names[i_7]?).bind fun x_11 => need (x_11.length + 1 ≤ 281474976710656) ((t.Budget[i_7]?).bind fun x_13 => (lazarettoref05_Digits x_13).bind fun r_14 => need (x_11.length + r_14.length + 1 ≤ 281474976710656) (need (s_6.length + x_11.length + r_14.length + 9 ≤ 281474976710656) (some (.inl (((s_6 ++ ([32, 66, 85, 68, 71, 69, 84, 32] : Str)) ++ ((x_11 ++ ([32] : Str)) ++ r_14)), (i_7 + 1)))))))) else (need (s_6.length + 2 ≤ 281474976710656) ((p.Lattice.Names[i_7]?).bind fun x_18 => need (x_18.length + 1 ≤ 281474976710656) ((t.Budget[i_7]?).bind fun x_20 => (lazarettoref05_Digits x_20).bind fun r_21 => need (x_18.length + r_21.length + 1 ≤ 281474976710656) (need (s_6.length + x_18.length + r_21.length + 3 ≤ 281474976710656) (some (.inl (((s_6 ++ ([44, 32] : Str)) ++ ((x_18 ++ ([32] : Str)) ++ r_21)), (i_7 + 1))))))))) else (some (.inr (s_6)))
def lazarettoref08_task (p : api_Program) (t : api_Task) : Option Str :=
  (lazarettoref05_Digits t.Every).bind fun r_1 => need (r_1.length + 11 ≤ 281474976710656) (need (r_1.length + 21 ≤ 281474976710656) ((lazarettoref05_Digits t.Priority).bind fun r_4 => need (r_1.length + r_4.length + 21 ≤ 281474976710656) ((loop (lazarettoref08_task_L1 p t) ((((([84, 65, 83, 75, 32, 69, 86, 69, 82, 89, 32] : Str) ++ r_1) ++ ([32, 80, 82, 73, 79, 82, 73, 84, 89, 32] : Str)) ++ r_4), 0)).bind (fun e_8 => need (e_8.length + 4 ≤ 281474976710656) ((lazarettoref07_Text t.Body).bind fun r_26 => if r_26 = [] then (need (e_8.length + 9 ≤ 281474976710656) (some ((e_8 ++ ([32, 68, 79, 32] : Str)) ++ ([69, 78, 68, 59, 10] : Str)))) else (need (r_26.length + 1 ≤ 281474976710656) (need (e_8.length + r_26.length + 5 ≤ 281474976710656) (need (e_8.length + r_26.length + 10 ≤ 281474976710656) (some (((e_8 ++ ([32, 68, 79, 32] : Str)) ++ (r_26 ++ ([32] : Str))) ++ ([69, 78, 68, 59, 10] : Str)))))))))))
def lazarettoref08_text_L6 (p : api_Program) : (Str × Nat) → Option ((Str × Nat) ⊕ (Str))
  | (s_60, i_61) => if (i_61 : Int) < (p.Tasks.length : Int) then ((p.Tasks[i_61]?).bind fun x_64 => (lazarettoref08_task p x_64).bind fun r_65 => need (s_60.length + r_65.length ≤ 281474976710656) (some (.inl ((s_60 ++ r_65), (i_61 + 1))))) else (some (.inr (s_60)))
def lazarettoref08_text_L5 (p : api_Program) : (Str × Nat) → Option ((Str × Nat) ⊕ (Str))
  | (s_46, i_47) => if (i_47 : Int) < (p.Blocks.length : Int) then ((p.Blocks[i_47]?).bind fun x_50 => need (x_50.Name.length + 6 ≤ 281474976710656) (need (x_50.Name.length + 8 ≤ 281474976710656) (need (x_50.Name.length + x_50.Kind.length + 8 ≤ 281474976710656) (need (x_50.Name.length + x_50.Kind.length + 11 ≤ 281474976710656) ((idx p.Lattice.Names x_50.Label).bind fun x_55 => need (x_50.Name.length + x_50.Kind.length + x_55.length + 11 ≤ 281474976710656) (need (x_50.Name.length + x_50.Kind.length + x_55.length + 13 ≤ 281474976710656) (need (s_46.length + x_50.Name.length + x_50.Kind.length + x_55.length + 13 ≤ 281474976710656) (some (.inl ((s_46 ++ ((((((([66, 76, 79, 67, 75, 32] : Str) ++ x_50.Name) ++ ([58, 32] : Str)) ++ x_50.Kind) ++ ([32, 64, 32] : Str)) ++ x_55) ++ ([59, 10] : Str))), (i_47 + 1))))))))))) else (some (.inr (s_46)))
def lazarettoref08_text_L4 (p : api_Program) : (Str × Nat) → Option ((Str × Nat) ⊕ (Str))
  | (s_38, i_39) => if (i_39 : Int) < (p.Vars.length : Int) then ((p.Vars[i_39]?).bind fun x_42 => (lazarettoref08_one p x_42).bind fun r_43 => need (s_38.length + r_43.length ≤ 281474976710656) (some (.inl ((s_38 ++ r_43), (i_39 + 1))))) else (some (.inr (s_38)))
def lazarettoref08_text_L3 (p : api_Program) : (Str × Nat) → Option ((Str × Nat) ⊕ (Str))
  | (s_23, i_24) => if (i_24 : Int) < (p.Sites.length : Int) then ((p.Sites[i_24]?).bind fun x_27 => need (x_27.Name.length + 5 ≤ 281474976710656) (need (x_27.Name.length + 7 ≤ 281474976710656) ((idx p.Lattice.Names x_27.From).bind fun x_30 => need (x_27.Name.length + x_30.length + 7 ≤ 281474976710656) (need (x_27.Name.length + x_30.length + 11 ≤ 281474976710656) ((idx p.Lattice.Names x_27.To).bind fun x_33 => need (x_27.Name.length + x_30.length + x_33.length + 11 ≤ 281474976710656) (need (x_27.Name.length + x_30.length + x_33.length + 13 ≤ 281474976710656) (need (s_23.length + x_27.Name.length + x_30.length + x_33.length + 13 ≤ 281474976710656) (some (.inl ((s_23 ++ ((((((([83, 73, 84, 69, 32] : Str) ++ x_27.Name) ++ ([58, 32] : Str)) ++ x_30) ++ ([32, 45, 62, 32] : Str)) ++ x_33) ++ ([59, 10] : Str))), (i_24 + 1))))))))))) else (some (.inr (s_23)))
def lazarettoref08_text_L2 (p : api_Program) : (Str × Nat) → Option ((Str × Nat) ⊕ (Str))
  | (s_10, i_11) => if (i_11 : Int) < (p.Lattice.Below.length : Int) then ((p.Lattice.Below[i_11]?).bind fun x_14 => (idx p.Lattice.Names x_14.a0).bind fun x_15 => need (x_15.length + 6 ≤ 281474976710656) (need (x_15.length + 9 ≤ 281474976710656) ((idx p.Lattice.Names x_14.a1).bind fun x_18 => need (x_15.length + x_18.length + 9 ≤ 281474976710656) (need (x_15.length + x_18.length + 11 ≤ 281474976710656) (need (s_10.length + x_15.length + x_18.length + 11 ≤ 281474976710656) (some (.inl ((s_10 ++ ((((([76, 65, 66, 69, 76, 32] : Str) ++ x_15) ++ ([32, 60, 32] : Str)) ++ x_18) ++ ([59, 10] : Str))), (i_11 + 1))))))))) else (some (.inr (s_10)))
def lazarettoref08_text_L1 (p : api_Program) : (Str × Nat) → Option ((Str × Nat) ⊕ (Str))
  | (s_1, i_2) => if (i_2 : Int) < (p.Lattice.Names.length : Int) then ((p.Lattice.Names[i_2]?).bind fun x_5 => need (x_5.length + 6 ≤ 281474976710656) (need (x_5.length + 8 ≤ 281474976710656) (need (s_1.length + x_5.length + 8 ≤ 281474976710656) (some (.inl ((s_1 ++ ((([76, 65, 66, 69, 76, 32] : Str) ++ x_5) ++ ([59, 10] : Str))), (i_2 + 1))))))) else (some (.inr (s_1)))
def lazarettoref08_text (p : api_Program) : Option Str :=
  (loop (lazarettoref08_text_L1 p) ([], 0)).bind (fun e_3 => (loop (lazarettoref08_text_L2 p) (e_3, 0)).bind (fun e_12 => (loop (lazarettoref08_text_L3 p) (e_12, 0)).bind (fun e_25 => (loop (lazarettoref08_text_L4 p) (e_25, 0)).bind (fun e_40 => (loop (lazarettoref08_text_L5 p) (e_40, 0)).bind (fun e_48 => (loop (lazarettoref08_text_L6 p) (e_48, 0)).bind (fun e_62 => some e_62))))))
def lazarettoref08_Check (p : api_Program) : Option Bool :=
  (lazarettoref08_parts p).bind fun r_1 => if r_1 = true then ((lazarettoref08_tasks p).bind fun r_2 => if r_2 = true then ((lazarettoref08_text p).bind fun r_3 => some (decide ((r_3.length : Int) ≤ 16384))) else (some false)) else (some false)
end
theorem lazarettolaw08_Few_ok {p : api_Program} {r : Int} (h : lazarettolaw08_Few p = some r) :
    Pu Tryz.prog 17 [.agg (e_api_Program p)] (.one (.int .i64 r)) := by
  have F := trivial; have R := trivial
  refine pA Tryz.func17 ?_
  simp only [Tryz.f17]
  unfold lazarettolaw08_Few at h
  refine tt ?_
  repeat (first | (with_reducible intro _) | (with_reducible refine and_i ?_ ?_; exact ss))
  refine fi h F (fun h _ F => ?_) (fun h _ F => ?_)
  cases h; exact fin
  refine tt ?_
  repeat (first | (with_reducible intro _) | (with_reducible refine and_i ?_ ?_; exact ss))
  refine fi h F (fun h _ F => ?_) (fun h _ F => ?_)
  cases h; exact fin
  refine bi h fun e_2 h he_2 => ?_
  refine tt ?_
  refine lE (fun (s__ : Nat) (a__ : Unit) => match s__, a__ with | i_1, _ => ⟨[(1, .one (.ref 0 0 0 0)), (4, .one (.int .i64 (i_1 : Int)))], [.cells 0 6 [[.sl (p.Lattice.Names.map eS), .sl (p.Lattice.Below.map (eA2 eI)), .sl (p.Sites.map e_api_Site), .sl (p.Vars.map e_api_Var), .sl (p.Blocks.map e_api_Block), .sl (p.Tasks.map e_api_Task)]]]⟩) (fun (e__ : Int ⊕ Unit) (b__ : Unit) => match e__, b__ with | (.inl e_6), _ => ⟨[], []⟩ | (.inr ()), _ => ⟨[], [.cells 0 6 [[.sl (p.Lattice.Names.map eS), .sl (p.Lattice.Below.map (eA2 eI)), .sl (p.Sites.map e_api_Site), .sl (p.Vars.map e_api_Var), .sl (p.Blocks.map e_api_Block), .sl (p.Tasks.map e_api_Task)]]]⟩) (fun (e__ : Int ⊕ Unit) => match e__ with | (.inl _) => none | (.inr _) => some 0) () he_2 ?_ ?_
  intro i3 b3 hi3
  rcases e_2 with e_case | ⟨⟩
  cases hi3
  obtain rfl := Option.some.inj hi3
  obtain ⟨⟩ := b3
  dsimp only at h ⊢
  cases h; exact fin
  intro af3 m3 i_1 a3 o3 hf3 ho3 ih3
  obtain ⟨⟩ := a3
  dsimp only [lazarettolaw08_Few_L1] at hf3 ⊢
  refine tt ?_
  repeat (first | (with_reducible intro _) | (with_reducible refine and_i ?_ ?_; exact ss))
  refine fl hf3 F (fun hf3 _ F => ?_) (fun hf3 _ F => ?_)
  refine bx hf3 F fun x_4 hf3 hx_4 F => ?_
  refine tt ?_
  repeat (first | (with_reducible intro _) | (with_reducible refine and_i ?_ ?_; exact ss))
  refine fi hf3 F (fun hf3 _ F => ?_) (fun hf3 _ F => ?_)
  cases hf3
  obtain rfl := sr ho3
  try dsimp only at h
  cases h
  exact fin
  refine bi hf3 fun r_5 hf3 hr_5 => ?_
  refine tt ?_
  repeat (first | (with_reducible intro _) | (with_reducible refine and_i ?_ ?_; exact ss))
  refine cS (lazarettolaw07_Few_ok hr_5) ?_
  refine fi hf3 F (fun hf3 _ F => ?_) (fun hf3 _ F => ?_)
  cases hf3
  obtain rfl := sr ho3
  try dsimp only at h
  cases h
  exact fin
  cases hf3
  refine tt ?_
  refine wn i_1 F fun F => ?_
  exact bk ih3 ho3 ()
  cases hf3
  refine tt ?_
  exact xt ho3 af3 ()
theorem lazarettoref08_find_ok {l : List Str} {name : Str} {r : Int} (h : lazarettoref08_find l name = some r) :
    Pu Tryz.prog 72 [.one (.sl (l.map eS)), .one (.str name)] (.one (.int .i64 r)) := by
  have F := trivial; have R := trivial
  refine pA Tryz.func72 ?_
  simp only [Tryz.f72]
  unfold lazarettoref08_find at h
  refine bi h fun e_2 h he_2 => ?_
  refine tt ?_
  refine lE (fun (s__ : Nat) (a__ : Unit) => match s__, a__ with | i_1, _ => ⟨[(0, .one (.sl (l.map eS))), (1, .one (.str name)), (5, .one (.int .i64 (i_1 : Int)))], []⟩) (fun (e__ : Int ⊕ Unit) (b__ : Unit) => match e__, b__ with | (.inl e_5), _ => ⟨[], []⟩ | (.inr ()), _ => ⟨[], []⟩) (fun (e__ : Int ⊕ Unit) => match e__ with | (.inl _) => none | (.inr _) => some 0) () he_2 ?_ ?_
  intro i3 b3 hi3
  rcases e_2 with e_case | ⟨⟩
  cases hi3
  obtain rfl := Option.some.inj hi3
  obtain ⟨⟩ := b3
  dsimp only at h ⊢
  cases h; exact fin
  intro af3 m3 i_1 a3 o3 hf3 ho3 ih3
  obtain ⟨⟩ := a3
  dsimp only [lazarettoref08_find_L1] at hf3 ⊢
  refine tt ?_
  repeat (first | (with_reducible intro _) | (with_reducible refine and_i ?_ ?_; exact ss))
  refine fl hf3 F (fun hf3 _ F => ?_) (fun hf3 _ F => ?_)
  refine bx hf3 F fun x_4 hf3 hx_4 F => ?_
  refine tt ?_
  repeat (first | (with_reducible intro _) | (with_reducible refine and_i ?_ ?_; exact ss))
  refine fi hf3 F (fun hf3 _ F => ?_) (fun hf3 _ F => ?_)
  cases hf3
  obtain rfl := sr ho3
  try dsimp only at h
  cases h
  exact fin
  cases hf3
  refine tt ?_
  refine wn i_1 F fun F => ?_
  exact bk ih3 ho3 ()
  cases hf3
  refine tt ?_
  exact xt ho3 af3 ()
theorem lazarettoref01_Is_ok {l : api_Lattice} {a : Int} {r : Bool} (h : lazarettoref01_Is l a = some r) :
    Pu Tryz.prog 111 [.agg (e_api_Lattice l), .one (.int .i64 a)] (.one (.bool r)) := by
  have F := trivial; have R := trivial
  refine pA Tryz.func111 ?_
  simp only [Tryz.f111]
  unfold lazarettoref01_Is at h
  refine fi h F (fun h _ F => ?_) (fun h _ F => ?_)
  cases h; exact fin
  cases h; exact fin
theorem lazarettoref08_label_ok {p : api_Program} {n : Int} {r : Bool} (h : lazarettoref08_label p n = some r) :
    Pu Tryz.prog 73 [.agg (e_api_Program p), .one (.int .i64 n)] (.one (.bool r)) := by
  have F := trivial; have R := trivial
  refine pA Tryz.func73 ?_
  simp only [Tryz.f73]
  unfold lazarettoref08_label at h
  refine bi h fun r_1 h hr_1 => ?_
  refine tt ?_
  repeat (first | (with_reducible intro _) | (with_reducible refine and_i ?_ ?_; exact ss))
  refine cS (lazarettoref01_Is_ok hr_1) ?_
  cases h; exact fin
theorem lazarettoref03_Bits_ok {kind : Int} {r : Int} (h : lazarettoref03_Bits kind = some r) :
    Pu Tryz.prog 43 [.one (.int .i64 kind)] (.one (.int .i64 r)) := by
  have F := trivial; have R := trivial
  refine pA Tryz.func43 ?_
  simp only [Tryz.f43]
  unfold lazarettoref03_Bits at h
  refine fi h F (fun h _ F => ?_) (fun h _ F => ?_)
  cases h; exact fin
  refine fi h F (fun h _ F => ?_) (fun h _ F => ?_)
  cases h; exact fin
  refine tt ?_
  refine fi h F (fun h _ F => ?_) (fun h _ F => ?_)
  cases h; exact fin
  refine fi h F (fun h _ F => ?_) (fun h _ F => ?_)
  cases h; exact fin
  cases h; exact fin
theorem lazarettoref04_Check_ok {t : api_Type} {r : Int} (h : lazarettoref04_Check t = some r) :
    Pu Tryz.prog 30 [.agg (e_api_Type t)] (.one (.int .i64 r)) := by
  have F := trivial; have R := trivial
  refine pA Tryz.func30 ?_
  simp only [Tryz.f30]
  unfold lazarettoref04_Check at h
  refine bi h fun r_1 h hr_1 => ?_
  refine tt ?_
  repeat (first | (with_reducible intro _) | (with_reducible refine and_i ?_ ?_; exact ss))
  refine cS (lazarettoref03_Bits_ok hr_1) ?_
  refine fi h F (fun h _ F => ?_) (fun h _ F => ?_)
  cases h; exact fin
  refine tt ?_
  refine fi h F (fun h _ F => ?_) (fun h _ F => ?_)
  cases h; exact fin
  refine fi h F (fun h _ F => ?_) (fun h _ F => ?_)
  cases h; exact fin
  refine tt ?_
  refine fi h F (fun h _ F => ?_) (fun h _ F => ?_)
  refine fi h F (fun h _ F => ?_) (fun h _ F => ?_)
  refine tt ?_
  refine fi h F (fun h _ F => ?_) (fun h _ F => ?_)
  cases h; exact fin
  refine fi h F (fun h _ F => ?_) (fun h _ F => ?_)
  cases h; exact fin
  cases h; exact fin
  cases h; exact fin
  refine tt ?_
  refine fi h F (fun h _ F => ?_) (fun h _ F => ?_)
  cases h; exact fin
  refine fi h F (fun h _ F => ?_) (fun h _ F => ?_)
  cases h; exact fin
  cases h; exact fin
theorem lazarettoref03_half_ok {kind : Int} {r : Int} (h : lazarettoref03_half kind = some r) :
    Pu Tryz.prog 55 [.one (.int .i64 kind)] (.one (.int .i64 r)) := by
  have F := trivial; have R := trivial
  refine pA Tryz.func55 ?_
  simp only [Tryz.f55]
  unfold lazarettoref03_half at h
  refine fi h F (fun h _ F => ?_) (fun h _ F => ?_)
  cases h; exact fin
  cases h; exact fin
theorem lazarettoref03_Valid_ok {kind : Int} {n : Int} {r : Bool} (h : lazarettoref03_Valid kind n = some r) :
    Pu Tryz.prog 31 [.one (.int .i64 kind), .one (.int .i64 n)] (.one (.bool r)) := by
  have F := trivial; have R := trivial
  refine pA Tryz.func31 ?_
  simp only [Tryz.f31]
  unfold lazarettoref03_Valid at h
  refine fi h F (fun h _ F => ?_) (fun h _ F => ?_)
  refine fi h F (fun h _ F => ?_) (fun h _ F => ?_)
  cases h; exact fin
  cases h; exact fin
  refine bi h fun r_1 h hr_1 => ?_
  refine tt ?_
  repeat (first | (with_reducible intro _) | (with_reducible refine and_i ?_ ?_; exact ss))
  refine cS (lazarettoref03_Bits_ok hr_1) ?_
  refine fi h F (fun h _ F => ?_) (fun h _ F => ?_)
  refine bi h fun r_2 h hr_2 => ?_
  refine tt ?_
  repeat (first | (with_reducible intro _) | (with_reducible refine and_i ?_ ?_; exact ss))
  refine cS (lazarettoref03_half_ok hr_2) ?_
  refine fi h F (fun h _ F => ?_) (fun h _ F => ?_)
  refine bi h fun r_3 h hr_3 => ?_
  refine tt ?_
  repeat (first | (with_reducible intro _) | (with_reducible refine and_i ?_ ?_; exact ss))
  refine cS (lazarettoref03_half_ok hr_3) ?_
  cases h; exact fin
  cases h; exact fin
  cases h; exact fin
theorem lazarettoref08_variable_ok {p : api_Program} {v : api_Var} {r : Bool} (h : lazarettoref08_variable p v = some r) :
    Pu Tryz.prog 74 [.agg (e_api_Program p), .agg (e_api_Var v)] (.one (.bool r)) := by
  have F := trivial; have R := trivial
  refine pA Tryz.func74 ?_
  simp only [Tryz.f74]
  unfold lazarettoref08_variable at h
  refine bi h fun r_1 h hr_1 => ?_
  refine tt ?_
  repeat (first | (with_reducible intro _) | (with_reducible refine and_i ?_ ?_; exact ss))
  refine cS (lazarettoref05_Name_ok hr_1) ?_
  refine fv h F (fun h _ F => ?_) (fun h _ F => ?_)
  refine bi h fun r_2 h hr_2 => ?_
  refine tt ?_
  repeat (first | (with_reducible intro _) | (with_reducible refine and_i ?_ ?_; exact ss))
  refine cS (lazarettoref04_Check_ok hr_2) ?_
  refine fi h F (fun h _ F => ?_) (fun h _ F => ?_)
  refine fi h F (fun h _ F => ?_) (fun h _ F => ?_)
  refine tt ?_
  refine fi h F (fun h _ F => ?_) (fun h _ F => ?_)
  refine fi h F (fun h _ F => ?_) (fun h _ F => ?_)
  refine tt ?_
  refine fi h F (fun h _ F => ?_) (fun h _ F => ?_)
  cases h; exact fin
  cases h; exact fin
  refine bi h fun r_3 h hr_3 => ?_
  refine tt ?_
  repeat (first | (with_reducible intro _) | (with_reducible refine and_i ?_ ?_; exact ss))
  refine cS (lazarettoref08_label_ok hr_3) ?_
  refine fv h F (fun h _ F => ?_) (fun h _ F => ?_)
  refine tt ?_
  refine fi h F (fun h _ F => ?_) (fun h _ F => ?_)
  cases h; exact fin
  cases h; exact fin
  cases h; exact fin
  cases h; exact fin
  refine tt ?_
  refine fi h F (fun h _ F => ?_) (fun h _ F => ?_)
  refine fi h F (fun h _ F => ?_) (fun h _ F => ?_)
  refine bi h fun r_4 h hr_4 => ?_
  refine tt ?_
  repeat (first | (with_reducible intro _) | (with_reducible refine and_i ?_ ?_; exact ss))
  refine cS (lazarettoref08_label_ok hr_4) ?_
  refine fv h F (fun h _ F => ?_) (fun h _ F => ?_)
  cases h; exact fin
  cases h; exact fin
  cases h; exact fin
  refine fi h F (fun h _ F => ?_) (fun h _ F => ?_)
  refine bi h fun r_5 h hr_5 => ?_
  refine tt ?_
  repeat (first | (with_reducible intro _) | (with_reducible refine and_i ?_ ?_; exact ss))
  refine cS (lazarettoref08_label_ok hr_5) ?_
  refine fv h F (fun h _ F => ?_) (fun h _ F => ?_)
  refine tt ?_
  refine fi h F (fun h _ F => ?_) (fun h _ F => ?_)
  refine bi h fun r_6 h hr_6 => ?_
  refine tt ?_
  repeat (first | (with_reducible intro _) | (with_reducible refine and_i ?_ ?_; exact ss))
  refine cS (lazarettoref03_Valid_ok hr_6) ?_
  cases h; exact fin
  cases h; exact fin
  cases h; exact fin
  cases h; exact fin
  cases h; exact fin
  cases h; exact fin
theorem lazarettoref08_parts_ok {p : api_Program} {r : Bool} (h : lazarettoref08_parts p = some r) :
    Pu Tryz.prog 45 [.agg (e_api_Program p)] (.one (.bool r)) := by
  have F := trivial; have R := trivial
  refine pA Tryz.func45 ?_
  simp only [Tryz.f45]
  unfold lazarettoref08_parts at h
  refine tt ?_
  repeat (first | (with_reducible intro _) | (with_reducible refine and_i ?_ ?_; exact ss))
  refine fi h F (fun h _ F => ?_) (fun h _ F => ?_)
  cases h; exact fin
  refine tt ?_
  repeat (first | (with_reducible intro _) | (with_reducible refine and_i ?_ ?_; exact ss))
  refine fi h F (fun h _ F => ?_) (fun h _ F => ?_)
  cases h; exact fin
  refine tt ?_
  repeat (first | (with_reducible intro _) | (with_reducible refine and_i ?_ ?_; exact ss))
  refine fi h F (fun h _ F => ?_) (fun h _ F => ?_)
  cases h; exact fin
  refine tt ?_
  repeat (first | (with_reducible intro _) | (with_reducible refine and_i ?_ ?_; exact ss))
  refine fi h F (fun h _ F => ?_) (fun h _ F => ?_)
  cases h; exact fin
  refine tt ?_
  repeat (first | (with_reducible intro _) | (with_reducible refine and_i ?_ ?_; exact ss))
  refine fi h F (fun h _ F => ?_) (fun h _ F => ?_)
  cases h; exact fin
  refine tt ?_
  repeat (first | (with_reducible intro _) | (with_reducible refine and_i ?_ ?_; exact ss))
  refine fi h F (fun h _ F => ?_) (fun h _ F => ?_)
  cases h; exact fin
  refine bi h fun e_2 h he_2 => ?_
  refine tt ?_
  refine lE (fun (s__ : Nat) (a__ : Unit) => match s__, a__ with | i_1, _ => ⟨[(1, .one (.ref 0 0 0 0)), (3, .one (.int .i64 (i_1 : Int)))], [.cells 0 6 [[.sl (p.Lattice.Names.map eS), .sl (p.Lattice.Below.map (eA2 eI)), .sl (p.Sites.map e_api_Site), .sl (p.Vars.map e_api_Var), .sl (p.Blocks.map e_api_Block), .sl (p.Tasks.map e_api_Task)]]]⟩) (fun (e__ : Bool ⊕ Unit) (b__ : Unit) => match e__, b__ with | (.inl e_7), _ => ⟨[], []⟩ | (.inr ()), _ => ⟨[(1, .one (.ref 0 0 0 0))], [.cells 0 6 [[.sl (p.Lattice.Names.map eS), .sl (p.Lattice.Below.map (eA2 eI)), .sl (p.Sites.map e_api_Site), .sl (p.Vars.map e_api_Var), .sl (p.Blocks.map e_api_Block), .sl (p.Tasks.map e_api_Task)]]]⟩) (fun (e__ : Bool ⊕ Unit) => match e__ with | (.inl _) => none | (.inr _) => some 0) () he_2 ?_ ?_
  intro i3 b3 hi3
  rcases e_2 with e_case | ⟨⟩
  cases hi3
  obtain rfl := Option.some.inj hi3
  obtain ⟨⟩ := b3
  dsimp only at h ⊢
  refine bi h fun e_9 h he_9 => ?_
  refine tt ?_
  refine lE (fun (s__ : Nat) (a__ : Unit) => match s__, a__ with | i_8, _ => ⟨[(1, .one (.ref 0 0 0 0)), (4, .one (.int .i64 (i_8 : Int)))], [.cells 0 6 [[.sl (p.Lattice.Names.map eS), .sl (p.Lattice.Below.map (eA2 eI)), .sl (p.Sites.map e_api_Site), .sl (p.Vars.map e_api_Var), .sl (p.Blocks.map e_api_Block), .sl (p.Tasks.map e_api_Task)]]]⟩) (fun (e__ : Bool ⊕ Unit) (b__ : Unit) => match e__, b__ with | (.inl e_14), _ => ⟨[], []⟩ | (.inr ()), _ => ⟨[(1, .one (.ref 0 0 0 0))], [.cells 0 6 [[.sl (p.Lattice.Names.map eS), .sl (p.Lattice.Below.map (eA2 eI)), .sl (p.Sites.map e_api_Site), .sl (p.Vars.map e_api_Var), .sl (p.Blocks.map e_api_Block), .sl (p.Tasks.map e_api_Task)]]]⟩) (fun (e__ : Bool ⊕ Unit) => match e__ with | (.inl _) => none | (.inr _) => some 2) () he_9 ?_ ?_
  intro i10 b10 hi10
  rcases e_9 with e_case | ⟨⟩
  cases hi10
  obtain rfl := Option.some.inj hi10
  obtain ⟨⟩ := b10
  dsimp only at h ⊢
  refine bi h fun e_16 h he_16 => ?_
  refine tt ?_
  refine lE (fun (s__ : Nat) (a__ : Unit) => match s__, a__ with | i_15, _ => ⟨[(1, .one (.ref 0 0 0 0)), (5, .one (.int .i64 (i_15 : Int)))], [.cells 0 6 [[.sl (p.Lattice.Names.map eS), .sl (p.Lattice.Below.map (eA2 eI)), .sl (p.Sites.map e_api_Site), .sl (p.Vars.map e_api_Var), .sl (p.Blocks.map e_api_Block), .sl (p.Tasks.map e_api_Task)]]]⟩) (fun (e__ : Bool ⊕ Unit) (b__ : Unit) => match e__, b__ with | (.inl e_22), _ => ⟨[], []⟩ | (.inr ()), _ => ⟨[(1, .one (.ref 0 0 0 0))], [.cells 0 6 [[.sl (p.Lattice.Names.map eS), .sl (p.Lattice.Below.map (eA2 eI)), .sl (p.Sites.map e_api_Site), .sl (p.Vars.map e_api_Var), .sl (p.Blocks.map e_api_Block), .sl (p.Tasks.map e_api_Task)]]]⟩) (fun (e__ : Bool ⊕ Unit) => match e__ with | (.inl _) => none | (.inr _) => some 4) () he_16 ?_ ?_
  intro i17 b17 hi17
  rcases e_16 with e_case | ⟨⟩
  cases hi17
  obtain rfl := Option.some.inj hi17
  obtain ⟨⟩ := b17
  dsimp only at h ⊢
  refine bi h fun e_24 h he_24 => ?_
  refine tt ?_
  refine lE (fun (s__ : Nat) (a__ : Unit) => match s__, a__ with | i_23, _ => ⟨[(1, .one (.ref 0 0 0 0)), (6, .one (.int .i64 (i_23 : Int)))], [.cells 0 6 [[.sl (p.Lattice.Names.map eS), .sl (p.Lattice.Below.map (eA2 eI)), .sl (p.Sites.map e_api_Site), .sl (p.Vars.map e_api_Var), .sl (p.Blocks.map e_api_Block), .sl (p.Tasks.map e_api_Task)]]]⟩) (fun (e__ : Bool ⊕ Unit) (b__ : Unit) => match e__, b__ with | (.inl e_28), _ => ⟨[], []⟩ | (.inr ()), _ => ⟨[(1, .one (.ref 0 0 0 0))], [.cells 0 6 [[.sl (p.Lattice.Names.map eS), .sl (p.Lattice.Below.map (eA2 eI)), .sl (p.Sites.map e_api_Site), .sl (p.Vars.map e_api_Var), .sl (p.Blocks.map e_api_Block), .sl (p.Tasks.map e_api_Task)]]]⟩) (fun (e__ : Bool ⊕ Unit) => match e__ with | (.inl _) => none | (.inr _) => some 6) () he_24 ?_ ?_
  intro i25 b25 hi25
  rcases e_24 with e_case | ⟨⟩
  cases hi25
  obtain rfl := Option.some.inj hi25
  obtain ⟨⟩ := b25
  dsimp only at h ⊢
  refine bi h fun e_30 h he_30 => ?_
  refine tt ?_
  refine lE (fun (s__ : Nat) (a__ : Unit) => match s__, a__ with | i_29, _ => ⟨[(1, .one (.ref 0 0 0 0)), (7, .one (.int .i64 (i_29 : Int)))], [.cells 0 6 [[.sl (p.Lattice.Names.map eS), .sl (p.Lattice.Below.map (eA2 eI)), .sl (p.Sites.map e_api_Site), .sl (p.Vars.map e_api_Var), .sl (p.Blocks.map e_api_Block), .sl (p.Tasks.map e_api_Task)]]]⟩) (fun (e__ : Bool ⊕ Unit) (b__ : Unit) => match e__, b__ with | (.inl e_36), _ => ⟨[], []⟩ | (.inr ()), _ => ⟨[], [.cells 0 6 [[.sl (p.Lattice.Names.map eS), .sl (p.Lattice.Below.map (eA2 eI)), .sl (p.Sites.map e_api_Site), .sl (p.Vars.map e_api_Var), .sl (p.Blocks.map e_api_Block), .sl (p.Tasks.map e_api_Task)]]]⟩) (fun (e__ : Bool ⊕ Unit) => match e__ with | (.inl _) => none | (.inr _) => some 8) () he_30 ?_ ?_
  intro i31 b31 hi31
  rcases e_30 with e_case | ⟨⟩
  cases hi31
  obtain rfl := Option.some.inj hi31
  obtain ⟨⟩ := b31
  dsimp only at h ⊢
  cases h; exact fin
  intro af31 m31 i_29 a31 o31 hf31 ho31 ih31
  obtain ⟨⟩ := a31
  dsimp only [lazarettoref08_parts_L5] at hf31 ⊢
  refine tt ?_
  repeat (first | (with_reducible intro _) | (with_reducible refine and_i ?_ ?_; exact ss))
  refine fl hf31 F (fun hf31 _ F => ?_) (fun hf31 _ F => ?_)
  refine bx hf31 F fun x_32 hf31 hx_32 F => ?_
  refine bi hf31 fun r_33 hf31 hr_33 => ?_
  refine tt ?_
  repeat (first | (with_reducible intro _) | (with_reducible refine and_i ?_ ?_; exact ss))
  refine cS (lazarettoref05_Name_ok hr_33) ?_
  refine fv hf31 F (fun hf31 _ F => ?_) (fun hf31 _ F => ?_)
  refine bi hf31 fun r_34 hf31 hr_34 => ?_
  refine tt ?_
  repeat (first | (with_reducible intro _) | (with_reducible refine and_i ?_ ?_; exact ss))
  refine cS (lazarettoref05_Among_ok hr_34) ?_
  refine fv hf31 F (fun hf31 _ F => ?_) (fun hf31 _ F => ?_)
  refine bi hf31 fun r_35 hf31 hr_35 => ?_
  refine tt ?_
  repeat (first | (with_reducible intro _) | (with_reducible refine and_i ?_ ?_; exact ss))
  refine cS (lazarettoref08_label_ok hr_35) ?_
  refine fv hf31 F (fun hf31 _ F => ?_) (fun hf31 _ F => ?_)
  cases hf31
  refine tt ?_
  refine wn i_29 F fun F => ?_
  exact bk ih31 ho31 ()
  cases hf31
  obtain rfl := sr ho31
  try dsimp only at h
  cases h
  exact fin
  cases hf31
  obtain rfl := sr ho31
  try dsimp only at h
  cases h
  exact fin
  cases hf31
  obtain rfl := sr ho31
  try dsimp only at h
  cases h
  exact fin
  cases hf31
  refine tt ?_
  exact xt ho31 af31 ()
  intro af25 m25 i_23 a25 o25 hf25 ho25 ih25
  obtain ⟨⟩ := a25
  dsimp only [lazarettoref08_parts_L4] at hf25 ⊢
  refine tt ?_
  repeat (first | (with_reducible intro _) | (with_reducible refine and_i ?_ ?_; exact ss))
  refine fl hf25 F (fun hf25 _ F => ?_) (fun hf25 _ F => ?_)
  refine bx hf25 F fun x_26 hf25 hx_26 F => ?_
  refine bi hf25 fun r_27 hf25 hr_27 => ?_
  refine tt ?_
  repeat (first | (with_reducible intro _) | (with_reducible refine and_i ?_ ?_; exact ss))
  refine cD (lazarettoref08_variable_ok hr_27) ?_
  refine tt ?_
  repeat (first | (with_reducible intro _) | (with_reducible refine and_i ?_ ?_; exact ss))
  refine fv hf25 F (fun hf25 _ F => ?_) (fun hf25 _ F => ?_)
  cases hf25
  refine tt ?_
  refine wn i_23 F fun F => ?_
  exact bk ih25 ho25 ()
  cases hf25
  obtain rfl := sr ho25
  try dsimp only at h
  cases h
  exact fin
  cases hf25
  refine tt ?_
  exact xt ho25 af25 ()
  intro af17 m17 i_15 a17 o17 hf17 ho17 ih17
  obtain ⟨⟩ := a17
  dsimp only [lazarettoref08_parts_L3] at hf17 ⊢
  refine tt ?_
  repeat (first | (with_reducible intro _) | (with_reducible refine and_i ?_ ?_; exact ss))
  refine fl hf17 F (fun hf17 _ F => ?_) (fun hf17 _ F => ?_)
  refine bx hf17 F fun x_18 hf17 hx_18 F => ?_
  refine bi hf17 fun r_19 hf17 hr_19 => ?_
  refine tt ?_
  repeat (first | (with_reducible intro _) | (with_reducible refine and_i ?_ ?_; exact ss))
  refine cD (lazarettoref05_Name_ok hr_19) ?_
  refine tt ?_
  repeat (first | (with_reducible intro _) | (with_reducible refine and_i ?_ ?_; exact ss))
  refine fv hf17 F (fun hf17 _ F => ?_) (fun hf17 _ F => ?_)
  refine bi hf17 fun r_20 hf17 hr_20 => ?_
  refine tt ?_
  repeat (first | (with_reducible intro _) | (with_reducible refine and_i ?_ ?_; exact ss))
  refine cD (lazarettoref08_label_ok hr_20) ?_
  refine tt ?_
  repeat (first | (with_reducible intro _) | (with_reducible refine and_i ?_ ?_; exact ss))
  refine fv hf17 F (fun hf17 _ F => ?_) (fun hf17 _ F => ?_)
  refine bi hf17 fun r_21 hf17 hr_21 => ?_
  refine tt ?_
  repeat (first | (with_reducible intro _) | (with_reducible refine and_i ?_ ?_; exact ss))
  refine cD (lazarettoref08_label_ok hr_21) ?_
  refine tt ?_
  repeat (first | (with_reducible intro _) | (with_reducible refine and_i ?_ ?_; exact ss))
  refine fv hf17 F (fun hf17 _ F => ?_) (fun hf17 _ F => ?_)
  cases hf17
  refine tt ?_
  refine wn i_15 F fun F => ?_
  exact bk ih17 ho17 ()
  cases hf17
  obtain rfl := sr ho17
  try dsimp only at h
  cases h
  exact fin
  cases hf17
  obtain rfl := sr ho17
  try dsimp only at h
  cases h
  exact fin
  cases hf17
  obtain rfl := sr ho17
  try dsimp only at h
  cases h
  exact fin
  cases hf17
  refine tt ?_
  exact xt ho17 af17 ()
  intro af10 m10 i_8 a10 o10 hf10 ho10 ih10
  obtain ⟨⟩ := a10
  dsimp only [lazarettoref08_parts_L2] at hf10 ⊢
  refine tt ?_
  repeat (first | (with_reducible intro _) | (with_reducible refine and_i ?_ ?_; exact ss))
  refine fl hf10 F (fun hf10 _ F => ?_) (fun hf10 _ F => ?_)
  refine bx hf10 F fun x_11 hf10 hx_11 F => ?_
  refine bi hf10 fun r_12 hf10 hr_12 => ?_
  refine tt ?_
  repeat (first | (with_reducible intro _) | (with_reducible refine and_i ?_ ?_; exact ss))
  refine cD (lazarettoref08_label_ok hr_12) ?_
  refine tt ?_
  repeat (first | (with_reducible intro _) | (with_reducible refine and_i ?_ ?_; exact ss))
  refine fv hf10 F (fun hf10 _ F => ?_) (fun hf10 _ F => ?_)
  refine bi hf10 fun r_13 hf10 hr_13 => ?_
  refine tt ?_
  repeat (first | (with_reducible intro _) | (with_reducible refine and_i ?_ ?_; exact ss))
  refine cD (lazarettoref08_label_ok hr_13) ?_
  refine tt ?_
  repeat (first | (with_reducible intro _) | (with_reducible refine and_i ?_ ?_; exact ss))
  refine fv hf10 F (fun hf10 _ F => ?_) (fun hf10 _ F => ?_)
  cases hf10
  refine tt ?_
  refine wn i_8 F fun F => ?_
  exact bk ih10 ho10 ()
  cases hf10
  obtain rfl := sr ho10
  try dsimp only at h
  cases h
  exact fin
  cases hf10
  obtain rfl := sr ho10
  try dsimp only at h
  cases h
  exact fin
  cases hf10
  refine tt ?_
  exact xt ho10 af10 ()
  intro af3 m3 i_1 a3 o3 hf3 ho3 ih3
  obtain ⟨⟩ := a3
  dsimp only [lazarettoref08_parts_L1] at hf3 ⊢
  refine tt ?_
  repeat (first | (with_reducible intro _) | (with_reducible refine and_i ?_ ?_; exact ss))
  refine fl hf3 F (fun hf3 _ F => ?_) (fun hf3 _ F => ?_)
  refine bx hf3 F fun x_4 hf3 hx_4 F => ?_
  refine bi hf3 fun r_5 hf3 hr_5 => ?_
  refine tt ?_
  repeat (first | (with_reducible intro _) | (with_reducible refine and_i ?_ ?_; exact ss))
  refine cD (lazarettoref05_Name_ok hr_5) ?_
  refine tt ?_
  repeat (first | (with_reducible intro _) | (with_reducible refine and_i ?_ ?_; exact ss))
  refine fv hf3 F (fun hf3 _ F => ?_) (fun hf3 _ F => ?_)
  refine bi hf3 fun r_6 hf3 hr_6 => ?_
  refine tt ?_
  repeat (first | (with_reducible intro _) | (with_reducible refine and_i ?_ ?_; exact ss))
  refine cD (lazarettoref08_find_ok hr_6) ?_
  refine tt ?_
  repeat (first | (with_reducible intro _) | (with_reducible refine and_i ?_ ?_; exact ss))
  refine fi hf3 F (fun hf3 _ F => ?_) (fun hf3 _ F => ?_)
  cases hf3
  refine tt ?_
  refine wn i_1 F fun F => ?_
  exact bk ih3 ho3 ()
  cases hf3
  obtain rfl := sr ho3
  try dsimp only at h
  cases h
  exact fin
  cases hf3
  obtain rfl := sr ho3
  try dsimp only at h
  cases h
  exact fin
  cases hf3
  refine tt ?_
  exact xt ho3 af3 ()
theorem lazarettoref08_tasks_ok {p : api_Program} {r : Bool} (h : lazarettoref08_tasks p = some r) :
    Pu Tryz.prog 46 [.agg (e_api_Program p)] (.one (.bool r)) := by
  have F := trivial; have R := trivial
  refine pA Tryz.func46 ?_
  simp only [Tryz.f46]
  unfold lazarettoref08_tasks at h
  refine bi h fun e_2 h he_2 => ?_
  refine tt ?_
  refine lE (fun (s__ : Nat) (a__ : Unit) => match s__, a__ with | i_1, _ => ⟨[(1, .one (.ref 0 0 0 0)), (3, .one (.int .i64 (i_1 : Int)))], [.cells 0 6 [[.sl (p.Lattice.Names.map eS), .sl (p.Lattice.Below.map (eA2 eI)), .sl (p.Sites.map e_api_Site), .sl (p.Vars.map e_api_Var), .sl (p.Blocks.map e_api_Block), .sl (p.Tasks.map e_api_Task)]]]⟩) (fun (e__ : Bool ⊕ Unit) (b__ : Unit) => match e__, b__ with | (.inl e_11), _ => ⟨[], []⟩ | (.inr ()), _ => ⟨[], [.cells 0 6 [[.sl (p.Lattice.Names.map eS), .sl (p.Lattice.Below.map (eA2 eI)), .sl (p.Sites.map e_api_Site), .sl (p.Vars.map e_api_Var), .sl (p.Blocks.map e_api_Block), .sl (p.Tasks.map e_api_Task)]]]⟩) (fun (e__ : Bool ⊕ Unit) => match e__ with | (.inl _) => none | (.inr _) => some 0) () he_2 ?_ ?_
  intro i3 b3 hi3
  rcases e_2 with e_case | ⟨⟩
  cases hi3
  obtain rfl := Option.some.inj hi3
  obtain ⟨⟩ := b3
  dsimp only at h ⊢
  cases h; exact fin
  intro af3 m3 i_1 a3 o3 hf3 ho3 ih3
  obtain ⟨⟩ := a3
  dsimp only [lazarettoref08_tasks_L1] at hf3 ⊢
  refine tt ?_
  repeat (first | (with_reducible intro _) | (with_reducible refine and_i ?_ ?_; exact ss))
  refine fl hf3 F (fun hf3 _ F => ?_) (fun hf3 _ F => ?_)
  refine bx hf3 F fun x_4 hf3 hx_4 F => ?_
  refine tt ?_
  repeat (first | (with_reducible intro _) | (with_reducible refine and_i ?_ ?_; exact ss))
  refine fi hf3 F (fun hf3 _ F => ?_) (fun hf3 _ F => ?_)
  cases hf3
  obtain rfl := sr ho3
  try dsimp only at h
  cases h
  exact fin
  refine fi hf3 F (fun hf3 _ F => ?_) (fun hf3 _ F => ?_)
  cases hf3
  obtain rfl := sr ho3
  try dsimp only at h
  cases h
  exact fin
  refine tt ?_
  refine fi hf3 F (fun hf3 _ F => ?_) (fun hf3 _ F => ?_)
  cases hf3
  obtain rfl := sr ho3
  try dsimp only at h
  cases h
  exact fin
  refine fi hf3 F (fun hf3 _ F => ?_) (fun hf3 _ F => ?_)
  cases hf3
  obtain rfl := sr ho3
  try dsimp only at h
  cases h
  exact fin
  refine tt ?_
  repeat (first | (with_reducible intro _) | (with_reducible refine and_i ?_ ?_; exact ss))
  refine fi hf3 F (fun hf3 _ F => ?_) (fun hf3 _ F => ?_)
  refine bi hf3 fun r_5 hf3 hr_5 => ?_
  refine tt ?_
  repeat (first | (with_reducible intro _) | (with_reducible refine and_i ?_ ?_; exact ss))
  refine cS (lazarettoref07_Fits_ok hr_5) ?_
  refine fv hf3 F (fun hf3 _ F => ?_) (fun hf3 _ F => ?_)
  refine bi hf3 fun e_7 hf3 he_7 => ?_
  refine tt ?_
  refine lE (fun (s__ : Nat) (a__ : Unit) => match s__, a__ with | k_6, _ => ⟨[(1, .one (.ref 0 0 0 0)), (3, .one (.int .i64 (i_1 : Int))), (4, .one (.ref 1 0 0 0)), (5, .one (.int .i64 (k_6 : Int)))], [.cells 0 6 [[.sl (p.Lattice.Names.map eS), .sl (p.Lattice.Below.map (eA2 eI)), .sl (p.Sites.map e_api_Site), .sl (p.Vars.map e_api_Var), .sl (p.Blocks.map e_api_Block), .sl (p.Tasks.map e_api_Task)]], .cells 0 4 [[.int .i64 x_4.Every, .int .i64 x_4.Priority, .sl (x_4.Budget.map eI), .sl (x_4.Body.map e_api_Stmt)]]]⟩) (fun (e__ : Bool ⊕ Unit) (b__ : Unit) => match e__, b__ with | (.inl e_10), _ => ⟨[], []⟩ | (.inr ()), _ => ⟨[(1, .one (.ref 0 0 0 0)), (3, .one (.int .i64 (i_1 : Int)))], [.cells 0 6 [[.sl (p.Lattice.Names.map eS), .sl (p.Lattice.Below.map (eA2 eI)), .sl (p.Sites.map e_api_Site), .sl (p.Vars.map e_api_Var), .sl (p.Blocks.map e_api_Block), .sl (p.Tasks.map e_api_Task)]], .cells 0 4 [[.int .i64 x_4.Every, .int .i64 x_4.Priority, .sl (x_4.Budget.map eI), .sl (x_4.Body.map e_api_Stmt)]]]⟩) (fun (e__ : Bool ⊕ Unit) => match e__ with | (.inl _) => none | (.inr _) => some 2) () he_7 ?_ ?_
  intro i8 b8 hi8
  rcases e_7 with e_case | ⟨⟩
  cases hi8
  obtain rfl := Option.some.inj hi8
  obtain ⟨⟩ := b8
  dsimp only at hf3 ⊢
  cases hf3
  refine tt ?_
  refine wn i_1 F fun F => ?_
  exact bk ih3 ho3 ()
  intro af8 m8 k_6 a8 o8 hf8 ho8 ih8
  obtain ⟨⟩ := a8
  dsimp only [lazarettoref08_tasks_L2] at hf8 ⊢
  refine tt ?_
  repeat (first | (with_reducible intro _) | (with_reducible refine and_i ?_ ?_; exact ss))
  refine fl hf8 F (fun hf8 _ F => ?_) (fun hf8 _ F => ?_)
  refine bx hf8 F fun x_9 hf8 hx_9 F => ?_
  refine tt ?_
  repeat (first | (with_reducible intro _) | (with_reducible refine and_i ?_ ?_; exact ss))
  refine fi hf8 F (fun hf8 _ F => ?_) (fun hf8 _ F => ?_)
  cases hf8
  obtain rfl := sr ho8
  try dsimp only at hf3
  cases hf3
  obtain rfl := sr ho3
  try dsimp only at h
  cases h
  exact fin
  refine tt ?_
  repeat (first | (with_reducible intro _) | (with_reducible refine and_i ?_ ?_; exact ss))
  refine fi hf8 F (fun hf8 _ F => ?_) (fun hf8 _ F => ?_)
  cases hf8
  obtain rfl := sr ho8
  try dsimp only at hf3
  cases hf3
  obtain rfl := sr ho3
  try dsimp only at h
  cases h
  exact fin
  cases hf8
  refine tt ?_
  refine wn k_6 F fun F => ?_
  exact bk ih8 ho8 ()
  cases hf8
  refine tt ?_
  exact xt ho8 af8 ()
  cases hf3
  obtain rfl := sr ho3
  try dsimp only at h
  cases h
  exact fin
  cases hf3
  obtain rfl := sr ho3
  try dsimp only at h
  cases h
  exact fin
  cases hf3
  refine tt ?_
  exact xt ho3 af3 ()
theorem lazarettoref08_signed_ok {n : Int} {r : Str} (h : lazarettoref08_signed n = some r) :
    Pu Tryz.prog 114 [.one (.int .i64 n)] (.one (.str r)) := by
  have F := trivial; have R := trivial
  refine pA Tryz.func114 ?_
  simp only [Tryz.f114]
  unfold lazarettoref08_signed at h
  refine fi h F (fun h _ F => ?_) (fun h _ F => ?_)
  refine bi h fun r_1 h hr_1 => ?_
  refine tt ?_
  repeat (first | (with_reducible intro _) | (with_reducible refine and_i ?_ ?_; exact ss))
  refine cS (lazarettoref05_Digits_ok hr_1) ?_
  refine nd h F fun h F => ?_
  cases h; exact fin
  refine bi h fun r_3 h hr_3 => ?_
  refine tt ?_
  repeat (first | (with_reducible intro _) | (with_reducible refine and_i ?_ ?_; exact ss))
  refine cS (lazarettoref05_Digits_ok hr_3) ?_
  cases h; exact fin
theorem lazarettoref08_typ_ok {t : api_Type} {r : Str} (h : lazarettoref08_typ t = some r) :
    Pu Tryz.prog 113 [.agg (e_api_Type t)] (.one (.str r)) := by
  have F := trivial; have R := trivial
  refine pA Tryz.func113 ?_
  simp only [Tryz.f113]
  unfold lazarettoref08_typ at h
  refine by_ h F fun x_1 h hx_1 F => ?_
  refine ln F fun F => ?_
  have R := And.intro (show ([[.str []], [.str ([66, 79, 79, 76] : Str)], [.str ([73, 78, 84] : Str)], [.str ([68, 73, 78, 84] : Str)], [.str ([84, 73, 77, 69] : Str)]] : List (List C))[t.Kind.toNat]? = some [.str x_1] from q_map (f := eS) hx_1) R
  refine tt ?_
  repeat (first | (with_reducible intro _) | (with_reducible refine and_i ?_ ?_; exact ss))
  refine fi h F (fun h _ F => ?_) (fun h _ F => ?_)
  cases h; exact fin
  refine bi h fun r_2 h hr_2 => ?_
  refine tt ?_
  repeat (first | (with_reducible intro _) | (with_reducible refine and_i ?_ ?_; exact ss))
  refine cD (lazarettoref08_signed_ok hr_2) ?_
  refine nd h F fun h F => ?_
  refine nd h F fun h F => ?_
  refine bi h fun r_5 h hr_5 => ?_
  refine tt ?_
  repeat (first | (with_reducible intro _) | (with_reducible refine and_i ?_ ?_; exact ss))
  refine cD (lazarettoref08_signed_ok hr_5) ?_
  refine nd h F fun h F => ?_
  refine nd h F fun h F => ?_
  refine nd h F fun h F => ?_
  cases h; exact fin
theorem lazarettoref08_one_ok {p : api_Program} {v : api_Var} {r : Str} (h : lazarettoref08_one p v = some r) :
    Pu Tryz.prog 77 [.agg (e_api_Program p), .agg (e_api_Var v)] (.one (.str r)) := by
  have F := trivial; have R := trivial
  refine pA Tryz.func77 ?_
  simp only [Tryz.f77]
  unfold lazarettoref08_one at h
  refine by_ h F fun x_1 h hx_1 F => ?_
  refine ln F fun F => ?_
  have R := And.intro (show ([[.str ([86, 65, 82, 32] : Str)], [.str ([73, 78, 80, 85, 84, 32] : Str)], [.str ([79, 85, 84, 80, 85, 84, 32] : Str)]] : List (List C))[v.Mode.toNat]? = some [.str x_1] from q_map (f := eS) hx_1) R
  refine nd h F fun h F => ?_
  refine nd h F fun h F => ?_
  refine bi h fun r_4 h hr_4 => ?_
  refine tt ?_
  repeat (first | (with_reducible intro _) | (with_reducible refine and_i ?_ ?_; exact ss))
  refine cD (lazarettoref08_typ_ok hr_4) ?_
  refine nd h F fun h F => ?_
  refine tt ?_
  repeat (first | (with_reducible intro _) | (with_reducible refine and_i ?_ ?_; exact ss))
  refine fi h F (fun h _ F => ?_) (fun h _ F => ?_)
  refine by_ h F fun x_6 h hx_6 F => ?_
  refine nd h F fun h F => ?_
  refine nd h F fun h F => ?_
  refine tt ?_
  repeat (first | (with_reducible intro _) | (with_reducible refine and_i ?_ ?_; exact ss))
  refine fi h F (fun h _ F => ?_) (fun h _ F => ?_)
  refine fi h F (fun h _ F => ?_) (fun h _ F => ?_)
  refine tt ?_
  refine fi h F (fun h _ F => ?_) (fun h _ F => ?_)
  refine nd h F fun h F => ?_
  refine nd h F fun h F => ?_
  cases h; exact fin
  refine nd h F fun h F => ?_
  refine nd h F fun h F => ?_
  cases h; exact fin
  refine bi h fun r_13 h hr_13 => ?_
  refine tt ?_
  repeat (first | (with_reducible intro _) | (with_reducible refine and_i ?_ ?_; exact ss))
  refine cS (lazarettoref08_signed_ok hr_13) ?_
  refine nd h F fun h F => ?_
  refine nd h F fun h F => ?_
  refine nd h F fun h F => ?_
  cases h; exact fin
  refine nd h F fun h F => ?_
  cases h; exact fin
  refine fi h F (fun h _ F => ?_) (fun h _ F => ?_)
  refine tt ?_
  refine fi h F (fun h _ F => ?_) (fun h _ F => ?_)
  refine fi h F (fun h _ F => ?_) (fun h _ F => ?_)
  refine nd h F fun h F => ?_
  refine nd h F fun h F => ?_
  cases h; exact fin
  refine nd h F fun h F => ?_
  refine nd h F fun h F => ?_
  cases h; exact fin
  refine bi h fun r_22 h hr_22 => ?_
  refine tt ?_
  repeat (first | (with_reducible intro _) | (with_reducible refine and_i ?_ ?_; exact ss))
  refine cS (lazarettoref08_signed_ok hr_22) ?_
  refine nd h F fun h F => ?_
  refine nd h F fun h F => ?_
  refine nd h F fun h F => ?_
  cases h; exact fin
  refine nd h F fun h F => ?_
  cases h; exact fin
theorem lazarettoref08_task_ok {p : api_Program} {t : api_Task} {r : Str} (h : lazarettoref08_task p t = some r) :
    Pu Tryz.prog 78 [.agg (e_api_Program p), .agg (e_api_Task t)] (.one (.str r)) := by
  have F := trivial; have R := trivial
  refine pA Tryz.func78 ?_
  simp only [Tryz.f78]
  unfold lazarettoref08_task at h
  refine bi h fun r_1 h hr_1 => ?_
  refine tt ?_
  repeat (first | (with_reducible intro _) | (with_reducible refine and_i ?_ ?_; exact ss))
  refine cD (lazarettoref05_Digits_ok hr_1) ?_
  refine nd h F fun h F => ?_
  refine nd h F fun h F => ?_
  refine bi h fun r_4 h hr_4 => ?_
  refine tt ?_
  repeat (first | (with_reducible intro _) | (with_reducible refine and_i ?_ ?_; exact ss))
  refine cD (lazarettoref05_Digits_ok hr_4) ?_
  refine nd h F fun h F => ?_
  refine bi h fun e_8 h he_8 => ?_
  refine tt ?_
  repeat (first | (with_reducible intro _) | (with_reducible refine and_i ?_ ?_; exact ss))
  refine lE (fun (s__ : Str × Nat) (a__ : Unit) => match s__, a__ with | (s_6, i_7), _ => ⟨[(2, .one (.ref 0 0 0 0)), (3, .one (.ref 1 0 0 0)), (5, .one (.str s_6)), (6, .one (.int .i64 (i_7 : Int)))], [.cells 0 6 [[.sl (p.Lattice.Names.map eS), .sl (p.Lattice.Below.map (eA2 eI)), .sl (p.Sites.map e_api_Site), .sl (p.Vars.map e_api_Var), .sl (p.Blocks.map e_api_Block), .sl (p.Tasks.map e_api_Task)]], .cells 0 4 [[.int .i64 t.Every, .int .i64 t.Priority, .sl (t.Budget.map eI), .sl (t.Body.map e_api_Stmt)]]]⟩) (fun (e__ : Str) (b__ : Unit) => match e__, b__ with | e_8, _ => ⟨[(3, .one (.ref 1 0 0 0)), (5, .one (.str e_8))], [.cells 0 6 [[.sl (p.Lattice.Names.map eS), .sl (p.Lattice.Below.map (eA2 eI)), .sl (p.Sites.map e_api_Site), .sl (p.Vars.map e_api_Var), .sl (p.Blocks.map e_api_Block), .sl (p.Tasks.map e_api_Task)]], .cells 0 4 [[.int .i64 t.Every, .int .i64 t.Priority, .sl (t.Budget.map eI), .sl (t.Body.map e_api_Stmt)]]]⟩) (fun (_ : Str) => some 0) () he_8 ?_ ?_
  intro i9 b9 hi9
  obtain rfl := Option.some.inj hi9
  obtain ⟨⟩ := b9
  dsimp only at h ⊢
  refine nd h F fun h F => ?_
  refine bi h fun r_26 h hr_26 => ?_
  refine tt ?_
  repeat (first | (with_reducible intro _) | (with_reducible refine and_i ?_ ?_; exact ss))
  refine cS (lazarettoref07_Text_ok hr_26) ?_
  refine fi h F (fun h _ F => ?_) (fun h _ F => ?_)
  refine nd h F fun h F => ?_
  cases h; exact fin
  refine nd h F fun h F => ?_
  refine nd h F fun h F => ?_
  refine nd h F fun h F => ?_
  cases h; exact fin
  intro af9 m9 s9 a9 o9 hf9 ho9 ih9
  obtain ⟨s_6, i_7⟩ := s9
  obtain ⟨⟩ := a9
  dsimp only [lazarettoref08_task_L1] at hf9 ⊢
  refine tt ?_
  repeat (first | (with_reducible intro _) | (with_reducible refine and_i ?_ ?_; exact ss))
  refine fl hf9 F (fun hf9 _ F => ?_) (fun hf9 _ F => ?_)
  refine fi hf9 F (fun hf9 _ F => ?_) (fun hf9 _ F => ?_)
  refine nd hf9 F fun hf9 F => ?_
  refine bx hf9 F fun x_11 hf9 hx_11 F => ?_
  refine nd hf9 F fun hf9 F => ?_
  refine bx hf9 F fun x_13 hf9 hx_13 F => ?_
  refine bi hf9 fun r_14 hf9 hr_14 => ?_
  refine tt ?_
  repeat (first | (with_reducible intro _) | (with_reducible refine and_i ?_ ?_; exact ss))
  refine cD (lazarettoref05_Digits_ok hr_14) ?_
  refine nd hf9 F fun hf9 F => ?_
  refine nd hf9 F fun hf9 F => ?_
  cases hf9
  refine tt ?_
  repeat (first | (with_reducible intro _) | (with_reducible refine and_i ?_ ?_; exact ss))
  refine wn i_7 F fun F => ?_
  exact bk ih9 ho9 ()
  refine nd hf9 F fun hf9 F => ?_
  refine bx hf9 F fun x_18 hf9 hx_18 F => ?_
  refine nd hf9 F fun hf9 F => ?_
  refine bx hf9 F fun x_20 hf9 hx_20 F => ?_
  refine bi hf9 fun r_21 hf9 hr_21 => ?_
  refine tt ?_
  repeat (first | (with_reducible intro _) | (with_reducible refine and_i ?_ ?_; exact ss))
  refine cD (lazarettoref05_Digits_ok hr_21) ?_
  refine nd hf9 F fun hf9 F => ?_
  refine nd hf9 F fun hf9 F => ?_
  cases hf9
  refine tt ?_
  repeat (first | (with_reducible intro _) | (with_reducible refine and_i ?_ ?_; exact ss))
  refine wn i_7 F fun F => ?_
  exact bk ih9 ho9 ()
  cases hf9
  refine tt ?_
  exact xt ho9 af9 ()
theorem lazarettoref08_text_ok {p : api_Program} {r : Str} (h : lazarettoref08_text p = some r) :
    Pu Tryz.prog 47 [.agg (e_api_Program p)] (.one (.str r)) := by
  have F := trivial; have R := trivial
  refine pA Tryz.func47 ?_
  simp only [Tryz.f47]
  unfold lazarettoref08_text at h
  refine bi h fun e_3 h he_3 => ?_
  refine tt ?_
  refine lE (fun (s__ : Str × Nat) (a__ : Unit) => match s__, a__ with | (s_1, i_2), _ => ⟨[(1, .one (.ref 0 0 0 0)), (3, .one (.str s_1)), (4, .one (.int .i64 (i_2 : Int)))], [.cells 0 6 [[.sl (p.Lattice.Names.map eS), .sl (p.Lattice.Below.map (eA2 eI)), .sl (p.Sites.map e_api_Site), .sl (p.Vars.map e_api_Var), .sl (p.Blocks.map e_api_Block), .sl (p.Tasks.map e_api_Task)]]]⟩) (fun (e__ : Str) (b__ : Unit) => match e__, b__ with | e_3, _ => ⟨[(1, .one (.ref 0 0 0 0)), (3, .one (.str e_3))], [.cells 0 6 [[.sl (p.Lattice.Names.map eS), .sl (p.Lattice.Below.map (eA2 eI)), .sl (p.Sites.map e_api_Site), .sl (p.Vars.map e_api_Var), .sl (p.Blocks.map e_api_Block), .sl (p.Tasks.map e_api_Task)]]]⟩) (fun (_ : Str) => some 0) () he_3 ?_ ?_
  intro i4 b4 hi4
  obtain rfl := Option.some.inj hi4
  obtain ⟨⟩ := b4
  dsimp only at h ⊢
  refine bi h fun e_12 h he_12 => ?_
  refine tt ?_
  refine lE (fun (s__ : Str × Nat) (a__ : Unit) => match s__, a__ with | (s_10, i_11), _ => ⟨[(1, .one (.ref 0 0 0 0)), (3, .one (.str s_10)), (5, .one (.int .i64 (i_11 : Int)))], [.cells 0 6 [[.sl (p.Lattice.Names.map eS), .sl (p.Lattice.Below.map (eA2 eI)), .sl (p.Sites.map e_api_Site), .sl (p.Vars.map e_api_Var), .sl (p.Blocks.map e_api_Block), .sl (p.Tasks.map e_api_Task)]]]⟩) (fun (e__ : Str) (b__ : Unit) => match e__, b__ with | e_12, _ => ⟨[(1, .one (.ref 0 0 0 0)), (3, .one (.str e_12))], [.cells 0 6 [[.sl (p.Lattice.Names.map eS), .sl (p.Lattice.Below.map (eA2 eI)), .sl (p.Sites.map e_api_Site), .sl (p.Vars.map e_api_Var), .sl (p.Blocks.map e_api_Block), .sl (p.Tasks.map e_api_Task)]]]⟩) (fun (_ : Str) => some 2) () he_12 ?_ ?_
  intro i13 b13 hi13
  obtain rfl := Option.some.inj hi13
  obtain ⟨⟩ := b13
  dsimp only at h ⊢
  refine bi h fun e_25 h he_25 => ?_
  refine tt ?_
  refine lE (fun (s__ : Str × Nat) (a__ : Unit) => match s__, a__ with | (s_23, i_24), _ => ⟨[(1, .one (.ref 0 0 0 0)), (3, .one (.str s_23)), (6, .one (.int .i64 (i_24 : Int)))], [.cells 0 6 [[.sl (p.Lattice.Names.map eS), .sl (p.Lattice.Below.map (eA2 eI)), .sl (p.Sites.map e_api_Site), .sl (p.Vars.map e_api_Var), .sl (p.Blocks.map e_api_Block), .sl (p.Tasks.map e_api_Task)]]]⟩) (fun (e__ : Str) (b__ : Unit) => match e__, b__ with | e_25, _ => ⟨[(1, .one (.ref 0 0 0 0)), (3, .one (.str e_25))], [.cells 0 6 [[.sl (p.Lattice.Names.map eS), .sl (p.Lattice.Below.map (eA2 eI)), .sl (p.Sites.map e_api_Site), .sl (p.Vars.map e_api_Var), .sl (p.Blocks.map e_api_Block), .sl (p.Tasks.map e_api_Task)]]]⟩) (fun (_ : Str) => some 4) () he_25 ?_ ?_
  intro i26 b26 hi26
  obtain rfl := Option.some.inj hi26
  obtain ⟨⟩ := b26
  dsimp only at h ⊢
  refine bi h fun e_40 h he_40 => ?_
  refine tt ?_
  refine lE (fun (s__ : Str × Nat) (a__ : Unit) => match s__, a__ with | (s_38, i_39), _ => ⟨[(1, .one (.ref 0 0 0 0)), (3, .one (.str s_38)), (8, .one (.int .i64 (i_39 : Int)))], [.cells 0 6 [[.sl (p.Lattice.Names.map eS), .sl (p.Lattice.Below.map (eA2 eI)), .sl (p.Sites.map e_api_Site), .sl (p.Vars.map e_api_Var), .sl (p.Blocks.map e_api_Block), .sl (p.Tasks.map e_api_Task)]]]⟩) (fun (e__ : Str) (b__ : Unit) => match e__, b__ with | e_40, _ => ⟨[(1, .one (.ref 0 0 0 0)), (3, .one (.str e_40))], [.cells 0 6 [[.sl (p.Lattice.Names.map eS), .sl (p.Lattice.Below.map (eA2 eI)), .sl (p.Sites.map e_api_Site), .sl (p.Vars.map e_api_Var), .sl (p.Blocks.map e_api_Block), .sl (p.Tasks.map e_api_Task)]]]⟩) (fun (_ : Str) => some 6) () he_40 ?_ ?_
  intro i41 b41 hi41
  obtain rfl := Option.some.inj hi41
  obtain ⟨⟩ := b41
  dsimp only at h ⊢
  refine bi h fun e_48 h he_48 => ?_
  refine tt ?_
  refine lE (fun (s__ : Str × Nat) (a__ : Unit) => match s__, a__ with | (s_46, i_47), _ => ⟨[(1, .one (.ref 0 0 0 0)), (3, .one (.str s_46)), (9, .one (.int .i64 (i_47 : Int)))], [.cells 0 6 [[.sl (p.Lattice.Names.map eS), .sl (p.Lattice.Below.map (eA2 eI)), .sl (p.Sites.map e_api_Site), .sl (p.Vars.map e_api_Var), .sl (p.Blocks.map e_api_Block), .sl (p.Tasks.map e_api_Task)]]]⟩) (fun (e__ : Str) (b__ : Unit) => match e__, b__ with | e_48, _ => ⟨[(1, .one (.ref 0 0 0 0)), (3, .one (.str e_48))], [.cells 0 6 [[.sl (p.Lattice.Names.map eS), .sl (p.Lattice.Below.map (eA2 eI)), .sl (p.Sites.map e_api_Site), .sl (p.Vars.map e_api_Var), .sl (p.Blocks.map e_api_Block), .sl (p.Tasks.map e_api_Task)]]]⟩) (fun (_ : Str) => some 8) () he_48 ?_ ?_
  intro i49 b49 hi49
  obtain rfl := Option.some.inj hi49
  obtain ⟨⟩ := b49
  dsimp only at h ⊢
  refine bi h fun e_62 h he_62 => ?_
  refine tt ?_
  refine lE (fun (s__ : Str × Nat) (a__ : Unit) => match s__, a__ with | (s_60, i_61), _ => ⟨[(1, .one (.ref 0 0 0 0)), (3, .one (.str s_60)), (10, .one (.int .i64 (i_61 : Int)))], [.cells 0 6 [[.sl (p.Lattice.Names.map eS), .sl (p.Lattice.Below.map (eA2 eI)), .sl (p.Sites.map e_api_Site), .sl (p.Vars.map e_api_Var), .sl (p.Blocks.map e_api_Block), .sl (p.Tasks.map e_api_Task)]]]⟩) (fun (e__ : Str) (b__ : Unit) => match e__, b__ with | e_62, _ => ⟨[(3, .one (.str e_62))], [.cells 0 6 [[.sl (p.Lattice.Names.map eS), .sl (p.Lattice.Below.map (eA2 eI)), .sl (p.Sites.map e_api_Site), .sl (p.Vars.map e_api_Var), .sl (p.Blocks.map e_api_Block), .sl (p.Tasks.map e_api_Task)]]]⟩) (fun (_ : Str) => some 10) () he_62 ?_ ?_
  intro i63 b63 hi63
  obtain rfl := Option.some.inj hi63
  obtain ⟨⟩ := b63
  dsimp only at h ⊢
  cases h; exact fin
  intro af63 m63 s63 a63 o63 hf63 ho63 ih63
  obtain ⟨s_60, i_61⟩ := s63
  obtain ⟨⟩ := a63
  dsimp only [lazarettoref08_text_L6] at hf63 ⊢
  refine tt ?_
  repeat (first | (with_reducible intro _) | (with_reducible refine and_i ?_ ?_; exact ss))
  refine fl hf63 F (fun hf63 _ F => ?_) (fun hf63 _ F => ?_)
  refine bx hf63 F fun x_64 hf63 hx_64 F => ?_
  refine bi hf63 fun r_65 hf63 hr_65 => ?_
  refine tt ?_
  repeat (first | (with_reducible intro _) | (with_reducible refine and_i ?_ ?_; exact ss))
  refine cD (lazarettoref08_task_ok hr_65) ?_
  refine nd hf63 F fun hf63 F => ?_
  cases hf63
  refine tt ?_
  repeat (first | (with_reducible intro _) | (with_reducible refine and_i ?_ ?_; exact ss))
  refine wn i_61 F fun F => ?_
  exact bk ih63 ho63 ()
  cases hf63
  refine tt ?_
  exact xt ho63 af63 ()
  intro af49 m49 s49 a49 o49 hf49 ho49 ih49
  obtain ⟨s_46, i_47⟩ := s49
  obtain ⟨⟩ := a49
  dsimp only [lazarettoref08_text_L5] at hf49 ⊢
  refine tt ?_
  repeat (first | (with_reducible intro _) | (with_reducible refine and_i ?_ ?_; exact ss))
  refine fl hf49 F (fun hf49 _ F => ?_) (fun hf49 _ F => ?_)
  refine bx hf49 F fun x_50 hf49 hx_50 F => ?_
  refine nd hf49 F fun hf49 F => ?_
  refine nd hf49 F fun hf49 F => ?_
  refine nd hf49 F fun hf49 F => ?_
  refine nd hf49 F fun hf49 F => ?_
  refine by_ hf49 F fun x_55 hf49 hx_55 F => ?_
  refine nd hf49 F fun hf49 F => ?_
  refine nd hf49 F fun hf49 F => ?_
  refine nd hf49 F fun hf49 F => ?_
  cases hf49
  refine tt ?_
  repeat (first | (with_reducible intro _) | (with_reducible refine and_i ?_ ?_; exact ss))
  refine wn i_47 F fun F => ?_
  exact bk ih49 ho49 ()
  cases hf49
  refine tt ?_
  exact xt ho49 af49 ()
  intro af41 m41 s41 a41 o41 hf41 ho41 ih41
  obtain ⟨s_38, i_39⟩ := s41
  obtain ⟨⟩ := a41
  dsimp only [lazarettoref08_text_L4] at hf41 ⊢
  refine tt ?_
  repeat (first | (with_reducible intro _) | (with_reducible refine and_i ?_ ?_; exact ss))
  refine fl hf41 F (fun hf41 _ F => ?_) (fun hf41 _ F => ?_)
  refine bx hf41 F fun x_42 hf41 hx_42 F => ?_
  refine bi hf41 fun r_43 hf41 hr_43 => ?_
  refine tt ?_
  repeat (first | (with_reducible intro _) | (with_reducible refine and_i ?_ ?_; exact ss))
  refine cD (lazarettoref08_one_ok hr_43) ?_
  refine nd hf41 F fun hf41 F => ?_
  cases hf41
  refine tt ?_
  repeat (first | (with_reducible intro _) | (with_reducible refine and_i ?_ ?_; exact ss))
  refine wn i_39 F fun F => ?_
  exact bk ih41 ho41 ()
  cases hf41
  refine tt ?_
  exact xt ho41 af41 ()
  intro af26 m26 s26 a26 o26 hf26 ho26 ih26
  obtain ⟨s_23, i_24⟩ := s26
  obtain ⟨⟩ := a26
  dsimp only [lazarettoref08_text_L3] at hf26 ⊢
  refine tt ?_
  repeat (first | (with_reducible intro _) | (with_reducible refine and_i ?_ ?_; exact ss))
  refine fl hf26 F (fun hf26 _ F => ?_) (fun hf26 _ F => ?_)
  refine bx hf26 F fun x_27 hf26 hx_27 F => ?_
  refine nd hf26 F fun hf26 F => ?_
  refine nd hf26 F fun hf26 F => ?_
  refine by_ hf26 F fun x_30 hf26 hx_30 F => ?_
  refine nd hf26 F fun hf26 F => ?_
  refine nd hf26 F fun hf26 F => ?_
  refine by_ hf26 F fun x_33 hf26 hx_33 F => ?_
  refine nd hf26 F fun hf26 F => ?_
  refine nd hf26 F fun hf26 F => ?_
  refine nd hf26 F fun hf26 F => ?_
  cases hf26
  refine tt ?_
  repeat (first | (with_reducible intro _) | (with_reducible refine and_i ?_ ?_; exact ss))
  refine wn i_24 F fun F => ?_
  exact bk ih26 ho26 ()
  cases hf26
  refine tt ?_
  exact xt ho26 af26 ()
  intro af13 m13 s13 a13 o13 hf13 ho13 ih13
  obtain ⟨s_10, i_11⟩ := s13
  obtain ⟨⟩ := a13
  dsimp only [lazarettoref08_text_L2] at hf13 ⊢
  refine tt ?_
  repeat (first | (with_reducible intro _) | (with_reducible refine and_i ?_ ?_; exact ss))
  refine fl hf13 F (fun hf13 _ F => ?_) (fun hf13 _ F => ?_)
  refine bx hf13 F fun x_14 hf13 hx_14 F => ?_
  refine by_ hf13 F fun x_15 hf13 hx_15 F => ?_
  refine nd hf13 F fun hf13 F => ?_
  refine nd hf13 F fun hf13 F => ?_
  refine by_ hf13 F fun x_18 hf13 hx_18 F => ?_
  refine nd hf13 F fun hf13 F => ?_
  refine nd hf13 F fun hf13 F => ?_
  refine nd hf13 F fun hf13 F => ?_
  cases hf13
  refine tt ?_
  repeat (first | (with_reducible intro _) | (with_reducible refine and_i ?_ ?_; exact ss))
  refine wn i_11 F fun F => ?_
  exact bk ih13 ho13 ()
  cases hf13
  refine tt ?_
  exact xt ho13 af13 ()
  intro af4 m4 s4 a4 o4 hf4 ho4 ih4
  obtain ⟨s_1, i_2⟩ := s4
  obtain ⟨⟩ := a4
  dsimp only [lazarettoref08_text_L1] at hf4 ⊢
  refine tt ?_
  repeat (first | (with_reducible intro _) | (with_reducible refine and_i ?_ ?_; exact ss))
  refine fl hf4 F (fun hf4 _ F => ?_) (fun hf4 _ F => ?_)
  refine bx hf4 F fun x_5 hf4 hx_5 F => ?_
  refine nd hf4 F fun hf4 F => ?_
  refine nd hf4 F fun hf4 F => ?_
  refine nd hf4 F fun hf4 F => ?_
  cases hf4
  refine tt ?_
  repeat (first | (with_reducible intro _) | (with_reducible refine and_i ?_ ?_; exact ss))
  refine wn i_2 F fun F => ?_
  exact bk ih4 ho4 ()
  cases hf4
  refine tt ?_
  exact xt ho4 af4 ()
theorem lazarettoref08_Check_ok {p : api_Program} {r : Bool} (h : lazarettoref08_Check p = some r) :
    Pu Tryz.prog 18 [.agg (e_api_Program p)] (.one (.bool r)) := by
  have F := trivial; have R := trivial
  refine pA Tryz.func18 ?_
  simp only [Tryz.f18]
  unfold lazarettoref08_Check at h
  refine bi h fun r_1 h hr_1 => ?_
  refine tt ?_
  repeat (first | (with_reducible intro _) | (with_reducible refine and_i ?_ ?_; exact ss))
  refine cS (lazarettoref08_parts_ok hr_1) ?_
  refine fv h F (fun h _ F => ?_) (fun h _ F => ?_)
  refine bi h fun r_2 h hr_2 => ?_
  refine tt ?_
  repeat (first | (with_reducible intro _) | (with_reducible refine and_i ?_ ?_; exact ss))
  refine cS (lazarettoref08_tasks_ok hr_2) ?_
  refine fv h F (fun h _ F => ?_) (fun h _ F => ?_)
  refine bi h fun r_3 h hr_3 => ?_
  refine tt ?_
  repeat (first | (with_reducible intro _) | (with_reducible refine and_i ?_ ?_; exact ss))
  refine cS (lazarettoref08_text_ok hr_3) ?_
  cases h; exact fin
  cases h; exact fin
  cases h; exact fin
end Go.Lz
