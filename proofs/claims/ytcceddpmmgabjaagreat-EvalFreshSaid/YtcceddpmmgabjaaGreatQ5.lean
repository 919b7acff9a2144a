/- The parts of a proof: V140 -/
import Derived.Test.YtcceddpmmgabjaaGreatQ4
section
/- V14 -/
namespace Go.Lz
set_option linter.unusedVariables false
set_option linter.unusedSimpArgs false
open Go.Proofs
attribute [-go_sem] q_cond g_b gd_b
set_option maxRecDepth 100000
set_option maxHeartbeats 4000000
noncomputable section
def lazarettolaw06_Few_L1 (lazarettolaw06_Few_r : api_Expr → Int → Int → Option Int) (e : api_Expr) (deep : Int) : (Int × Nat) → Option ((Int × Nat) ⊕ (Int))
  | (left_1, i_2) => if (i_2 : Int) < (e.Args.length : Int) then (if 0 ≤ left_1 then ((e.Args[i_2]?).bind fun x_5 => (lazarettolaw06_Few_r x_5 (w64 (deep - 1)) left_1).bind fun r_6 => some (.inl (r_6, (i_2 + 1)))) else (some (.inr (left_1)))) else (some (.inr (left_1)))
def lazarettolaw06_Few_b (lazarettolaw06_Few_r : api_Expr → Int → Int → Option Int) (e : api_Expr) (deep : Int) (left : Int) : Option Int :=
  if deep < 1 then (some (-1)) else (if (w64 (left - (w64 ((w64 (1 + (e.Args.length : Int))) + (w64 ((e.Name.length : Int).tdiv 100)))))) < 0 then (some (-1)) else ((loop (lazarettolaw06_Few_L1 lazarettolaw06_Few_r e deep) ((w64 (left - (w64 ((w64 (1 + (e.Args.length : Int))) + (w64 ((e.Name.length : Int).tdiv 100)))))), 0)).bind (fun e_3 => some e_3)))
def lazarettolaw06_Few_g : Nat → (api_Expr → Int → Int → Option Int)
  | 0 => fun _ _ _ => none
  | n + 1 => lazarettolaw06_Few_b (lazarettolaw06_Few_g n)
def lazarettolaw06_Few_n (n : Nat) (e : api_Expr) (deep : Int) (left : Int) : Option Int := (lazarettolaw06_Few_g n) e deep left
def lazarettolaw06_Few (e : api_Expr) (deep : Int) (left : Int) : Option Int := lazarettolaw06_Few_n 1000000 e deep left
def lazarettolaw07_Few_L2 (lazarettolaw07_Few_r : (List api_Stmt) → Int → Int → Option Int) (l : List api_Stmt) (deep : Int) : (Int × Nat) → Option ((Int × Nat) ⊕ (Int))
  | (left_12, i_13) => if (i_13 : Int) < (l.length : Int) then (if 0 ≤ left_12 then ((l[i_13]?).bind fun x_16 => (lazarettolaw06_Few x_16.Target 60 (w64 (left_12 - (w64 ((x_16.Name.length : Int).tdiv 100))))).bind fun r_17 => if 0 ≤ r_17 then ((lazarettolaw06_Few x_16.Value 60 r_17).bind fun r_18 => if 0 ≤ r_18 then ((lazarettolaw06_Few (⟨0, 0, 0, [], x_16.Args⟩ : api_Expr) 60 r_18).bind fun r_19 => if 0 ≤ r_19 then ((lazarettolaw07_Few_r x_16.Body (w64 (deep - 1)) r_19).bind fun r_20 => if 0 ≤ r_20 then ((lazarettolaw07_Few_r x_16.Else (w64 (deep - 1)) r_20).bind fun r_21 => some (.inl (r_21, (i_13 + 1)))) else (some (.inl (r_20, (i_13 + 1))))) else (some (.inl (r_19, (i_13 + 1))))) else (some (.inl (r_18, (i_13 + 1))))) else (some (.inl (r_17, (i_13 + 1))))) else (some (.inr (left_12)))) else (some (.inr (left_12)))
def lazarettolaw07_Few_L1 (lazarettolaw07_Few_r : (List api_Stmt) → Int → Int → Option Int) (l : List api_Stmt) (deep : Int) : (Int × Nat) → Option ((Int × Nat) ⊕ (Int))
  | (left_1, i_2) => if (i_2 : Int) < (l.length : Int) then (if 0 ≤ left_1 then ((l[i_2]?).bind fun x_5 => (lazarettolaw06_Few x_5.Target 60 (w64 (left_1 - (w64 ((x_5.Name.length : Int).tdiv 100))))).bind fun r_6 => if 0 ≤ r_6 then ((lazarettolaw06_Few x_5.Value 60 r_6).bind fun r_7 => if 0 ≤ r_7 then ((lazarettolaw06_Few (⟨0, 0, 0, [], x_5.Args⟩ : api_Expr) 60 r_7).bind fun r_8 => if 0 ≤ r_8 then ((lazarettolaw07_Few_r x_5.Body (w64 (deep - 1)) r_8).bind fun r_9 => if 0 ≤ r_9 then ((lazarettolaw07_Few_r x_5.Else (w64 (deep - 1)) r_9).bind fun r_10 => some (.inl (r_10, (i_2 + 1)))) else (some (.inl (r_9, (i_2 + 1))))) else (some (.inl (r_8, (i_2 + 1))))) else (some (.inl (r_7, (i_2 + 1))))) else (some (.inl (r_6, (i_2 + 1))))) else (some (.inr (left_1)))) else (some (.inr (left_1)))
def lazarettolaw07_Few_b (lazarettolaw07_Few_r : (List api_Stmt) → Int → Int → Option Int) (l : List api_Stmt) (deep : Int) (left : Int) : Option Int :=
  if 0 < (l.length : Int) then (if deep < 1 then (some (-1)) else (if (w64 (left - (l.length : Int))) < 0 then (some (-1)) else ((loop (lazarettolaw07_Few_L1 lazarettolaw07_Few_r l deep) ((w64 (left - (l.length : Int))), 0)).bind (fun e_3 => some e_3)))) else (if (w64 (left - (l.length : Int))) < 0 then (some (-1)) else ((loop (lazarettolaw07_Few_L2 lazarettolaw07_Few_r l deep) ((w64 (left - (l.length : Int))), 0)).bind (fun e_14 => some e_14)))
def lazarettolaw07_Few_g : Nat → ((List api_Stmt) → Int → Int → Option Int)
  | 0 => fun _ _ _ => none
  | n + 1 => lazarettolaw07_Few_b (lazarettolaw07_Few_g n)
def lazarettolaw07_Few_n (n : Nat) (l : List api_Stmt) (deep : Int) (left : Int) : Option Int := (lazarettolaw07_Few_g n) l deep left
def lazarettolaw07_Few (l : List api_Stmt) (deep : Int) (left : Int) : Option Int := lazarettolaw07_Few_n 1000000 l deep left
def lazarettolaw08_Few_L1 (p : api_Program) : Nat → Option ((Nat) ⊕ (Int ⊕ Unit))
  | i_1 => if (i_1 : Int) < (p.Tasks.length : Int) then ((p.Tasks[i_1]?).bind fun x_4 => if 100 < (x_4.Budget.length : Int) then (some (.inr (.inl (0)))) else ((lazarettolaw07_Few x_4.Body 60 2000).bind fun r_5 => if r_5 < 0 then (some (.inr (.inl (0)))) else (some (.inl (i_1 + 1))))) else (some (.inr (.inr (()))))
def lazarettolaw08_Few (p : api_Program) : Option Int :=
  if 500 < (w64 ((w64 ((w64 ((w64 ((p.Lattice.Names.length : Int) + (p.Lattice.Below.length : Int))) + (p.Sites.length : Int))) + (p.Vars.length : Int))) + (p.Blocks.length : Int))) then (some 0) else (if 10 < (p.Tasks.length : Int) then (some 0) else ((loop (lazarettolaw08_Few_L1 p) 0).bind (fun e__ => match e__ with | (.inl e_6) => some e_6 | (.inr ()) => some 1)))
def lazarettoref05_letter (c : Int) : Option Bool :=
  if 97 ≤ c then (if c ≤ 122 then (some true) else (if 65 ≤ c then (if c ≤ 90 then (some true) else (some (decide (c = 95)))) else (some (decide (c = 95))))) else (if 65 ≤ c then (if c ≤ 90 then (some true) else (some (decide (c = 95)))) else (some (decide (c = 95))))
def lazarettoref05_digit (c : Int) : Option Bool :=
  if 48 ≤ c then (some (decide (c ≤ 57))) else (some false)
def lazarettoref05_run_L1 (s : Str) : Nat → Option ((Nat) ⊕ (Nat))
  | n_3 => if (n_3 : Int) < (s.length : Int) then ((s[n_3]?).bind fun c_6 => (lazarettoref05_letter (c_6.toNat : Int)).bind fun r_7 => if r_7 = true then (some (.inl (n_3 + 1))) else ((lazarettoref05_digit (c_6.toNat : Int)).bind fun r_8 => if r_8 = true then (some (.inl (n_3 + 1))) else (some (.inr (n_3))))) else (some (.inr (n_3)))
def lazarettoref05_run (s : Str) : Option Int :=
  if s = [] then (some 0) else ((s[0]?).bind fun c_1 => (lazarettoref05_letter (c_1.toNat : Int)).bind fun r_2 => if r_2 = true then ((loop (lazarettoref05_run_L1 s) 1).bind (fun e_4 => some (e_4 : Int))) else (some 0))
def lazarettoref05_Among_L1 (s : Str) (names : Str) : (Int × Nat) → Option ((Int × Nat) ⊕ (Bool ⊕ Unit))
  | (from_1, i_2) => if (i_2 : Int) ≤ (names.length : Int) then (if (i_2 : Int) = (names.length : Int) then (if from_1 < (i_2 : Int) then (need (0 ≤ from_1 ∧ from_1 ≤ (i_2 : Int) ∧ (i_2 : Int) ≤ names.length) (if ((names.take i_2).drop from_1.toNat) = s then (some (.inr (.inl (true)))) else (some (.inl ((w64 ((i_2 : Int) + 1)), (i_2 + 1)))))) else (some (.inl ((w64 ((i_2 : Int) + 1)), (i_2 + 1))))) else ((names[i_2]?).bind fun c_6 => if (c_6.toNat : Int) = 32 then (if from_1 < (i_2 : Int) then (need (0 ≤ from_1 ∧ from_1 ≤ (i_2 : Int) ∧ (i_2 : Int) ≤ names.length) (if ((names.take i_2).drop from_1.toNat) = s then (some (.inr (.inl (true)))) else (some (.inl ((w64 ((i_2 : Int) + 1)), (i_2 + 1)))))) else (some (.inl ((w64 ((i_2 : Int) + 1)), (i_2 + 1))))) else (some (.inl (from_1, (i_2 + 1)))))) else (some (.inr (.inr (()))))
def lazarettoref05_Among (s : Str) (names : Str) : Option Bool :=
  (loop (lazarettoref05_Among_L1 s names) (0, 0)).bind (fun e__ => match e__ with | (.inl e_8) => some e_8 | (.inr ()) => some false)
def lazarettoref05_Word (s : Str) : Option Bool :=
  (lazarettoref05_Among s ([65, 78, 68, 32, 65, 82, 82, 65, 89, 32, 65, 84, 32, 66, 76, 79, 67, 75, 32, 66, 79, 79, 76, 32, 66, 85, 68, 71, 69, 84, 32, 67, 84, 68, 32, 67, 84, 85, 32, 67, 84, 85, 68, 32, 68, 69, 67, 76, 65, 83, 83, 73, 70, 89, 32, 68, 73, 78, 84, 32, 68, 79, 32, 69, 76, 83, 69, 32, 69, 78, 68, 32, 69, 78, 68, 95, 70, 79, 82, 32, 69, 78, 68, 95, 73, 70, 32, 69, 78, 68, 95, 87, 72, 73, 76, 69, 32, 69, 86, 69, 82, 89, 32, 70, 65, 76, 83, 69, 32, 70, 79, 82, 32, 70, 95, 84, 82, 73, 71, 32, 73, 70, 32, 73, 78, 80, 85, 84, 32, 73, 78, 84, 32, 76, 65, 66, 69, 76, 32, 77, 79, 68, 32, 78, 79, 84, 32, 79, 70, 32, 79, 82, 32, 79, 85, 84, 80, 85, 84, 32, 80, 82, 73, 79, 82, 73, 84, 89, 32, 82, 83, 32, 82, 95, 84, 82, 73, 71, 32, 83, 73, 84, 69, 32, 83, 82, 32, 84, 65, 83, 75, 32, 84, 72, 69, 78, 32, 84, 73, 77, 69, 32, 84, 79, 32, 84, 79, 70, 32, 84, 79, 78, 32, 84, 80, 32, 84, 82, 85, 69, 32, 86, 65, 82, 32, 87, 72, 73, 76, 69, 32, 88, 79, 82] : Str)).bind fun r_1 => some r_1
def lazarettoref05_upper_L1 : ((List Int) × Nat) → Option (((List Int) × Nat) ⊕ (List Int))
  | (b_1, i_2) => if (i_2 : Int) < (b_1.length : Int) then ((b_1[i_2]?).bind fun x_5 => if 97 ≤ x_5 then (if x_5 ≤ 122 then (some (.inl ((b_1.set i_2 (IntKind.u8.wrap (x_5 - 32))), (i_2 + 1)))) else (some (.inl (b_1, (i_2 + 1))))) else (some (.inl (b_1, (i_2 + 1))))) else (some (.inr (b_1)))
def lazarettoref05_upper (s : Str) : Option Str :=
  (loop (lazarettoref05_upper_L1) ((sBytes s), 0)).bind (fun e_3 => some (iBytes e_3))
def lazarettoref05_Name (s : Str) : Option Bool :=
  if s = [] then (some false) else (if (s.length : Int) ≤ 32 then ((lazarettoref05_run s).bind fun r_1 => if r_1 = (s.length : Int) then ((lazarettoref05_upper s).bind fun r_2 => (lazarettoref05_Word r_2).bind fun r_3 => some (!r_3)) else (some false)) else (some false))
def lazarettoref08_find_L1 (l : List Str) (name : Str) : Nat → Option ((Nat) ⊕ (Int ⊕ Unit))
  | i_1 => if (i_1 : Int) < (l.length : Int) then ((l[i_1]?).bind fun x_4 => if x_4 = name then (some (.inr (.inl ((i_1 : Int))))) else (some (.inl (i_1 + 1)))) else (some (.inr (.inr (()))))
def lazarettoref08_find (l : List Str) (name : Str) : Option Int :=
  (loop (lazarettoref08_find_L1 l name) 0).bind (fun e__ => match e__ with | (.inl e_5) => some e_5 | (.inr ()) => some (-1))
def lazarettoref01_Is (l : api_Lattice) (a : Int) : Option Bool :=
  if 0 ≤ a then (some (decide (a < (l.Names.length : Int)))) else (some false)
def lazarettoref08_label (p : api_Program) (n : Int) : Option Bool :=
  (lazarettoref01_Is p.Lattice n).bind fun r_1 => some r_1
def lazarettoref03_Bits (kind : Int) : Option Int :=
  if kind = 1 then (some 1) else (if kind = 2 then (some 16) else (if kind = 3 then (some 32) else (if kind = 4 then (some 32) else (some 0))))
def lazarettoref03_half (kind : Int) : Option Int :=
  if kind = 2 then (some 32768) else (some 2147483648)
def lazarettoref03_Valid (kind : Int) (n : Int) : Option Bool :=
  if kind = 1 then (if n = 0 then (some true) else (some (decide (n = 1)))) else ((lazarettoref03_Bits kind).bind fun r_1 => if 0 < r_1 then ((lazarettoref03_half kind).bind fun r_2 => if (w64 (0 - r_2)) ≤ n then ((lazarettoref03_half kind).bind fun r_3 => some (decide (n < r_3))) else (some false)) else (some false))
def lazarettoref04_Check (t : api_Type) : Option Int :=
  (lazarettoref03_Bits t.Kind).bind fun r_1 => if r_1 = 0 then (some 6) else (if t.Len < 0 then (some 6) else (if 32 < t.Len then (some 6) else (if t.Len = 0 then (if t.Low = 0 then (if t.Low < (-32768) then (some 6) else (if 32767 < t.Low then (some 6) else (some 0))) else (some 6)) else (if t.Low < (-32768) then (some 6) else (if 32767 < t.Low then (some 6) else (some 0))))))
def lazarettoref08_variable (p : api_Program) (v : api_Var) : Option Bool :=
  (lazarettoref05_Name v.Name).bind fun r_1 => if r_1 = true then ((lazarettoref04_Check v.Type_).bind fun r_2 => if r_2 = 0 then (if v.Mode = 0 then (if v.Safe = 0 then (if v.Label = (-1) then (if v.Type_.Len = 0 then (some true) else (some (decide (v.Type_.Low ≤ (w64 (32768 - v.Type_.Len)))))) else ((lazarettoref08_label p v.Label).bind fun r_3 => if r_3 = true then (if v.Type_.Len = 0 then (some true) else (some (decide (v.Type_.Low ≤ (w64 (32768 - v.Type_.Len)))))) else (some false))) else (some false)) else (if v.Mode = 1 then (if v.Safe = 0 then ((lazarettoref08_label p v.Label).bind fun r_4 => if r_4 = true then (some (decide (v.Type_.Len = 0))) else (some false)) else (some false)) else (if v.Mode = 2 then ((lazarettoref08_label p v.Label).bind fun r_5 => if r_5 = true then (if v.Type_.Len = 0 then ((lazarettoref03_Valid v.Type_.Kind v.Safe).bind fun r_6 => some r_6) else (some false)) else (some false)) else (some false)))) else (some false)) else (some false)
def lazarettoref08_parts_L5 (p : api_Program) : Nat → Option ((Nat) ⊕ (Bool ⊕ Unit))
  | i_29 => if (i_29 : Int) < (p.Blocks.length : Int) then ((p.Blocks[i_29]?).bind fun x_32 => (lazarettoref05_Name x_32.Name).bind fun r_33 => if r_33 = true then ((lazarettoref05_Among x_32.Kind ([67, 84, 68, 32, 67, 84, 85, 32, 67, 84, 85, 68, 32, 70, 95, 84, 82, 73, 71, 32, 82, 83, 32, 82, 95, 84, 82, 73, 71, 32, 83, 82, 32, 84, 79, 70, 32, 84, 79, 78, 32, 84, 80] : Str)).bind fun r_34 => if r_34 = true then ((lazarettoref08_label p x_32.Label).bind fun r_35 => if r_35 = true then (some (.inl (i_29 + 1))) else (some (.inr (.inl (false))))) else (some (.inr (.inl (false))))) else (some (.inr (.inl (false))))) else (some (.inr (.inr (()))))
def lazarettoref08_parts_L4 (p : api_Program) : Nat → Option ((Nat) ⊕ (Bool ⊕ Unit))
  | i_23 => if (i_23 : Int) < (p.Vars.length : Int) then ((p.Vars[i_23]?).bind fun x_26 => (lazarettoref08_variable p x_26).bind fun r_27 => if r_27 = true then (some (.inl (i_23 + 1))) else (some (.inr (.inl (false))))) else (some (.inr (.inr (()))))
def lazarettoref08_parts_L3 (p : api_Program) : Nat → Option ((Nat) ⊕ (Bool ⊕ Unit))
  | i_15 => if (i_15 : Int) < (p.Sites.length : Int) then ((p.Sites[i_15]?).bind fun x_18 => (lazarettoref05_Name x_18.Name).bind fun r_19 => if r_19 = true then ((lazarettoref08_label p x_18.From).bind fun r_20 => if r_20 = true then ((lazarettoref08_label p x_18.To).bind fun r_21 => if r_21 = true then (some (.inl (i_15 + 1))) else (some (.inr (.inl (false))))) else (some (.inr (.inl (false))))) else (some (.inr (.inl (false))))) else (some (.inr (.inr (()))))
def lazarettoref08_parts_L2 (p : api_Program) : Nat → Option ((Nat) ⊕ (Bool ⊕ Unit))
  | i_8 => if (i_8 : Int) < (p.Lattice.Below.length : Int) then ((p.Lattice.Below[i_8]?).bind fun x_11 => (lazarettoref08_label p x_11.a0).bind fun r_12 => if r_12 = true then ((lazarettoref08_label p x_11.a1).bind fun r_13 => if r_13 = true then (some (.inl (i_8 + 1))) else (some (.inr (.inl (false))))) else (some (.inr (.inl (false))))) else (some (.inr (.inr (()))))
def lazarettoref08_parts_L1 (p : api_Program) : Nat → Option ((Nat) ⊕ (Bool ⊕ Unit))
  | i_1 => if (i_1 : Int) < (p.Lattice.Names.length : Int) then ((p.Lattice.Names[i_1]?).bind fun x_4 => (lazarettoref05_Name x_4).bind fun r_5 => if r_5 = true then ((lazarettoref08_find p.Lattice.Names x_4).bind fun r_6 => if r_6 = (i_1 : Int) then (some (.inl (i_1 + 1))) else (some (.inr (.inl (false))))) else (some (.inr (.inl (false))))) else (some (.inr (.inr (()))))
def lazarettoref08_parts (p : api_Program) : Option Bool :=
  if 8 < (p.Lattice.Names.length : Int) then (some false) else (if 8 < (p.Sites.length : Int) then (some false) else (if 48 < (p.Vars.length : Int) then (some false) else (if 12 < (p.Blocks.length : Int) then (some false) else (if 4 < (p.Tasks.length : Int) then (some false) else (if 16384 < (p.Lattice.Below.length : Int) then (some false) else ((loop (lazarettoref08_parts_L1 p) 0).bind (fun e__ => match e__ with | (.inl e_7) => some e_7 | (.inr ()) => (loop (lazarettoref08_parts_L2 p) 0).bind (fun e__ => match e__ with | (.inl e_14) => some e_14 | (.inr ()) => (loop (lazarettoref08_parts_L3 p) 0).bind (fun e__ => match e__ with | (.inl e_22) => some e_22 | (.inr ()) => (loop (lazarettoref08_parts_L4 p) 0).bind (fun e__ => match e__ with | (.inl e_28) => some e_28 | (.inr ()) => (loop (lazarettoref08_parts_L5 p) 0).bind (fun e__ => match e__ with | (.inl e_36) => some e_36 | (.inr ()) => some true)))))))))))
def lazarettoref06_form (e : api_Expr) : Option Bool :=
  if e.Op = 1 then (if 0 ≤ e.N then (if e.Kind = 1 then (if e.N ≤ 1 then (if (e.Args.length : Int) = 0 then (some (decide (e.Name = []))) else (some false)) else (if e.Kind = 2 then none else (if e.Kind = 3 then none else (if e.Kind = 4 then none else (some false))))) else (if e.Kind = 2 then (if e.N ≤ 32767 then (if (e.Args.length : Int) = 0 then (some (decide (e.Name = []))) else (some false)) else (if e.Kind = 3 then none else (if e.Kind = 4 then none else (some false)))) else (if e.Kind = 3 then (if e.N ≤ 2147483647 then (if (e.Args.length : Int) = 0 then (some (decide (e.Name = []))) else (some false)) else (some false)) else (if e.Kind = 4 then (if e.N ≤ 2147483647 then (if (e.Args.length : Int) = 0 then (some (decide (e.Name = []))) else (some false)) else (some false)) else (some false))))) else (some false)) else (if e.Kind = 0 then (if e.Op = 2 then (if (e.Args.length : Int) = 0 then (if e.N = 0 then ((lazarettoref05_Name e.Name).bind fun r_1 => some r_1) else (some false)) else (some false)) else (if e.Op = 4 then (if (e.Args.length : Int) = 0 then (if 0 ≤ e.N then (if e.N ≤ 9 then ((lazarettoref05_Name e.Name).bind fun r_2 => some r_2) else (some false)) else (some false)) else (some false)) else (if e.Op = 3 then (if (e.Args.length : Int) = 1 then (if e.N = 0 then ((lazarettoref05_Name e.Name).bind fun r_3 => some r_3) else (some false)) else (some false)) else (if e.Op = 21 then (if (e.Args.length : Int) = 1 then (if e.N = 0 then ((lazarettoref05_Name e.Name).bind fun r_4 => some r_4) else (some false)) else (some false)) else (if e.Op = 5 then (if (e.Args.length : Int) = 1 then (if e.N = 0 then (some (decide (e.Name = []))) else (some false)) else (some false)) else (if e.Op = 6 then (if (e.Args.length : Int) = 1 then (if e.N = 0 then (some (decide (e.Name = []))) else (some false)) else (some false)) else (if 7 ≤ e.Op then (if e.Op ≤ 20 then (if (e.Args.length : Int) = 2 then (if e.N = 0 then (some (decide (e.Name = []))) else (some false)) else (some false)) else (some false)) else (some false)))))))) else (some false))
def lazarettoref06_brief_L1 (lazarettoref06_brief_r : api_Expr → Int → Int → Option Int) (e : api_Expr) (deep : Int) : (Int × Nat) → Option ((Int × Nat) ⊕ (Int))
  | (left_2, i_3) => if (i_3 : Int) < (e.Args.length : Int) then (if 0 ≤ left_2 then ((e.Args[i_3]?).bind fun x_6 => (lazarettoref06_brief_r x_6 (w64 (deep - 1)) left_2).bind fun r_7 => some (.inl (r_7, (i_3 + 1)))) else (some (.inr (left_2)))) else (some (.inr (left_2)))
def lazarettoref06_brief_b (lazarettoref06_brief_r : api_Expr → Int → Int → Option Int) (e : api_Expr) (deep : Int) (left : Int) : Option Int :=
  if deep < 1 then (some (-1)) else (if left < 0 then (some (-1)) else ((lazarettoref06_form e).bind fun r_1 => if r_1 = true then ((loop (lazarettoref06_brief_L1 lazarettoref06_brief_r e deep) ((w64 (left - 1)), 0)).bind (fun e_4 => some e_4)) else (some (-1))))
def lazarettoref06_brief_g : Nat → (api_Expr → Int → Int → Option Int)
  | 0 => fun _ _ _ => none
  | n + 1 => lazarettoref06_brief_b (lazarettoref06_brief_g n)
def lazarettoref06_brief_n (n : Nat) (e : api_Expr) (deep : Int) (left : Int) : Option Int := (lazarettoref06_brief_g n) e deep left
def lazarettoref06_brief (e : api_Expr) (deep : Int) (left : Int) : Option Int := lazarettoref06_brief_n 1000000 e deep left
def lazarettoref05_Digits_L1 : (Int × Str) → Option ((Int × Str) ⊕ (Int × Str))
  | (n_1, s_2) => if 10 ≤ n_1 then (need (0 ≤ (n_1.tmod 10) ∧ (n_1.tmod 10) ≤ (w64 ((n_1.tmod 10) + 1)) ∧ (w64 ((n_1.tmod 10) + 1)) ≤ 10) (need (((([48, 49, 50, 51, 52, 53, 54, 55, 56, 57] : Str).take (w64 ((n_1.tmod 10) + 1)).toNat).drop (n_1.tmod 10).toNat).length + s_2.length ≤ 281474976710656) (some (.inl ((w64 (n_1.tdiv 10)), (((([48, 49, 50, 51, 52, 53, 54, 55, 56, 57] : Str).take (w64 ((n_1.tmod 10) + 1)).toNat).drop (n_1.tmod 10).toNat) ++ s_2)))))) else (some (.inr ((n_1, s_2))))
def lazarettoref05_Digits (n : Int) : Option Str :=
  (loop (lazarettoref05_Digits_L1) (n, [])).bind (fun (n_7, s_8) => need (0 ≤ n_7 ∧ n_7 ≤ (w64 (n_7 + 1)) ∧ (w64 (n_7 + 1)) ≤ 10) (need (((([48, 49, 50, 51, 52, 53, 54, 55, 56, 57] : Str).take (w64 (n_7 + 1)).toNat).drop n_7.toNat).length + s_8.length ≤ 281474976710656) (some (((([48, 49, 50, 51, 52, 53, 54, 55, 56, 57] : Str).take (w64 (n_7 + 1)).toNat).drop n_7.toNat) ++ s_8))))
def lazarettoref06_level (op : Int) : Option Int :=
  if op = 20 then (some 1) else (if op = 19 then (some 2) else (if op = 18 then (some 3) else (if 12 ≤ op then (if op ≤ 17 then (some 4) else (if op = 10 then (some 5) else (if op = 11 then (some 5) else (if 7 ≤ op then (if op ≤ 9 then (some 6) else (if op = 5 then (some 7) else (if op = 6 then (some 7) else (some 8)))) else (if op = 5 then (some 7) else (if op = 6 then (some 7) else (some 8))))))) else (if op = 10 then (some 5) else (if op = 11 then (some 5) else (if 7 ≤ op then (if op ≤ 9 then (some 6) else (if op = 5 then (some 7) else (if op = 6 then (some 7) else (some 8)))) else (if op = 5 then (some 7) else (if op = 6 then (some 7) else (some 8)))))))))
def lazarettoref06_signs (level : Int) : Option (Str × Int) :=
  if level = 1 then (some (([79, 82] : Str), 20)) else (if level = 2 then (some (([88, 79, 82] : Str), 19)) else (if level = 3 then (some (([65, 78, 68] : Str), 18)) else (if level = 4 then (some (([61, 32, 60, 62, 32, 60, 32, 60, 61, 32, 62, 32, 62, 61] : Str), 12)) else (if level = 5 then (some (([43, 32, 45] : Str), 10)) else (some (([42, 32, 47, 32, 77, 79, 68] : Str), 7))))))
def lazarettoref06_sign_L1 (op : Int) (r_2 : Str × Int) : (Int × Int × Nat) → Option ((Int × Int × Nat) ⊕ (Str ⊕ Unit))
  | (k_3, from_4, i_5) => if (i_5 : Int) ≤ (r_2.1.length : Int) then (if (i_5 : Int) = (r_2.1.length : Int) then (if k_3 = op then (need (0 ≤ from_4 ∧ from_4 ≤ (i_5 : Int) ∧ (i_5 : Int) ≤ r_2.1.length) (some (.inr (.inl (((r_2.1.take i_5).drop from_4.toNat)))))) else (some (.inl ((w64 (k_3 + 1)), (w64 ((i_5 : Int) + 1)), (i_5 + 1))))) else ((r_2.1[i_5]?).bind fun c_9 => if (c_9.toNat : Int) = 32 then (if k_3 = op then (need (0 ≤ from_4 ∧ from_4 ≤ (i_5 : Int) ∧ (i_5 : Int) ≤ r_2.1.length) (some (.inr (.inl (((r_2.1.take i_5).drop from_4.toNat)))))) else (some (.inl ((w64 (k_3 + 1)), (w64 ((i_5 : Int) + 1)), (i_5 + 1))))) else (some (.inl (k_3, from_4, (i_5 + 1)))))) else (some (.inr (.inr (()))))
def lazarettoref06_sign (op : Int) : Option Str :=
  (lazarettoref06_level op).bind fun r_1 => (lazarettoref06_signs r_1).bind fun r_2 => (loop (lazarettoref06_sign_L1 op r_2) (r_2.2, 0, 0)).bind (fun e__ => match e__ with | (.inl e_11) => some e_11 | (.inr ()) => some [])
def lazarettoref06_text_b (lazarettoref06_text_r : api_Expr → Option Str) (lazarettoref06_part_r : api_Expr → Int → Option Str) (e : api_Expr) : Option Str :=
  if e.Op = 1 then (if e.Kind = 1 then (if e.N = 1 then (some ([84, 82, 85, 69] : Str)) else (some ([70, 65, 76, 83, 69] : Str))) else (if e.Kind = 3 then ((lazarettoref05_Digits e.N).bind fun r_1 => need (r_1.length + 5 ≤ 281474976710656) (need (r_1.length + 6 ≤ 281474976710656) (some ((([68, 73, 78, 84, 40] : Str) ++ r_1) ++ ([41] : Str))))) else (if e.Kind = 4 then ((lazarettoref05_Digits e.N).bind fun r_4 => need (r_4.length + 5 ≤ 281474976710656) (need (r_4.length + 6 ≤ 281474976710656) (some ((([84, 73, 77, 69, 40] : Str) ++ r_4) ++ ([41] : Str))))) else ((lazarettoref05_Digits e.N).bind fun r_7 => some r_7)))) else (if e.Op = 2 then (some e.Name) else (if e.Op = 4 then (need (e.Name.length + 1 ≤ 281474976710656) ((lazarettoref05_Digits e.N).bind fun r_9 => need (e.Name.length + r_9.length + 1 ≤ 281474976710656) (some ((e.Name ++ ([46] : Str)) ++ r_9)))) else (if e.Op = 3 then (need (e.Name.length + 1 ≤ 281474976710656) ((e.Args[0]?).bind fun x_12 => (lazarettoref06_text_r x_12).bind fun r_13 => need (e.Name.length + r_13.length + 1 ≤ 281474976710656) (need (e.Name.length + r_13.length + 2 ≤ 281474976710656) (some (((e.Name ++ ([91] : Str)) ++ r_13) ++ ([93] : Str)))))) else (if e.Op = 21 then (need (e.Name.length + 11 ≤ 281474976710656) (need (e.Name.length + 13 ≤ 281474976710656) ((e.Args[0]?).bind fun x_18 => (lazarettoref06_text_r x_18).bind fun r_19 => need (e.Name.length + r_19.length + 13 ≤ 281474976710656) (need (e.Name.length + r_19.length + 14 ≤ 281474976710656) (some ((((([68, 69, 67, 76, 65, 83, 83, 73, 70, 89, 40] : Str) ++ e.Name) ++ ([44, 32] : Str)) ++ r_19) ++ ([41] : Str))))))) else (if e.Op = 5 then ((e.Args[0]?).bind fun x_22 => (lazarettoref06_part_r x_22 7).bind fun r_23 => need (r_23.length + 1 ≤ 281474976710656) (some (([45] : Str) ++ r_23))) else (if e.Op = 6 then ((e.Args[0]?).bind fun x_25 => (lazarettoref06_part_r x_25 7).bind fun r_26 => need (r_26.length + 4 ≤ 281474976710656) (some (([78, 79, 84, 32] : Str) ++ r_26))) else ((lazarettoref06_level e.Op).bind fun r_28 => (e.Args[0]?).bind fun x_29 => (lazarettoref06_part_r x_29 r_28).bind fun r_30 => need (r_30.length + 1 ≤ 281474976710656) ((lazarettoref06_sign e.Op).bind fun r_32 => need (r_30.length + r_32.length + 1 ≤ 281474976710656) (need (r_30.length + r_32.length + 2 ≤ 281474976710656) ((e.Args[1]?).bind fun x_35 => (lazarettoref06_part_r x_35 (w64 (r_28 + 1))).bind fun r_36 => need (r_30.length + r_32.length + r_36.length + 2 ≤ 281474976710656) (some ((((r_30 ++ ([32] : Str)) ++ r_32) ++ ([32] : Str)) ++ r_36))))))))))))
def lazarettoref06_part_b (lazarettoref06_text_r : api_Expr → Option Str) (lazarettoref06_part_r : api_Expr → Int → Option Str) (e : api_Expr) (least : Int) : Option Str :=
  (lazarettoref06_level e.Op).bind fun r_1 => if r_1 < least then ((lazarettoref06_text_r e).bind fun r_2 => need (r_2.length + 1 ≤ 281474976710656) (need (r_2.length + 2 ≤ 281474976710656) (some ((([40] : Str) ++ r_2) ++ ([41] : Str))))) else ((lazarettoref06_text_r e).bind fun r_5 => some r_5)
def lazarettoref06_text_g : Nat → (api_Expr → Option Str) × (api_Expr → Int → Option Str)
  | 0 => (fun _ => none, fun _ _ => none)
  | n + 1 => (lazarettoref06_text_b (lazarettoref06_text_g n).1 (lazarettoref06_text_g n).2, lazarettoref06_part_b (lazarettoref06_text_g n).1 (lazarettoref06_text_g n).2)
def lazarettoref06_text_n (n : Nat) (e : api_Expr) : Option Str := (lazarettoref06_text_g n).1 e
def lazarettoref06_text (e : api_Expr) : Option Str := lazarettoref06_text_n 1000000 e
def lazarettoref06_part_n (n : Nat) (e : api_Expr) (least : Int) : Option Str := (lazarettoref06_text_g n).2 e least
def lazarettoref06_part (e : api_Expr) (least : Int) : Option Str := lazarettoref06_part_n 1000000 e least
def lazarettoref06_Check (e : api_Expr) : Option Bool :=
  (lazarettoref06_brief e 24 16384).bind fun r_1 => if 0 ≤ r_1 then ((lazarettoref06_text e).bind fun r_2 => some (decide ((r_2.length : Int) ≤ 16384))) else (some false)
def lazarettoref07_target (e : api_Expr) : Option Bool :=
  if e.Op = 2 then ((lazarettoref06_Check e).bind fun r_1 => some r_1) else (if e.Op = 3 then (if (e.Args.length : Int) = 1 then (if e.N = 0 then (if e.Kind = 0 then ((lazarettoref05_Name e.Name).bind fun r_2 => if r_2 = true then ((e.Args[0]?).bind fun x_3 => (lazarettoref06_Check x_3).bind fun r_4 => some r_4) else (some false)) else (some false)) else (some false)) else (some false)) else (some false))
def lazarettoref06_Same_L1 (lazarettoref06_Same_r : api_Expr → api_Expr → Option Bool) (a : api_Expr) (b : api_Expr) : Nat → Option ((Nat) ⊕ (Bool ⊕ Unit))
  | i_1 => if (i_1 : Int) < (a.Args.length : Int) then ((a.Args[i_1]?).bind fun x_4 => (b.Args[i_1]?).bind fun x_5 => (lazarettoref06_Same_r x_4 x_5).bind fun r_6 => if r_6 = true then (some (.inl (i_1 + 1))) else (some (.inr (.inl (false))))) else (some (.inr (.inr (()))))
def lazarettoref06_Same_b (lazarettoref06_Same_r : api_Expr → api_Expr → Option Bool) (a : api_Expr) (b : api_Expr) : Option Bool :=
  if a.Op = b.Op then (if a.N = b.N then (if a.Kind = b.Kind then (if a.Name = b.Name then (if (a.Args.length : Int) = (b.Args.length : Int) then ((loop (lazarettoref06_Same_L1 lazarettoref06_Same_r a b) 0).bind (fun e__ => match e__ with | (.inl e_7) => some e_7 | (.inr ()) => some true)) else (some false)) else (some false)) else (some false)) else (some false)) else (some false)
def lazarettoref06_Same_g : Nat → (api_Expr → api_Expr → Option Bool)
  | 0 => fun _ _ => none
  | n + 1 => lazarettoref06_Same_b (lazarettoref06_Same_g n)
def lazarettoref06_Same_n (n : Nat) (a : api_Expr) (b : api_Expr) : Option Bool := (lazarettoref06_Same_g n) a b
def lazarettoref06_Same (a : api_Expr) (b : api_Expr) : Option Bool := lazarettoref06_Same_n 1000000 a b
def lazarettoref07_none (e : api_Expr) : Option Bool :=
  (lazarettoref06_Same e (⟨0, 0, 0, [], []⟩ : api_Expr)).bind fun r_1 => some r_1
def lazarettoref07_args_L1 (l : List api_Expr) : Nat → Option ((Nat) ⊕ (Bool ⊕ Unit))
  | i_1 => if (i_1 : Int) < (l.length : Int) then ((l[i_1]?).bind fun x_4 => (lazarettoref06_Check x_4).bind fun r_5 => if r_5 = true then (some (.inl (i_1 + 1))) else (some (.inr (.inl (false))))) else (some (.inr (.inr (()))))
def lazarettoref07_args (l : List api_Expr) : Option Bool :=
  (loop (lazarettoref07_args_L1 l) 0).bind (fun e__ => match e__ with | (.inl e_6) => some e_6 | (.inr ()) => some true)
def lazarettoref07_form (s : api_Stmt) : Option Bool :=
  if (s.Body.length : Int) = 0 then (if s.Kind = 1 then (if (s.Else.length : Int) = 0 then (if s.Name = [] then (if (s.Args.length : Int) = 0 then ((lazarettoref07_target s.Target).bind fun r_1 => if r_1 = true then ((lazarettoref06_Check s.Value).bind fun r_2 => some r_2) else (some false)) else (some false)) else (some false)) else (some false)) else (if s.Kind = 2 then (if s.Name = [] then (if (s.Args.length : Int) = 0 then ((lazarettoref07_none s.Target).bind fun r_3 => if r_3 = true then ((lazarettoref06_Check s.Value).bind fun r_4 => some r_4) else (some false)) else (some false)) else (some false)) else (if s.Kind = 3 then (if s.Name = [] then (if (s.Args.length : Int) = 0 then (if (s.Else.length : Int) = 0 then ((lazarettoref07_none s.Target).bind fun r_5 => if r_5 = true then ((lazarettoref06_Check s.Value).bind fun r_6 => some r_6) else (some false)) else (some false)) else (some false)) else (some false)) else (if s.Kind = 4 then ((lazarettoref05_Name s.Name).bind fun r_7 => if r_7 = true then (if (s.Args.length : Int) = 2 then ((lazarettoref07_args s.Args).bind fun r_8 => if r_8 = true then (if (s.Else.length : Int) = 0 then ((lazarettoref07_none s.Target).bind fun r_9 => if r_9 = true then ((lazarettoref07_none s.Value).bind fun r_10 => some r_10) else (some false)) else (some false)) else (some false)) else (some false)) else (some false)) else (if s.Kind = 5 then (if (s.Else.length : Int) = 0 then ((lazarettoref05_Name s.Name).bind fun r_11 => if r_11 = true then ((lazarettoref07_none s.Target).bind fun r_12 => if r_12 = true then ((lazarettoref07_none s.Value).bind fun r_13 => if r_13 = true then (if (s.Args.length : Int) ≤ 16384 then ((lazarettoref07_args s.Args).bind fun r_14 => some r_14) else (some false)) else (some false)) else (some false)) else (some false)) else (some false)) else (some false)))))) else (if s.Kind = 1 then (some false) else (if s.Kind = 2 then (if s.Name = [] then (if (s.Args.length : Int) = 0 then ((lazarettoref07_none s.Target).bind fun r_15 => if r_15 = true then ((lazarettoref06_Check s.Value).bind fun r_16 => some r_16) else (some false)) else (some false)) else (some false)) else (if s.Kind = 3 then (if s.Name = [] then (if (s.Args.length : Int) = 0 then (if (s.Else.length : Int) = 0 then ((lazarettoref07_none s.Target).bind fun r_17 => if r_17 = true then ((lazarettoref06_Check s.Value).bind fun r_18 => some r_18) else (some false)) else (some false)) else (some false)) else (some false)) else (if s.Kind = 4 then ((lazarettoref05_Name s.Name).bind fun r_19 => if r_19 = true then (if (s.Args.length : Int) = 2 then ((lazarettoref07_args s.Args).bind fun r_20 => if r_20 = true then (if (s.Else.length : Int) = 0 then ((lazarettoref07_none s.Target).bind fun r_21 => if r_21 = true then ((lazarettoref07_none s.Value).bind fun r_22 => some r_22) else (some false)) else (some false)) else (some false)) else (some false)) else (some false)) else (if s.Kind = 5 then (some false) else (some false))))))
def lazarettoref06_Print (e : api_Expr) : Option Str :=
  (lazarettoref06_Check e).bind fun r_1 => if r_1 = true then ((lazarettoref06_text e).bind fun r_2 => some r_2) else (some [])
def lazarettoref07_index (e : api_Expr) : Option Str :=
  if e.Op = 3 then ((e.Args[0]?).bind fun x_1 => (lazarettoref06_Print x_1).bind fun r_2 => need (r_2.length + 1 ≤ 281474976710656) (need (r_2.length + 2 ≤ 281474976710656) (some ((([91] : Str) ++ r_2) ++ ([93] : Str))))) else (some [])
def lazarettoref07_head_L1 (s : api_Stmt) : (Str × Nat) → Option ((Str × Nat) ⊕ (Str))
  | (t_25, i_26) => if (i_26 : Int) < (s.Args.length : Int) then (if 0 < (i_26 : Int) then (need (t_25.length + 2 ≤ 281474976710656) ((s.Args[i_26]?).bind fun x_30 => (lazarettoref06_Print x_30).bind fun r_31 => need (t_25.length + r_31.length + 2 ≤ 281474976710656) (some (.inl (((t_25 ++ ([44, 32] : Str)) ++ r_31), (i_26 + 1)))))) else ((s.Args[i_26]?).bind fun x_33 => (lazarettoref06_Print x_33).bind fun r_34 => need (t_25.length + r_34.length ≤ 281474976710656) (some (.inl ((t_25 ++ r_34), (i_26 + 1)))))) else (some (.inr (t_25)))
def lazarettoref07_head (s : api_Stmt) : Option Str :=
  if s.Kind = 1 then ((lazarettoref06_Print (⟨2, 0, 0, s.Target.Name, []⟩ : api_Expr)).bind fun r_1 => (lazarettoref07_index s.Target).bind fun r_2 => need (r_1.length + r_2.length ≤ 281474976710656) (need (r_1.length + r_2.length + 4 ≤ 281474976710656) ((lazarettoref06_Print s.Value).bind fun r_5 => need (r_1.length + r_2.length + r_5.length + 4 ≤ 281474976710656) (need (r_1.length + r_2.length + r_5.length + 5 ≤ 281474976710656) (some ((((r_1 ++ r_2) ++ ([32, 58, 61, 32] : Str)) ++ r_5) ++ ([59] : Str))))))) else (if s.Kind = 2 then ((lazarettoref06_Print s.Value).bind fun r_8 => need (r_8.length + 3 ≤ 281474976710656) (need (r_8.length + 9 ≤ 281474976710656) (some ((([73, 70, 32] : Str) ++ r_8) ++ ([32, 84, 72, 69, 78, 32] : Str))))) else (if s.Kind = 3 then ((lazarettoref06_Print s.Value).bind fun r_11 => need (r_11.length + 6 ≤ 281474976710656) (need (r_11.length + 10 ≤ 281474976710656) (some ((([87, 72, 73, 76, 69, 32] : Str) ++ r_11) ++ ([32, 68, 79, 32] : Str))))) else (if s.Kind = 4 then (need (s.Name.length + 4 ≤ 281474976710656) (need (s.Name.length + 8 ≤ 281474976710656) ((s.Args[0]?).bind fun x_16 => (lazarettoref06_Print x_16).bind fun r_17 => need (s.Name.length + r_17.length + 8 ≤ 281474976710656) (need (s.Name.length + r_17.length + 12 ≤ 281474976710656) ((s.Args[1]?).bind fun x_20 => (lazarettoref06_Print x_20).bind fun r_21 => need (s.Name.length + r_17.length + r_21.length + 12 ≤ 281474976710656) (need (s.Name.length + r_17.length + r_21.length + 16 ≤ 281474976710656) (some ((((((([70, 79, 82, 32] : Str) ++ s.Name) ++ ([32, 58, 61, 32] : Str)) ++ r_17) ++ ([32, 84, 79, 32] : Str)) ++ r_21) ++ ([32, 68, 79, 32] : Str))))))))) else (need (s.Name.length + 1 ≤ 281474976710656) ((loop (lazarettoref07_head_L1 s) ((s.Name ++ ([40] : Str)), 0)).bind (fun e_27 => need (e_27.length + 2 ≤ 281474976710656) (some (e_27 ++ ([41, 59] : Str)))))))))
def lazarettoref07_brief_L2 (lazarettoref07_brief_r : (List api_Stmt) → Int → Int → Option Int) (l : List api_Stmt) (deep : Int) : (Int × Nat) → Option ((Int × Nat) ⊕ (Int ⊕ Int))
  | (left_12, i_13) => if (i_13 : Int) < (l.length : Int) then (if 0 ≤ left_12 then ((l[i_13]?).bind fun x_16 => (lazarettoref07_form x_16).bind fun r_17 => if r_17 = true then ((lazarettoref07_head x_16).bind fun r_18 => if 0 ≤ (w64 (left_12 - (r_18.length : Int))) then ((lazarettoref07_brief_r x_16.Body (w64 (deep - 1)) (w64 (left_12 - (r_18.length : Int)))).bind fun r_19 => if 0 ≤ r_19 then ((lazarettoref07_brief_r x_16.Else (w64 (deep - 1)) r_19).bind fun r_20 => some (.inl (r_20, (i_13 + 1)))) else (some (.inl (r_19, (i_13 + 1))))) else (some (.inl ((w64 (left_12 - (r_18.length : Int))), (i_13 + 1))))) else (some (.inr (.inl ((-1)))))) else (some (.inr (.inr (left_12))))) else (some (.inr (.inr (left_12))))
def lazarettoref07_brief_L1 (lazarettoref07_brief_r : (List api_Stmt) → Int → Int → Option Int) (l : List api_Stmt) (deep : Int) : (Int × Nat) → Option ((Int × Nat) ⊕ (Int ⊕ Int))
  | (left_1, i_2) => if (i_2 : Int) < (l.length : Int) then (if 0 ≤ left_1 then ((l[i_2]?).bind fun x_5 => (lazarettoref07_form x_5).bind fun r_6 => if r_6 = true then ((lazarettoref07_head x_5).bind fun r_7 => if 0 ≤ (w64 (left_1 - (r_7.length : Int))) then ((lazarettoref07_brief_r x_5.Body (w64 (deep - 1)) (w64 (left_1 - (r_7.length : Int)))).bind fun r_8 => if 0 ≤ r_8 then ((lazarettoref07_brief_r x_5.Else (w64 (deep - 1)) r_8).bind fun r_9 => some (.inl (r_9, (i_2 + 1)))) else (some (.inl (r_8, (i_2 + 1))))) else (some (.inl ((w64 (left_1 - (r_7.length : Int))), (i_2 + 1))))) else (some (.inr (.inl ((-1)))))) else (some (.inr (.inr (left_1))))) else (some (.inr (.inr (left_1))))
def lazarettoref07_brief_b (lazarettoref07_brief_r : (List api_Stmt) → Int → Int → Option Int) (l : List api_Stmt) (deep : Int) (left : Int) : Option Int :=
  if deep < 0 then (some (-1)) else (if 0 < (l.length : Int) then (if deep < 1 then (some (-1)) else (if left < (l.length : Int) then (some (-1)) else ((loop (lazarettoref07_brief_L1 lazarettoref07_brief_r l deep) (left, 0)).bind (fun e__ => match e__ with | (.inl e_10) => some e_10 | (.inr left_11) => some left_11)))) else (if left < (l.length : Int) then (some (-1)) else ((loop (lazarettoref07_brief_L2 lazarettoref07_brief_r l deep) (left, 0)).bind (fun e__ => match e__ with | (.inl e_21) => some e_21 | (.inr left_22) => some left_22))))
def lazarettoref07_brief_g : Nat → ((List api_Stmt) → Int → Int → Option Int)
  | 0 => fun _ _ _ => none
  | n + 1 => lazarettoref07_brief_b (lazarettoref07_brief_g n)
def lazarettoref07_brief_n (n : Nat) (l : List api_Stmt) (deep : Int) (left : Int) : Option Int := (lazarettoref07_brief_g n) l deep left
def lazarettoref07_brief (l : List api_Stmt) (deep : Int) (left : Int) : Option Int := lazarettoref07_brief_n 1000000 l deep left
def lazarettoref07_Fits (l : List api_Stmt) : Option Bool :=
  (lazarettoref07_brief l 24 16384).bind fun r_1 => some (decide (0 ≤ r_1))
def lazarettoref08_tasks_L2 (x_4 : api_Task) : Nat → Option ((Nat) ⊕ (Bool ⊕ Unit))
  | k_6 => if (k_6 : Int) < (x_4.Budget.length : Int) then ((x_4.Budget[k_6]?).bind fun x_9 => if x_9 < 0 then (some (.inr (.inl (false)))) else (if 4096 < x_9 then (some (.inr (.inl (false)))) else (some (.inl (k_6 + 1))))) else (some (.inr (.inr (()))))
def lazarettoref08_tasks_L1 (p : api_Program) : Nat → Option ((Nat) ⊕ (Bool ⊕ Unit))
  | i_1 => if (i_1 : Int) < (p.Tasks.length : Int) then ((p.Tasks[i_1]?).bind fun x_4 => if x_4.Every < 1 then (some (.inr (.inl (false)))) else (if 65536 < x_4.Every then (some (.inr (.inl (false)))) else (if x_4.Priority < 0 then (some (.inr (.inl (false)))) else (if 255 < x_4.Priority then (some (.inr (.inl (false)))) else (if (x_4.Budget.length : Int) = (p.Lattice.Names.length : Int) then ((lazarettoref07_Fits x_4.Body).bind fun r_5 => if r_5 = true then ((loop (lazarettoref08_tasks_L2 x_4) 0).bind (fun e__ => match e__ with | (.inl e_10) => some (.inr (.inl (e_10))) | (.inr ()) => some (.inl (i_1 + 1)))) else (some (.inr (.inl (false))))) else (some (.inr (.inl (false))))))))) else (some (.inr (.inr (()))))
def lazarettoref08_tasks (p : api_Program) : Option Bool :=
  (loop (lazarettoref08_tasks_L1 p) 0).bind (fun e__ => match e__ with | (.inl e_11) => some e_11 | (.inr ()) => some true)
def lazarettoref08_signed (n : Int) : Option Str :=
  if n < 0 then ((lazarettoref05_Digits (w64 (0 - n))).bind fun r_1 => need (r_1.length + 1 ≤ 281474976710656) (some (([45] : Str) ++ r_1))) else ((lazarettoref05_Digits n).bind fun r_3 => some r_3)
def lazarettoref08_typ (t : api_Type) : Option Str :=
  (idx [[], ([66, 79, 79, 76] : Str), ([73, 78, 84] : Str), ([68, 73, 78, 84] : Str), ([84, 73, 77, 69] : Str)] t.Kind).bind fun x_1 => if t.Len = 0 then (some x_1) else ((lazarettoref08_signed t.Low).bind fun r_2 => need (r_2.length + 6 ≤ 281474976710656) (need (r_2.length + 8 ≤ 281474976710656) ((lazarettoref08_signed (w64 ((w64 (t.Low + t.Len)) - 1))).bind fun r_5 => need (r_2.length + r_5.length + 8 ≤ 281474976710656) (need (r_2.length + r_5.length + 13 ≤ 281474976710656) (need (r_2.length + r_5.length + x_1.length + 13 ≤ 281474976710656) (some (((((([65, 82, 82, 65, 89, 91] : Str) ++ r_2) ++ ([46, 46] : Str)) ++ r_5) ++ ([93, 32, 79, 70, 32] : Str)) ++ x_1)))))))
def lazarettoref08_one (p : api_Program) (v : api_Var) : Option Str :=
  (idx [([86, 65, 82, 32] : Str), ([73, 78, 80, 85, 84, 32] : Str), ([79, 85, 84, 80, 85, 84, 32] : Str)] v.Mode).bind fun x_1 => need (x_1.length + v.Name.length ≤ 281474976710656) (need (x_1.length + v.Name.length + 2 ≤ 281474976710656) ((lazarettoref08_typ v.Type_).bind fun r_4 => need (x_1.length + v.Name.length + r_4.length + 2 ≤ 281474976710656) (if 0 ≤ v.Label then ((idx p.Lattice.Names v.Label).bind fun x_6 => need (x_6.length + 3 ≤ 281474976710656) (need (x_1.length + v.Name.length + r_4.length + x_6.length + 5 ≤ 281474976710656) (if v.Mode = 2 then (if v.Type_.Kind = 1 then (if v.Safe = 1 then (need (x_1.length + v.Name.length + r_4.length + x_6.length + 13 ≤ 281474976710656) (need (x_1.length + v.Name.length + r_4.length + x_6.length + 15 ≤ 281474976710656) (some ((((((x_1 ++ v.Name) ++ ([58, 32] : Str)) ++ r_4) ++ (([32, 64, 32] : Str) ++ x_6)) ++ ([32, 58, 61, 32, 84, 82, 85, 69] : Str)) ++ ([59, 10] : Str))))) else (need (x_1.length + v.Name.length + r_4.length + x_6.length + 14 ≤ 281474976710656) (need (x_1.length + v.Name.length + r_4.length + x_6.length + 16 ≤ 281474976710656) (some ((((((x_1 ++ v.Name) ++ ([58, 32] : Str)) ++ r_4) ++ (([32, 64, 32] : Str) ++ x_6)) ++ ([32, 58, 61, 32, 70, 65, 76, 83, 69] : Str)) ++ ([59, 10] : Str)))))) else ((lazarettoref08_signed v.Safe).bind fun r_13 => need (r_13.length + 4 ≤ 281474976710656) (need (x_1.length + v.Name.length + r_4.length + x_6.length + r_13.length + 9 ≤ 281474976710656) (need (x_1.length + v.Name.length + r_4.length + x_6.length + r_13.length + 11 ≤ 281474976710656) (some ((((((x_1 ++ v.Name) ++ ([58, 32] : Str)) ++ r_4) ++ (([32, 64, 32] : Str) ++ x_6)) ++ (([32, 58, 61, 32] : Str) ++ r_13)) ++ ([59, 10] : Str))))))) else (need (x_1.length + v.Name.length + r_4.length + x_6.length + 7 ≤ 281474976710656) (some (((((x_1 ++ v.Name) ++ ([58, 32] : Str)) ++ r_4) ++ (([32, 64, 32] : Str) ++ x_6)) ++ ([59, 10] : Str))))))) else (if v.Mode = 2 then (if v.Type_.Kind = 1 then (if v.Safe = 1 then (need (x_1.length + v.Name.length + r_4.length + 10 ≤ 281474976710656) (need (x_1.length + v.Name.length + r_4.length + 12 ≤ 281474976710656) (some (((((x_1 ++ v.Name) ++ ([58, 32] : Str)) ++ r_4) ++ ([32, 58, 61, 32, 84, 82, 85, 69] : Str)) ++ ([59, 10] : Str))))) else (need (x_1.length + v.Name.length + r_4.length + 11 ≤ 281474976710656) (need (x_1.length + v.Name.length + r_4.length + 13 ≤ 281474976710656) (some (((((x_1 ++ v.Name) ++ ([58, 32] : Str)) ++ r_4) ++ ([32, 58, 61, 32, 70, 65, 76, 83, 69] : Str)) ++ ([59, 10] : Str)))))) else ((lazarettoref08_signed v.Safe).bind fun r_22 => need (r_22.length + 4 ≤ 281474976710656) (need (x_1.length + v.Name.length + r_4.length + r_22.length + 6 ≤ 281474976710656) (need (x_1.length + v.Name.length + r_4.length + r_22.length + 8 ≤ 281474976710656) (some (((((x_1 ++ v.Name) ++ ([58, 32] : Str)) ++ r_4) ++ (([32, 58, 61, 32] : Str) ++ r_22)) ++ ([59, 10] : Str))))))) else (need (x_1.length + v.Name.length + r_4.length + 4 ≤ 281474976710656) (some ((((x_1 ++ v.Name) ++ ([58, 32] : Str)) ++ r_4) ++ ([59, 10] : Str))))))))
def lazarettoref07_text_L1 (lazarettoref07_text_r : (List api_Stmt) → Option Str) (l : List api_Stmt) : (Str × Nat) → Option ((Str × Nat) ⊕ (Str))
  | (t_1, i_2) => if (i_2 : Int) < (l.length : Int) then (if 0 < (i_2 : Int) then (need (t_1.length + 1 ≤ 281474976710656) ((l[i_2]?).bind fun x_6 => (lazarettoref07_head x_6).bind fun r_7 => need (t_1.length + r_7.length + 1 ≤ 281474976710656) ((lazarettoref07_text_r x_6.Body).bind fun r_9 => if r_9 = [] then (if x_6.Kind = 2 then (need (t_1.length + r_7.length + r_9.length + 1 ≤ 281474976710656) (if 0 < (x_6.Else.length : Int) then ((lazarettoref07_text_r x_6.Else).bind fun r_11 => need (r_11.length + 5 ≤ 281474976710656) (need (r_11.length + 6 ≤ 281474976710656) (need (t_1.length + r_7.length + r_9.length + r_11.length + 7 ≤ 281474976710656) (need (t_1.length + r_7.length + r_9.length + r_11.length + 14 ≤ 281474976710656) (some (.inl ((((((t_1 ++ ([32] : Str)) ++ r_7) ++ r_9) ++ ((([69, 76, 83, 69, 32] : Str) ++ r_11) ++ ([32] : Str))) ++ ([69, 78, 68, 95, 73, 70, 59] : Str)), (i_2 + 1)))))))) else (need (t_1.length + r_7.length + r_9.length + 8 ≤ 281474976710656) (some (.inl (((((t_1 ++ ([32] : Str)) ++ r_7) ++ r_9) ++ ([69, 78, 68, 95, 73, 70, 59] : Str)), (i_2 + 1))))))) else (if x_6.Kind = 3 then (need (r_9.length + 10 ≤ 281474976710656) (need (t_1.length + r_7.length + r_9.length + 11 ≤ 281474976710656) (some (.inl ((((t_1 ++ ([32] : Str)) ++ r_7) ++ (r_9 ++ ([69, 78, 68, 95, 87, 72, 73, 76, 69, 59] : Str))), (i_2 + 1)))))) else (if x_6.Kind = 4 then (need (r_9.length + 8 ≤ 281474976710656) (need (t_1.length + r_7.length + r_9.length + 9 ≤ 281474976710656) (some (.inl ((((t_1 ++ ([32] : Str)) ++ r_7) ++ (r_9 ++ ([69, 78, 68, 95, 70, 79, 82, 59] : Str))), (i_2 + 1)))))) else (some (.inl (((t_1 ++ ([32] : Str)) ++ r_7), (i_2 + 1))))))) else (need (r_9.length + 1 ≤ 281474976710656) (if x_6.Kind = 2 then (need (t_1.length + r_7.length + r_9.length + 2 ≤ 281474976710656) (if 0 < (x_6.Else.length : Int) then ((lazarettoref07_text_r x_6.Else).bind fun r_23 => need (r_23.length + 5 ≤ 281474976710656) (need (r_23.length + 6 ≤ 281474976710656) (need (t_1.length + r_7.length + r_9.length + r_23.length + 8 ≤ 281474976710656) (need (t_1.length + r_7.length + r_9.length + r_23.length + 15 ≤ 281474976710656) (some (.inl ((((((t_1 ++ ([32] : Str)) ++ r_7) ++ (r_9 ++ ([32] : Str))) ++ ((([69, 76, 83, 69, 32] : Str) ++ r_23) ++ ([32] : Str))) ++ ([69, 78, 68, 95, 73, 70, 59] : Str)), (i_2 + 1)))))))) else (need (t_1.length + r_7.length + r_9.length + 9 ≤ 281474976710656) (some (.inl (((((t_1 ++ ([32] : Str)) ++ r_7) ++ (r_9 ++ ([32] : Str))) ++ ([69, 78, 68, 95, 73, 70, 59] : Str)), (i_2 + 1))))))) else (if x_6.Kind = 3 then (need (r_9.length + 11 ≤ 281474976710656) (need (t_1.length + r_7.length + r_9.length + 12 ≤ 281474976710656) (some (.inl ((((t_1 ++ ([32] : Str)) ++ r_7) ++ ((r_9 ++ ([32] : Str)) ++ ([69, 78, 68, 95, 87, 72, 73, 76, 69, 59] : Str))), (i_2 + 1)))))) else (if x_6.Kind = 4 then (need (r_9.length + 9 ≤ 281474976710656) (need (t_1.length + r_7.length + r_9.length + 10 ≤ 281474976710656) (some (.inl ((((t_1 ++ ([32] : Str)) ++ r_7) ++ ((r_9 ++ ([32] : Str)) ++ ([69, 78, 68, 95, 70, 79, 82, 59] : Str))), (i_2 + 1)))))) else (some (.inl (((t_1 ++ ([32] : Str)) ++ r_7), (i_2 + 1))))))))))) else ((l[i_2]?).bind fun x_33 => (lazarettoref07_head x_33).bind fun r_34 => need (t_1.length + r_34.length ≤ 281474976710656) ((lazarettoref07_text_r x_33.Body).bind fun r_36 => if r_36 = [] then (if x_33.Kind = 2 then (need (t_1.length + r_34.length + r_36.length ≤ 281474976710656) (if 0 < (x_33.Else.length : Int) then ((lazarettoref07_text_r x_33.Else).bind fun r_38 => need (r_38.length + 5 ≤ 281474976710656) (need (r_38.length + 6 ≤ 281474976710656) (need (t_1.length + r_34.length + r_36.length + r_38.length + 6 ≤ 281474976710656) (need (t_1.length + r_34.length + r_36.length + r_38.length + 13 ≤ 281474976710656) (some (.inl (((((t_1 ++ r_34) ++ r_36) ++ ((([69, 76, 83, 69, 32] : Str) ++ r_38) ++ ([32] : Str))) ++ ([69, 78, 68, 95, 73, 70, 59] : Str)), (i_2 + 1)))))))) else (need (t_1.length + r_34.length + r_36.length + 7 ≤ 281474976710656) (some (.inl ((((t_1 ++ r_34) ++ r_36) ++ ([69, 78, 68, 95, 73, 70, 59] : Str)), (i_2 + 1))))))) else (if x_33.Kind = 3 then (need (r_36.length + 10 ≤ 281474976710656) (need (t_1.length + r_34.length + r_36.length + 10 ≤ 281474976710656) (some (.inl (((t_1 ++ r_34) ++ (r_36 ++ ([69, 78, 68, 95, 87, 72, 73, 76, 69, 59] : Str))), (i_2 + 1)))))) else (if x_33.Kind = 4 then (need (r_36.length + 8 ≤ 281474976710656) (need (t_1.length + r_34.length + r_36.length + 8 ≤ 281474976710656) (some (.inl (((t_1 ++ r_34) ++ (r_36 ++ ([69, 78, 68, 95, 70, 79, 82, 59] : Str))), (i_2 + 1)))))) else (some (.inl ((t_1 ++ r_34), (i_2 + 1))))))) else (need (r_36.length + 1 ≤ 281474976710656) (if x_33.Kind = 2 then (need (t_1.length + r_34.length + r_36.length + 1 ≤ 281474976710656) (if 0 < (x_33.Else.length : Int) then ((lazarettoref07_text_r x_33.Else).bind fun r_50 => need (r_50.length + 5 ≤ 281474976710656) (need (r_50.length + 6 ≤ 281474976710656) (need (t_1.length + r_34.length + r_36.length + r_50.length + 7 ≤ 281474976710656) (need (t_1.length + r_34.length + r_36.length + r_50.length + 14 ≤ 281474976710656) (some (.inl (((((t_1 ++ r_34) ++ (r_36 ++ ([32] : Str))) ++ ((([69, 76, 83, 69, 32] : Str) ++ r_50) ++ ([32] : Str))) ++ ([69, 78, 68, 95, 73, 70, 59] : Str)), (i_2 + 1)))))))) else (need (t_1.length + r_34.length + r_36.length + 8 ≤ 281474976710656) (some (.inl ((((t_1 ++ r_34) ++ (r_36 ++ ([32] : Str))) ++ ([69, 78, 68, 95, 73, 70, 59] : Str)), (i_2 + 1))))))) else (if x_33.Kind = 3 then (need (r_36.length + 11 ≤ 281474976710656) (need (t_1.length + r_34.length + r_36.length + 11 ≤ 281474976710656) (some (.inl (((t_1 ++ r_34) ++ ((r_36 ++ ([32] : Str)) ++ ([69, 78, 68, 95, 87, 72, 73, 76, 69, 59] : Str))), (i_2 + 1)))))) else (if x_33.Kind = 4 then (need (r_36.length + 9 ≤ 281474976710656) (need (t_1.length + r_34.length + r_36.length + 9 ≤ 281474976710656) (some (.inl (((t_1 ++ r_34) ++ ((r_36 ++ ([32] : Str)) ++ ([69, 78, 68, 95, 70, 79, 82, 59] : Str))), (i_2 + 1)))))) else (some (.inl ((t_1 ++ r_34), (i_2 + 1))))))))))) else (some (.inr (t_1)))
def lazarettoref07_text_b (lazarettoref07_text_r : (List api_Stmt) → Option Str) (l : List api_Stmt) : Option Str :=
  (loop (lazarettoref07_text_L1 lazarettoref07_text_r l) ([], 0)).bind (fun e_3 => some e_3)
def lazarettoref07_text_g : Nat → ((List api_Stmt) → Option Str)
  | 0 => fun _ => none
  | n + 1 => lazarettoref07_text_b (lazarettoref07_text_g n)
def lazarettoref07_text_n (n : Nat) (l : List api_Stmt) : Option Str := (lazarettoref07_text_g n) l
def lazarettoref07_text (l : List api_Stmt) : Option Str := lazarettoref07_text_n 1000000 l
def lazarettoref07_Text (l : List api_Stmt) : Option Str :=
  (lazarettoref07_text l).bind fun r_1 => some r_1
def lazarettoref08_task_L1 (p : api_Program) (t : api_Task) : (Str × Nat) → Option ((Str × Nat) ⊕ (Str))
  | (s_6, i_7) => if (i_7 : Int) < (t.Budget.length : Int) then (if (i_7 : Int) = 0 then (need (s_6.length + 8 ≤ 281474976710656) ((p.Lattice.Names[i_7]?).bind fun x_11 => need (x_11.length + 1 ≤ 281474976710656) ((t.Budget[i_7]?).bind fun x_13 => (lazarettoref05_Digits x_13).bind fun r_14 => need (x_11.length + r_14.length + 1 ≤ 281474976710656) (need (s_6.length + x_11.length + r_14.length + 9 ≤ 281474976710656) (some (.inl (((s_6 ++ ([32, 66, 85, 68, 71, 69, 84, 32] : Str)) ++ ((x_11 ++ ([32] : Str)) ++ r_14)), (i_7 + 1)))))))) else (need (s_6.length + 2 ≤ 281474976710656) ((p.Lattice.Names[i_7]?).bind fun x_18 => need (x_18.length + 1 ≤ 281474976710656) ((t.Budget[i_7]?).bind fun x_20 => (lazarettoref05_Digits x_20).bind fun r_21 => need (x_18.length + r_21.length + 1 ≤ 281474976710656) (need (s_6.length + x_18.length + r_21.length + 3 ≤ 281474976710656) (some (.inl (((s_6 ++ ([44, 32] : Str)) ++ ((x_18 ++ ([32] : Str)) ++ r_21)), (i_7 + 1))))))))) else (some (.inr (s_6)))
def lazarettoref08_task (p : api_Program) (t : api_Task) : Option Str :=
  (lazarettoref05_Digits t.Every).bind fun r_1 => need (r_1.length + 11 ≤ 281474976710656) (need (r_1.length + 21 ≤ 281474976710656) ((lazarettoref05_Digits t.Priority).bind fun r_4 => need (r_1.length + r_4.length + 21 ≤ 281474976710656) ((loop (lazarettoref08_task_L1 p t) ((((([84, 65, 83, 75, 32, 69, 86, 69, 82, 89, 32] : Str) ++ r_1) ++ ([32, 80, 82, 73, 79, 82, 73, 84, 89, 32] : Str)) ++ r_4), 0)).bind (fun e_8 => need (e_8.length + 4 ≤ 281474976710656) ((lazarettoref07_Text t.Body).bind fun r_26 => if r_26 = [] then (need (e_8.length + 9 ≤ 281474976710656) (some ((e_8 ++ ([32, 68, 79, 32] : Str)) ++ ([69, 78, 68, 59, 10] : Str)))) else (need (r_26.length + 1 ≤ 281474976710656) (need (e_8.length + r_26.length + 5 ≤ 281474976710656) (need (e_8.length + r_26.length + 10 ≤ 281474976710656) (some (((e_8 ++ ([32, 68, 79, 32] : Str)) ++ (r_26 ++ ([32] : Str))) ++ ([69, 78, 68, 59, 10] : Str)))))))))))
def lazarettoref08_text_L6 (p : api_Program) : (Str × Nat) → Option ((Str × Nat) ⊕ (Str))
  | (s_60, i_61) => if (i_61 : Int) < (p.Tasks.length : Int) then ((p.Tasks[i_61]?).bind fun x_64 => (lazarettoref08_task p x_64).bind fun r_65 => need (s_60.length + r_65.length ≤ 281474976710656) (some (.inl ((s_60 ++ r_65), (i_61 + 1))))) else (some (.inr (s_60)))
def lazarettoref08_text_L5 (p : api_Program) : (Str × Nat) → Option ((Str × Nat) ⊕ (Str))
  | (s_46, i_47) => if (i_47 : Int) < (p.Blocks.length : Int) then ((p.Blocks[i_47]?).bind fun x_50 => need (x_50.Name.length + 6 ≤ 281474976710656) (need (x_50.Name.length + 8 ≤ 281474976710656) (need (x_50.Name.length + x_50.Kind.length + 8 ≤ 281474976710656) (need (x_50.Name.length + x_50.Kind.length + 11 ≤ 281474976710656) ((idx p.Lattice.Names x_50.Label).bind fun x_55 => need (x_50.Name.length + x_50.Kind.length + x_55.length + 11 ≤ 281474976710656) (need (x_50.Name.length + x_50.Kind.length + x_55.length + 13 ≤ 281474976710656) (need (s_46.length + x_50.Name.length + x_50.Kind.length + x_55.length + 13 ≤ 281474976710656) (some (.inl ((s_46 ++ ((((((([66, 76, 79, 67, 75, 32] : Str) ++ x_50.Name) ++ ([58, 32] : Str)) ++ x_50.Kind) ++ ([32, 64, 32] : Str)) ++ x_55) ++ ([59, 10] : Str))), (i_47 + 1))))))))))) else (some (.inr (s_46)))
def lazarettoref08_text_L4 (p : api_Program) : (Str × Nat) → Option ((Str × Nat) ⊕ (Str))
  | (s_38, i_39) => if (i_39 : Int) < (p.Vars.length : Int) then ((p.Vars[i_39]?).bind fun x_42 => (lazarettoref08_one p x_42).bind fun r_43 => need (s_38.length + r_43.length ≤ 281474976710656) (some (.inl ((s_38 ++ r_43), (i_39 + 1))))) else (some (.inr (s_38)))
def lazarettoref08_text_L3 (p : api_Program) : (Str × Nat) → Option ((Str × Nat) ⊕ (Str))
  | (s_23, i_24) => if (i_24 : Int) < (p.Sites.length : Int) then ((p.Sites[i_24]?).bind fun x_27 => need (x_27.Name.length + 5 ≤ 281474976710656) (need (x_27.Name.length + 7 ≤ 281474976710656) ((idx p.Lattice.Names x_27.From).bind fun x_30 => need (x_27.Name.length + x_30.length + 7 ≤ 281474976710656) (need (x_27.Name.length + x_30.length + 11 ≤ 281474976710656) ((idx p.Lattice.Names x_27.To).bind fun x_33 => need (x_27.Name.length + x_30.length + x_33.length + 11 ≤ 281474976710656) (need (x_27.Name.length + x_30.length + x_33.length + 13 ≤ 281474976710656) (need (s_23.length + x_27.Name.length + x_30.length + x_33.length + 13 ≤ 281474976710656) (some (.inl ((s_23 ++ ((((((([83, 73, 84, 69, 32] : Str) ++ x_27.Name) ++ ([58, 32] : Str)) ++ x_30) ++ ([32, 45, 62, 32] : Str)) ++ x_33) ++ ([59, 10] : Str))), (i_24 + 1))))))))))) else (some (.inr (s_23)))
def lazarettoref08_text_L2 (p : api_Program) : (Str × Nat) → Option ((Str × Nat) ⊕ (Str))
  | (s_10, i_11) => if (i_11 : Int) < (p.Lattice.Below.length : Int) then ((p.Lattice.Below[i_11]?).bind fun x_14 => (idx p.Lattice.Names x_14.a0).bind fun x_15 => need (x_15.length + 6 ≤ 281474976710656) (need (x_15.length + 9 ≤ 281474976710656) ((idx p.Lattice.Names x_14.a1).bind fun x_18 => need (x_15.length + x_18.length + 9 ≤ 281474976710656) (need (x_15.length + x_18.length + 11 ≤ 281474976710656) (need (s_10.length + x_15.length + x_18.length + 11 ≤ 281474976710656) (some (.inl ((s_10 ++ ((((([76, 65, 66, 69, 76, 32] : Str) ++ x_15) ++ ([32, 60, 32] : Str)) ++ x_18) ++ ([59, 10] : Str))), (i_11 + 1))))))))) else (some (.inr (s_10)))
def lazarettoref08_text_L1 (p : api_Program) : (Str × Nat) → Option ((Str × Nat) ⊕ (Str))
  | (s_1, i_2) => if (i_2 : Int) < (p.Lattice.Names.length : Int) then ((p.Lattice.Names[i_2]?).bind fun x_5 => need (x_5.length + 6 ≤ 281474976710656) (need (x_5.length + 8 ≤ 281474976710656) (need (s_1.length + x_5.length + 8 ≤ 281474976710656) (some (.inl ((s_1 ++ ((([76, 65, 66, 69, 76, 32] : Str) ++ x_5) ++ ([59, 10] : Str))), (i_2 + 1))))))) else (some (.inr (s_1)))
def lazarettoref08_text (p : api_Program) : Option Str :=
  (loop (lazarettoref08_text_L1 p) ([], 0)).bind (fun e_3 => (loop (lazarettoref08_text_L2 p) (e_3, 0)).bind (fun e_12 => (loop (lazarettoref08_text_L3 p) (e_12, 0)).bind (fun e_25 => (loop (lazarettoref08_text_L4 p) (e_25, 0)).bind (fun e_40 => (loop (lazarettoref08_text_L5 p) (e_40, 0)).bind (fun e_48 => (loop (lazarettoref08_text_L6 p) (e_48, 0)).bind (fun e_62 => some e_62))))))
def lazarettoref08_Check (p : api_Program) : Option Bool :=
  (lazarettoref08_parts p).bind fun r_1 => if r_1 = true then ((lazarettoref08_tasks p).bind fun r_2 => if r_2 = true then ((lazarettoref08_text p).bind fun r_3 => some (decide ((r_3.length : Int) ≤ 16384))) else (some false)) else (some false)
def lazarettoref14_loops_L1 (lazarettoref14_loops_r : (List api_Stmt) → Option Int) (l : List api_Stmt) : (Int × Nat) → Option ((Int × Nat) ⊕ (Int))
  | (n_1, i_2) => if (i_2 : Int) < (l.length : Int) then ((l[i_2]?).bind fun x_5 => if x_5.Kind = 4 then ((lazarettoref14_loops_r x_5.Body).bind fun r_6 => (lazarettoref14_loops_r x_5.Else).bind fun r_7 => some (.inl ((w64 ((w64 (n_1 + 1)) + (w64 (r_6 + r_7)))), (i_2 + 1)))) else ((lazarettoref14_loops_r x_5.Body).bind fun r_8 => (lazarettoref14_loops_r x_5.Else).bind fun r_9 => some (.inl ((w64 (n_1 + (w64 (r_8 + r_9)))), (i_2 + 1))))) else (some (.inr (n_1)))
def lazarettoref14_loops_b (lazarettoref14_loops_r : (List api_Stmt) → Option Int) (l : List api_Stmt) : Option Int :=
  (loop (lazarettoref14_loops_L1 lazarettoref14_loops_r l) (0, 0)).bind (fun e_3 => some e_3)
def lazarettoref14_loops_g : Nat → ((List api_Stmt) → Option Int)
  | 0 => fun _ => none
  | n + 1 => lazarettoref14_loops_b (lazarettoref14_loops_g n)
def lazarettoref14_loops_n (n : Nat) (l : List api_Stmt) : Option Int := (lazarettoref14_loops_g n) l
def lazarettoref14_loops (l : List api_Stmt) : Option Int := lazarettoref14_loops_n 1000000 l
def lazarettoref14_Sum_L1 (l : List Int) : (Int × Nat) → Option ((Int × Nat) ⊕ (Int))
  | (n_1, i_2) => if (i_2 : Int) < (l.length : Int) then ((l[i_2]?).bind fun x_5 => some (.inl ((w64 (n_1 + x_5)), (i_2 + 1)))) else (some (.inr (n_1)))
def lazarettoref14_Sum (l : List Int) : Option Int :=
  (loop (lazarettoref14_Sum_L1 l) (0, 0)).bind (fun e_3 => some e_3)
def lazarettoref14_caps_L1 (p : api_Program) : (Int × Nat) → Option ((Int × Nat) ⊕ (Bool ⊕ Int))
  | (n_2, i_3) => if (i_3 : Int) < (p.Tasks.length : Int) then ((p.Tasks[i_3]?).bind fun x_6 => (lazarettoref14_loops x_6.Body).bind fun r_7 => (lazarettoref14_Sum x_6.Budget).bind fun r_8 => if 4096 < r_8 then (some (.inr (.inl (false)))) else (some (.inl ((w64 (n_2 + r_7)), (i_3 + 1))))) else (some (.inr (.inr (n_2))))
def lazarettoref14_caps (p : api_Program) : Option Bool :=
  (lazarettoref08_Check p).bind fun r_1 => if r_1 = true then (if 64 < (p.Lattice.Below.length : Int) then (some false) else ((loop (lazarettoref14_caps_L1 p) (0, 0)).bind (fun e__ => match e__ with | (.inl e_9) => some e_9 | (.inr n_10) => some (decide (n_10 ≤ 48))))) else (some false)
def lazarettoref01_Leq_L2 (l : api_Lattice) : ((List Bool) × Bool × Nat) → Option (((List Bool) × Bool × Nat) ⊕ ((List Bool) × Bool))
  | (above_9, more_10, i_11) => if (i_11 : Int) < (l.Below.length : Int) then ((l.Below[i_11]?).bind fun x_14 => (lazarettoref01_Is l x_14.a0).bind fun r_15 => if r_15 = true then ((lazarettoref01_Is l x_14.a1).bind fun r_16 => if r_16 = true then ((idx above_9 x_14.a0).bind fun x_17 => if x_17 = true then ((idx above_9 x_14.a1).bind fun x_18 => if x_18 = true then (some (.inl (above_9, more_10, (i_11 + 1)))) else (some (.inl ((above_9.set x_14.a1.toNat true), true, (i_11 + 1))))) else (some (.inl (above_9, more_10, (i_11 + 1))))) else (some (.inl (above_9, more_10, (i_11 + 1))))) else (some (.inl (above_9, more_10, (i_11 + 1))))) else (some (.inr ((above_9, more_10))))
def lazarettoref01_Leq_L1 (l : api_Lattice) : ((List Bool) × Bool) → Option (((List Bool) × Bool) ⊕ (List Bool))
  | (above_5, more_6) => if more_6 = true then ((loop (lazarettoref01_Leq_L2 l) (above_5, false, 0)).bind (fun (above_19, more_20) => some (.inl (above_19, more_20)))) else (some (.inr (above_5)))
def lazarettoref01_Leq (l : api_Lattice) (a : Int) (b : Int) : Option Bool :=
  (lazarettoref01_Is l a).bind fun r_1 => if r_1 = true then ((lazarettoref01_Is l b).bind fun r_2 => if r_2 = true then (need (0 ≤ (l.Names.length : Int) ∧ 1 * (l.Names.length : Int) ≤ 140737488355328) ((idx (List.replicate l.Names.length false) a).bind fun x_4 => (loop (lazarettoref01_Leq_L1 l) (((List.replicate l.Names.length false).set a.toNat true), true)).bind (fun e_7 => (idx e_7 b).bind fun x_22 => some x_22))) else (some false)) else (some false)
def lazarettoref01_Join_L3 (l : api_Lattice) (a : Int) (b : Int) (c_1 : Nat) : (Bool × Nat) → Option ((Bool × Nat) ⊕ (Bool))
  | (ok_14, d_15) => if (d_15 : Int) < (l.Names.length : Int) then (if ok_14 = true then ((lazarettoref01_Leq l a (d_15 : Int)).bind fun r_18 => if r_18 = true then ((lazarettoref01_Leq l b (d_15 : Int)).bind fun r_19 => if r_19 = true then ((lazarettoref01_Leq l (c_1 : Int) (d_15 : Int)).bind fun r_20 => some (.inl (r_20, (d_15 + 1)))) else (some (.inl (true, (d_15 + 1))))) else (some (.inl (true, (d_15 + 1))))) else (some (.inr (ok_14)))) else (some (.inr (ok_14)))
def lazarettoref01_Join_L2 (l : api_Lattice) (a : Int) (b : Int) (c_1 : Nat) : (Bool × Nat) → Option ((Bool × Nat) ⊕ (Bool))
  | (ok_6, d_7) => if (d_7 : Int) < (l.Names.length : Int) then (if ok_6 = true then ((lazarettoref01_Leq l a (d_7 : Int)).bind fun r_10 => if r_10 = true then ((lazarettoref01_Leq l b (d_7 : Int)).bind fun r_11 => if r_11 = true then ((lazarettoref01_Leq l (c_1 : Int) (d_7 : Int)).bind fun r_12 => some (.inl (r_12, (d_7 + 1)))) else (some (.inl (true, (d_7 + 1))))) else (some (.inl (true, (d_7 + 1))))) else (some (.inr (ok_6)))) else (some (.inr (ok_6)))
def lazarettoref01_Join_L1 (l : api_Lattice) (a : Int) (b : Int) : Nat → Option ((Nat) ⊕ (Int ⊕ Unit))
  | c_1 => if (c_1 : Int) < (l.Names.length : Int) then ((lazarettoref01_Leq l a (c_1 : Int)).bind fun r_4 => if r_4 = true then ((lazarettoref01_Leq l b (c_1 : Int)).bind fun r_5 => (loop (lazarettoref01_Join_L2 l a b c_1) (r_5, 0)).bind (fun e_8 => if e_8 = true then (some (.inr (.inl ((c_1 : Int))))) else (some (.inl (c_1 + 1))))) else ((loop (lazarettoref01_Join_L3 l a b c_1) (false, 0)).bind (fun e_16 => if e_16 = true then (some (.inr (.inl ((c_1 : Int))))) else (some (.inl (c_1 + 1)))))) else (some (.inr (.inr (()))))
def lazarettoref01_Join (l : api_Lattice) (a : Int) (b : Int) : Option Int :=
  (loop (lazarettoref01_Join_L1 l a b) 0).bind (fun e__ => match e__ with | (.inl e_22) => some e_22 | (.inr ()) => some (-1))
def lazarettoref01_Meet_L3 (l : api_Lattice) (a : Int) (b : Int) (c_1 : Nat) : (Bool × Nat) → Option ((Bool × Nat) ⊕ (Bool))
  | (ok_14, d_15) => if (d_15 : Int) < (l.Names.length : Int) then (if ok_14 = true then ((lazarettoref01_Leq l (d_15 : Int) a).bind fun r_18 => if r_18 = true then ((lazarettoref01_Leq l (d_15 : Int) b).bind fun r_19 => if r_19 = true then ((lazarettoref01_Leq l (d_15 : Int) (c_1 : Int)).bind fun r_20 => some (.inl (r_20, (d_15 + 1)))) else (some (.inl (true, (d_15 + 1))))) else (some (.inl (true, (d_15 + 1))))) else (some (.inr (ok_14)))) else (some (.inr (ok_14)))
def lazarettoref01_Meet_L2 (l : api_Lattice) (a : Int) (b : Int) (c_1 : Nat) : (Bool × Nat) → Option ((Bool × Nat) ⊕ (Bool))
  | (ok_6, d_7) => if (d_7 : Int) < (l.Names.length : Int) then (if ok_6 = true then ((lazarettoref01_Leq l (d_7 : Int) a).bind fun r_10 => if r_10 = true then ((lazarettoref01_Leq l (d_7 : Int) b).bind fun r_11 => if r_11 = true then ((lazarettoref01_Leq l (d_7 : Int) (c_1 : Int)).bind fun r_12 => some (.inl (r_12, (d_7 + 1)))) else (some (.inl (true, (d_7 + 1))))) else (some (.inl (true, (d_7 + 1))))) else (some (.inr (ok_6)))) else (some (.inr (ok_6)))
def lazarettoref01_Meet_L1 (l : api_Lattice) (a : Int) (b : Int) : Nat → Option ((Nat) ⊕ (Int ⊕ Unit))
  | c_1 => if (c_1 : Int) < (l.Names.length : Int) then ((lazarettoref01_Leq l (c_1 : Int) a).bind fun r_4 => if r_4 = true then ((lazarettoref01_Leq l (c_1 : Int) b).bind fun r_5 => (loop (lazarettoref01_Meet_L2 l a b c_1) (r_5, 0)).bind (fun e_8 => if e_8 = true then (some (.inr (.inl ((c_1 : Int))))) else (some (.inl (c_1 + 1))))) else ((loop (lazarettoref01_Meet_L3 l a b c_1) (false, 0)).bind (fun e_16 => if e_16 = true then (some (.inr (.inl ((c_1 : Int))))) else (some (.inl (c_1 + 1)))))) else (some (.inr (.inr (()))))
def lazarettoref01_Meet (l : api_Lattice) (a : Int) (b : Int) : Option Int :=
  (loop (lazarettoref01_Meet_L1 l a b) 0).bind (fun e__ => match e__ with | (.inl e_22) => some e_22 | (.inr ()) => some (-1))
def lazarettoref01_Check_L3 (l : api_Lattice) (a_8 : Nat) (x_11 : Str) : Nat → Option ((Nat) ⊕ (Int ⊕ Unit))
  | b_12 => if (b_12 : Int) < (a_8 : Int) then ((l.Names[b_12]?).bind fun x_15 => if x_11 = x_15 then (some (.inr (.inl (4)))) else ((lazarettoref01_Leq l (a_8 : Int) (b_12 : Int)).bind fun r_16 => if r_16 = true then ((lazarettoref01_Leq l (b_12 : Int) (a_8 : Int)).bind fun r_17 => if r_17 = true then (some (.inr (.inl (4)))) else ((lazarettoref01_Join l (a_8 : Int) (b_12 : Int)).bind fun r_18 => if r_18 < 0 then (some (.inr (.inl (4)))) else ((lazarettoref01_Meet l (a_8 : Int) (b_12 : Int)).bind fun r_19 => if r_19 < 0 then (some (.inr (.inl (4)))) else (some (.inl (b_12 + 1)))))) else ((lazarettoref01_Join l (a_8 : Int) (b_12 : Int)).bind fun r_20 => if r_20 < 0 then (some (.inr (.inl (4)))) else ((lazarettoref01_Meet l (a_8 : Int) (b_12 : Int)).bind fun r_21 => if r_21 < 0 then (some (.inr (.inl (4)))) else (some (.inl (b_12 + 1))))))) else (some (.inr (.inr (()))))
def lazarettoref01_Check_L2 (l : api_Lattice) : Nat → Option ((Nat) ⊕ (Int ⊕ Unit))
  | a_8 => if (a_8 : Int) < (l.Names.length : Int) then ((l.Names[a_8]?).bind fun x_11 => if x_11 = [] then (some (.inr (.inl (4)))) else ((loop (lazarettoref01_Check_L3 l a_8 x_11) 0).bind (fun e__ => match e__ with | (.inl e_22) => some (.inr (.inl (e_22))) | (.inr ()) => some (.inl (a_8 + 1))))) else (some (.inr (.inr (()))))
def lazarettoref01_Check_L1 (l : api_Lattice) : Nat → Option ((Nat) ⊕ (Int ⊕ Unit))
  | i_1 => if (i_1 : Int) < (l.Below.length : Int) then ((l.Below[i_1]?).bind fun x_4 => (lazarettoref01_Is l x_4.a0).bind fun r_5 => if r_5 = true then ((lazarettoref01_Is l x_4.a1).bind fun r_6 => if r_6 = true then (some (.inl (i_1 + 1))) else (some (.inr (.inl (4))))) else (some (.inr (.inl (4))))) else (some (.inr (.inr (()))))
def lazarettoref01_Check (l : api_Lattice) : Option Int :=
  if (l.Names.length : Int) < 1 then (some 3) else (if 8 < (l.Names.length : Int) then (some 3) else ((loop (lazarettoref01_Check_L1 l) 0).bind (fun e__ => match e__ with | (.inl e_7) => some e_7 | (.inr ()) => (loop (lazarettoref01_Check_L2 l) 0).bind (fun e__ => match e__ with | (.inl e_23) => some e_23 | (.inr ()) => some 0))))
def lazarettoref10_Var_L1 (p : api_Program) (name : Str) : Nat → Option ((Nat) ⊕ (Int ⊕ Unit))
  | i_1 => if (i_1 : Int) < (p.Vars.length : Int) then ((p.Vars[i_1]?).bind fun x_4 => if x_4.Name = name then (some (.inr (.inl ((i_1 : Int))))) else (some (.inl (i_1 + 1)))) else (some (.inr (.inr (()))))
def lazarettoref10_Var (p : api_Program) (name : Str) : Option Int :=
  (loop (lazarettoref10_Var_L1 p name) 0).bind (fun e__ => match e__ with | (.inl e_5) => some e_5 | (.inr ()) => some (-1))
def lazarettoref10_Block_L1 (p : api_Program) (name : Str) : Nat → Option ((Nat) ⊕ (Int ⊕ Unit))
  | i_1 => if (i_1 : Int) < (p.Blocks.length : Int) then ((p.Blocks[i_1]?).bind fun x_4 => if x_4.Name = name then (some (.inr (.inl ((i_1 : Int))))) else (some (.inl (i_1 + 1)))) else (some (.inr (.inr (()))))
def lazarettoref10_Block (p : api_Program) (name : Str) : Option Int :=
  (loop (lazarettoref10_Block_L1 p name) 0).bind (fun e__ => match e__ with | (.inl e_5) => some e_5 | (.inr ()) => some (-1))
def lazarettoref10_Site_L1 (p : api_Program) (name : Str) : Nat → Option ((Nat) ⊕ (Int ⊕ Unit))
  | i_1 => if (i_1 : Int) < (p.Sites.length : Int) then ((p.Sites[i_1]?).bind fun x_4 => if x_4.Name = name then (some (.inr (.inl ((i_1 : Int))))) else (some (.inl (i_1 + 1)))) else (some (.inr (.inr (()))))
def lazarettoref10_Site (p : api_Program) (name : Str) : Option Int :=
  (loop (lazarettoref10_Site_L1 p name) 0).bind (fun e__ => match e__ with | (.inl e_5) => some e_5 | (.inr ()) => some (-1))
def lazarettoref10_term_b (lazarettoref10_term_r : api_Program → api_Expr → Option Bool) (lazarettoref10_terms_r : api_Program → (List api_Expr) → Option Bool) (p : api_Program) (e : api_Expr) : Option Bool :=
  if e.Op = 2 then ((lazarettoref10_Var p e.Name).bind fun r_1 => if r_1 < 0 then (some false) else ((lazarettoref10_terms_r p e.Args).bind fun r_2 => some r_2)) else (if e.Op = 3 then ((lazarettoref10_Var p e.Name).bind fun r_3 => if r_3 < 0 then (some false) else ((lazarettoref10_terms_r p e.Args).bind fun r_4 => some r_4)) else (if e.Op = 4 then ((lazarettoref10_Block p e.Name).bind fun r_5 => if r_5 < 0 then (some false) else ((lazarettoref10_terms_r p e.Args).bind fun r_6 => some r_6)) else (if e.Op = 21 then ((lazarettoref10_Site p e.Name).bind fun r_7 => if r_7 < 0 then (some false) else ((lazarettoref10_terms_r p e.Args).bind fun r_8 => some r_8)) else ((lazarettoref10_terms_r p e.Args).bind fun r_9 => some r_9))))
def lazarettoref10_terms_L1 (lazarettoref10_term_r : api_Program → api_Expr → Option Bool) (p : api_Program) (l : List api_Expr) : Nat → Option ((Nat) ⊕ (Bool ⊕ Unit))
  | i_1 => if (i_1 : Int) < (l.length : Int) then ((l[i_1]?).bind fun x_4 => (lazarettoref10_term_r p x_4).bind fun r_5 => if r_5 = true then (some (.inl (i_1 + 1))) else (some (.inr (.inl (false))))) else (some (.inr (.inr (()))))
def lazarettoref10_terms_b (lazarettoref10_term_r : api_Program → api_Expr → Option Bool) (lazarettoref10_terms_r : api_Program → (List api_Expr) → Option Bool) (p : api_Program) (l : List api_Expr) : Option Bool :=
  (loop (lazarettoref10_terms_L1 lazarettoref10_term_r p l) 0).bind (fun e__ => match e__ with | (.inl e_6) => some e_6 | (.inr ()) => some true)
def lazarettoref10_term_g : Nat → (api_Program → api_Expr → Option Bool) × (api_Program → (List api_Expr) → Option Bool)
  | 0 => (fun _ _ => none, fun _ _ => none)
  | n + 1 => (lazarettoref10_term_b (lazarettoref10_term_g n).1 (lazarettoref10_term_g n).2, lazarettoref10_terms_b (lazarettoref10_term_g n).1 (lazarettoref10_term_g n).2)
def lazarettoref10_term_n (n : Nat) (p : api_Program) (e : api_Expr) : Option Bool := (lazarettoref10_term_g n).1 p e
def lazarettoref10_term (p : api_Program) (e : api_Expr) : Option Bool := lazarettoref10_term_n 1000000 p e
def lazarettoref10_terms_n (n : Nat) (p : api_Program) (l : List api_Expr) : Option Bool := (lazarettoref10_term_g n).2 p l
def lazarettoref10_terms (p : api_Program) (l : List api_Expr) : Option Bool := lazarettoref10_terms_n 1000000 p l
def lazarettoref10_stmts_L1 (lazarettoref10_stmts_r : api_Program → (List api_Stmt) → Option Bool) (p : api_Program) (l : List api_Stmt) : Nat → Option ((Nat) ⊕ (Bool ⊕ Unit))
  | i_1 => if (i_1 : Int) < (l.length : Int) then ((l[i_1]?).bind fun x_4 => if x_4.Kind = 4 then ((lazarettoref10_Var p x_4.Name).bind fun r_5 => if r_5 < 0 then (some (.inr (.inl (false)))) else (if x_4.Kind = 5 then none else ((lazarettoref10_term p x_4.Target).bind fun r_6 => if r_6 = true then ((lazarettoref10_term p x_4.Value).bind fun r_7 => if r_7 = true then ((lazarettoref10_terms p x_4.Args).bind fun r_8 => if r_8 = true then ((lazarettoref10_stmts_r p x_4.Body).bind fun r_9 => if r_9 = true then ((lazarettoref10_stmts_r p x_4.Else).bind fun r_10 => if r_10 = true then (some (.inl (i_1 + 1))) else (some (.inr (.inl (false))))) else (some (.inr (.inl (false))))) else (some (.inr (.inl (false))))) else (some (.inr (.inl (false))))) else (some (.inr (.inl (false))))))) else (if x_4.Kind = 5 then ((lazarettoref10_Block p x_4.Name).bind fun r_11 => if r_11 < 0 then (some (.inr (.inl (false)))) else ((lazarettoref10_term p x_4.Target).bind fun r_12 => if r_12 = true then ((lazarettoref10_term p x_4.Value).bind fun r_13 => if r_13 = true then ((lazarettoref10_terms p x_4.Args).bind fun r_14 => if r_14 = true then ((lazarettoref10_stmts_r p x_4.Body).bind fun r_15 => if r_15 = true then ((lazarettoref10_stmts_r p x_4.Else).bind fun r_16 => if r_16 = true then (some (.inl (i_1 + 1))) else (some (.inr (.inl (false))))) else (some (.inr (.inl (false))))) else (some (.inr (.inl (false))))) else (some (.inr (.inl (false))))) else (some (.inr (.inl (false)))))) else ((lazarettoref10_term p x_4.Target).bind fun r_17 => if r_17 = true then ((lazarettoref10_term p x_4.Value).bind fun r_18 => if r_18 = true then ((lazarettoref10_terms p x_4.Args).bind fun r_19 => if r_19 = true then ((lazarettoref10_stmts_r p x_4.Body).bind fun r_20 => if r_20 = true then ((lazarettoref10_stmts_r p x_4.Else).bind fun r_21 => if r_21 = true then (some (.inl (i_1 + 1))) else (some (.inr (.inl (false))))) else (some (.inr (.inl (false))))) else (some (.inr (.inl (false))))) else (some (.inr (.inl (false))))) else (some (.inr (.inl (false))))))) else (some (.inr (.inr (()))))
def lazarettoref10_stmts_b (lazarettoref10_stmts_r : api_Program → (List api_Stmt) → Option Bool) (p : api_Program) (l : List api_Stmt) : Option Bool :=
  (loop (lazarettoref10_stmts_L1 lazarettoref10_stmts_r p l) 0).bind (fun e__ => match e__ with | (.inl e_22) => some e_22 | (.inr ()) => some true)
def lazarettoref10_stmts_g : Nat → (api_Program → (List api_Stmt) → Option Bool)
  | 0 => fun _ _ => none
  | n + 1 => lazarettoref10_stmts_b (lazarettoref10_stmts_g n)
def lazarettoref10_stmts_n (n : Nat) (p : api_Program) (l : List api_Stmt) : Option Bool := (lazarettoref10_stmts_g n) p l
def lazarettoref10_stmts (p : api_Program) (l : List api_Stmt) : Option Bool := lazarettoref10_stmts_n 1000000 p l
def lazarettoref10_Check_L6 (p : api_Program) : Nat → Option ((Nat) ⊕ (Int ⊕ Unit))
  | i_38 => if (i_38 : Int) < (p.Tasks.length : Int) then ((p.Tasks[i_38]?).bind fun x_41 => (lazarettoref10_stmts p x_41.Body).bind fun r_42 => if r_42 = true then (some (.inl (i_38 + 1))) else (some (.inr (.inl (5))))) else (some (.inr (.inr (()))))
def lazarettoref10_Check_L5 (e_23 : List Str) (i_28 : Nat) : Nat → Option ((Nat) ⊕ (Int ⊕ Unit))
  | k_31 => if (k_31 : Int) < (i_28 : Int) then ((e_23[i_28]?).bind fun x_34 => (e_23[k_31]?).bind fun x_35 => if x_34 = x_35 then (some (.inr (.inl (5)))) else (some (.inl (k_31 + 1)))) else (some (.inr (.inr (()))))
def lazarettoref10_Check_L4 (e_23 : List Str) : Nat → Option ((Nat) ⊕ (Int ⊕ Unit))
  | i_28 => if (i_28 : Int) < (e_23.length : Int) then ((loop (lazarettoref10_Check_L5 e_23 i_28) 0).bind (fun e__ => match e__ with | (.inl e_36) => some (.inr (.inl (e_36))) | (.inr ()) => some (.inl (i_28 + 1)))) else (some (.inr (.inr (()))))
def lazarettoref10_Check_L3 (p : api_Program) : ((List Str) × Nat) → Option (((List Str) × Nat) ⊕ (List Str))
  | (l_20, i_22) => if (i_22 : Int) < (p.Sites.length : Int) then ((p.Sites[i_22]?).bind fun x_25 => need ((l_20.length + 1) * 16 ≤ 140737488355328) (some (.inl ((l_20 ++ [x_25.Name]), (i_22 + 1))))) else (some (.inr (l_20)))
def lazarettoref10_Check_L2 (p : api_Program) : ((List Str) × Nat) → Option (((List Str) × Nat) ⊕ (List Str))
  | (l_11, i_13) => if (i_13 : Int) < (p.Blocks.length : Int) then ((p.Blocks[i_13]?).bind fun x_16 => need ((l_11.length + 1) * 16 ≤ 140737488355328) (some (.inl ((l_11 ++ [x_16.Name]), (i_13 + 1))))) else (some (.inr (l_11)))
def lazarettoref10_Check_L1 (p : api_Program) : ((List Str) × Nat) → Option (((List Str) × Nat) ⊕ (List Str))
  | (l_2, i_4) => if (i_4 : Int) < (p.Vars.length : Int) then ((p.Vars[i_4]?).bind fun x_7 => need ((l_2.length + 1) * 16 ≤ 140737488355328) (some (.inl ((l_2 ++ [x_7.Name]), (i_4 + 1))))) else (some (.inr (l_2)))
def lazarettoref10_Check (p : api_Program) : Option Int :=
  (loop (lazarettoref10_Check_L1 p) ([], 0)).bind (fun e_5 => (loop (lazarettoref10_Check_L2 p) (e_5, 0)).bind (fun e_14 => (loop (lazarettoref10_Check_L3 p) (e_14, 0)).bind (fun e_23 => (loop (lazarettoref10_Check_L4 e_23) 0).bind (fun e__ => match e__ with | (.inl e_37) => some e_37 | (.inr ()) => (loop (lazarettoref10_Check_L6 p) 0).bind (fun e__ => match e__ with | (.inl e_43) => some e_43 | (.inr ()) => some 0)))))
def lazarettoref11_Inputs (kind : Str) : Option (List Int) :=
  if kind = ([84, 79, 78] : Str) then (some [1, 4]) else (if kind = ([84, 79, 70] : Str) then (some [1, 4]) else (if kind = ([84, 80] : Str) then (some [1, 4]) else (if kind = ([67, 84, 85] : Str) then (some [1, 1, 2]) else (if kind = ([67, 84, 68] : Str) then (some [1, 1, 2]) else (if kind = ([67, 84, 85, 68] : Str) then (some [1, 1, 1, 1, 2]) else (if kind = ([82, 95, 84, 82, 73, 71] : Str) then (some [1]) else (if kind = ([70, 95, 84, 82, 73, 71] : Str) then (some [1]) else (if kind = ([83, 82] : Str) then (some [1, 1]) else (if kind = ([82, 83] : Str) then (some [1, 1]) else (some []))))))))))
def lazarettoref11_Outputs (kind : Str) : Option (List Int) :=
  if kind = ([84, 79, 78] : Str) then (some [1, 4]) else (if kind = ([84, 79, 70] : Str) then (some [1, 4]) else (if kind = ([84, 80] : Str) then (some [1, 4]) else (if kind = ([67, 84, 85] : Str) then (some [1, 2]) else (if kind = ([67, 84, 68] : Str) then (some [1, 2]) else (if kind = ([67, 84, 85, 68] : Str) then (some [1, 1, 2]) else (if kind = ([82, 95, 84, 82, 73, 71] : Str) then (some [1]) else (if kind = ([70, 95, 84, 82, 73, 71] : Str) then (some [1]) else (if kind = ([83, 82] : Str) then (some [1]) else (if kind = ([82, 83] : Str) then (some [1]) else (some []))))))))))
def lazarettoref03_Result (op : Int) (kind : Int) : Option Int :=
  (lazarettoref03_Bits kind).bind fun r_1 => if r_1 = 0 then (some 0) else (if op = 5 then (if kind = 1 then (some 0) else (some kind)) else (if 7 ≤ op then (if op ≤ 11 then (if kind = 1 then (some 0) else (some kind)) else (if op = 6 then (if kind = 4 then (some 0) else (some kind)) else (if 18 ≤ op then (if op ≤ 20 then (if kind = 4 then (some 0) else (some kind)) else (if op = 12 then (some 1) else (if op = 13 then (some 1) else (if 14 ≤ op then (if op ≤ 17 then (if kind = 1 then (some 0) else (some 1)) else (some 0)) else (some 0))))) else (if op = 12 then (some 1) else (if op = 13 then (some 1) else (if 14 ≤ op then (if op ≤ 17 then (if kind = 1 then (some 0) else (some 1)) else (some 0)) else (some 0))))))) else (if op = 6 then (if kind = 4 then (some 0) else (some kind)) else (if 18 ≤ op then (if op ≤ 20 then (if kind = 4 then (some 0) else (some kind)) else (if op = 12 then (some 1) else (if op = 13 then (some 1) else (if 14 ≤ op then (if op ≤ 17 then (if kind = 1 then (some 0) else (some 1)) else (some 0)) else (some 0))))) else (if op = 12 then (some 1) else (if op = 13 then (some 1) else (if 14 ≤ op then (if op ≤ 17 then (if kind = 1 then (some 0) else (some 1)) else (some 0)) else (some 0))))))))
def lazarettoref12_Expr_b (lazarettoref12_Expr_r : api_Program → api_Expr → Option Int) (p : api_Program) (e : api_Expr) : Option Int :=
  if e.Op = 1 then (some e.Kind) else (if e.Op = 2 then ((lazarettoref10_Var p e.Name).bind fun r_1 => if r_1 < 0 then (some 0) else ((idx p.Vars r_1).bind fun x_2 => if ((decide (0 < x_2.Type_.Len)) == (decide (e.Op = 3))) = true then (if e.Op = 3 then none else (some x_2.Type_.Kind)) else (some 0))) else (if e.Op = 3 then ((lazarettoref10_Var p e.Name).bind fun r_3 => if r_3 < 0 then (some 0) else ((idx p.Vars r_3).bind fun x_4 => if 0 < x_4.Type_.Len then ((e.Args[0]?).bind fun x_5 => (lazarettoref12_Expr_r p x_5).bind fun r_6 => if r_6 = 2 then (some x_4.Type_.Kind) else (some 0)) else (some 0))) else (if e.Op = 4 then ((lazarettoref10_Block p e.Name).bind fun r_7 => if r_7 < 0 then (some 0) else ((idx p.Blocks r_7).bind fun x_8 => (lazarettoref11_Outputs x_8.Kind).bind fun r_9 => if e.N < 0 then (some 0) else (if (r_9.length : Int) ≤ e.N then (some 0) else ((idx r_9 e.N).bind fun x_10 => some x_10)))) else (if e.Op = 21 then ((lazarettoref10_Site p e.Name).bind fun r_11 => if r_11 < 0 then (some 0) else ((e.Args[0]?).bind fun x_12 => (lazarettoref12_Expr_r p x_12).bind fun r_13 => some r_13)) else ((e.Args[0]?).bind fun x_14 => (lazarettoref12_Expr_r p x_14).bind fun r_15 => if 1 < (e.Args.length : Int) then ((e.Args[1]?).bind fun x_16 => (lazarettoref12_Expr_r p x_16).bind fun r_17 => if r_17 = r_15 then ((lazarettoref03_Result e.Op r_15).bind fun r_18 => some r_18) else (some 0)) else ((lazarettoref03_Result e.Op r_15).bind fun r_19 => some r_19))))))
def lazarettoref12_Expr_g : Nat → (api_Program → api_Expr → Option Int)
  | 0 => fun _ _ => none
  | n + 1 => lazarettoref12_Expr_b (lazarettoref12_Expr_g n)
def lazarettoref12_Expr_n (n : Nat) (p : api_Program) (e : api_Expr) : Option Int := (lazarettoref12_Expr_g n) p e
def lazarettoref12_Expr (p : api_Program) (e : api_Expr) : Option Int := lazarettoref12_Expr_n 1000000 p e
def lazarettoref12_sets_L1 (lazarettoref12_sets_r : (List api_Stmt) → Str → Option Bool) (l : List api_Stmt) (name : Str) : Nat → Option ((Nat) ⊕ (Bool ⊕ Unit))
  | i_1 => if (i_1 : Int) < (l.length : Int) then ((l[i_1]?).bind fun x_4 => if x_4.Kind = 1 then (if x_4.Target.Name = name then (some (.inr (.inl (true)))) else (if x_4.Kind = 4 then none else ((lazarettoref12_sets_r x_4.Body name).bind fun r_5 => if r_5 = true then (some (.inr (.inl (true)))) else ((lazarettoref12_sets_r x_4.Else name).bind fun r_6 => if r_6 = true then (some (.inr (.inl (true)))) else (some (.inl (i_1 + 1))))))) else (if x_4.Kind = 4 then (if x_4.Name = name then (some (.inr (.inl (true)))) else ((lazarettoref12_sets_r x_4.Body name).bind fun r_7 => if r_7 = true then (some (.inr (.inl (true)))) else ((lazarettoref12_sets_r x_4.Else name).bind fun r_8 => if r_8 = true then (some (.inr (.inl (true)))) else (some (.inl (i_1 + 1)))))) else ((lazarettoref12_sets_r x_4.Body name).bind fun r_9 => if r_9 = true then (some (.inr (.inl (true)))) else ((lazarettoref12_sets_r x_4.Else name).bind fun r_10 => if r_10 = true then (some (.inr (.inl (true)))) else (some (.inl (i_1 + 1))))))) else (some (.inr (.inr (()))))
def lazarettoref12_sets_b (lazarettoref12_sets_r : (List api_Stmt) → Str → Option Bool) (l : List api_Stmt) (name : Str) : Option Bool :=
  (loop (lazarettoref12_sets_L1 lazarettoref12_sets_r l name) 0).bind (fun e__ => match e__ with | (.inl e_11) => some e_11 | (.inr ()) => some false)
def lazarettoref12_sets_g : Nat → ((List api_Stmt) → Str → Option Bool)
  | 0 => fun _ _ => none
  | n + 1 => lazarettoref12_sets_b (lazarettoref12_sets_g n)
def lazarettoref12_sets_n (n : Nat) (l : List api_Stmt) (name : Str) : Option Bool := (lazarettoref12_sets_g n) l name
def lazarettoref12_sets (l : List api_Stmt) (name : Str) : Option Bool := lazarettoref12_sets_n 1000000 l name
def lazarettoref12_loop (p : api_Program) (s : api_Stmt) : Option Bool :=
  (lazarettoref10_Var p s.Name).bind fun r_1 => if r_1 < 0 then (some false) else ((idx p.Vars r_1).bind fun x_2 => if x_2.Mode = 0 then (if x_2.Type_.Len = 0 then (if x_2.Type_.Kind = 2 then ((s.Args[0]?).bind fun x_3 => (lazarettoref12_Expr p x_3).bind fun r_4 => if r_4 = x_2.Type_.Kind then ((s.Args[1]?).bind fun x_5 => (lazarettoref12_Expr p x_5).bind fun r_6 => if r_6 = x_2.Type_.Kind then ((lazarettoref12_sets s.Body s.Name).bind fun r_7 => some (!r_7)) else (some false)) else (some false)) else (if x_2.Type_.Kind = 3 then ((s.Args[0]?).bind fun x_8 => (lazarettoref12_Expr p x_8).bind fun r_9 => if r_9 = x_2.Type_.Kind then ((s.Args[1]?).bind fun x_10 => (lazarettoref12_Expr p x_10).bind fun r_11 => if r_11 = x_2.Type_.Kind then ((lazarettoref12_sets s.Body s.Name).bind fun r_12 => some (!r_12)) else (some false)) else (some false)) else (some false))) else (some false)) else (some false))
def lazarettoref12_call_L1 (p : api_Program) (s : api_Stmt) (r_3 : (List Int)) : Nat → Option ((Nat) ⊕ (Bool ⊕ Unit))
  | n_4 => if (n_4 : Int) < (r_3.length : Int) then ((s.Args[n_4]?).bind fun x_7 => (lazarettoref12_Expr p x_7).bind fun r_8 => (r_3[n_4]?).bind fun x_9 => if r_8 = x_9 then (some (.inl (n_4 + 1))) else (some (.inr (.inl (false))))) else (some (.inr (.inr (()))))
def lazarettoref12_call (p : api_Program) (s : api_Stmt) : Option Bool :=
  (lazarettoref10_Block p s.Name).bind fun r_1 => if r_1 < 0 then (some false) else ((idx p.Blocks r_1).bind fun x_2 => (lazarettoref11_Inputs x_2.Kind).bind fun r_3 => if (r_3.length : Int) = (s.Args.length : Int) then ((loop (lazarettoref12_call_L1 p s r_3) 0).bind (fun e__ => match e__ with | (.inl e_10) => some e_10 | (.inr ()) => some true)) else (some false))
def lazarettoref12_one (p : api_Program) (s : api_Stmt) : Option Bool :=
  if s.Kind = 1 then ((lazarettoref10_Var p s.Target.Name).bind fun r_1 => (lazarettoref12_Expr p s.Target).bind fun r_2 => if 0 ≤ r_1 then ((idx p.Vars r_1).bind fun x_3 => if x_3.Mode = 1 then (some false) else (if r_2 = 0 then (some false) else ((lazarettoref12_Expr p s.Value).bind fun r_4 => some (decide (r_2 = r_4))))) else (some false)) else (if s.Kind = 2 then ((lazarettoref12_Expr p s.Value).bind fun r_5 => some (decide (r_5 = 1))) else (if s.Kind = 3 then ((lazarettoref12_Expr p s.Value).bind fun r_6 => some (decide (r_6 = 1))) else (if s.Kind = 4 then ((lazarettoref12_loop p s).bind fun r_7 => some r_7) else ((lazarettoref12_call p s).bind fun r_8 => some r_8))))
def lazarettoref12_Stmts_L1 (lazarettoref12_Stmts_r : api_Program → (List api_Stmt) → Option Bool) (p : api_Program) (l : List api_Stmt) : Nat → Option ((Nat) ⊕ (Bool ⊕ Unit))
  | i_1 => if (i_1 : Int) < (l.length : Int) then ((l[i_1]?).bind fun x_4 => (lazarettoref12_one p x_4).bind fun r_5 => if r_5 = true then ((lazarettoref12_Stmts_r p x_4.Body).bind fun r_6 => if r_6 = true then ((lazarettoref12_Stmts_r p x_4.Else).bind fun r_7 => if r_7 = true then (some (.inl (i_1 + 1))) else (some (.inr (.inl (false))))) else (some (.inr (.inl (false))))) else (some (.inr (.inl (false))))) else (some (.inr (.inr (()))))
def lazarettoref12_Stmts_b (lazarettoref12_Stmts_r : api_Program → (List api_Stmt) → Option Bool) (p : api_Program) (l : List api_Stmt) : Option Bool :=
  (loop (lazarettoref12_Stmts_L1 lazarettoref12_Stmts_r p l) 0).bind (fun e__ => match e__ with | (.inl e_8) => some e_8 | (.inr ()) => some true)
def lazarettoref12_Stmts_g : Nat → (api_Program → (List api_Stmt) → Option Bool)
  | 0 => fun _ _ => none
  | n + 1 => lazarettoref12_Stmts_b (lazarettoref12_Stmts_g n)
def lazarettoref12_Stmts_n (n : Nat) (p : api_Program) (l : List api_Stmt) : Option Bool := (lazarettoref12_Stmts_g n) p l
def lazarettoref12_Stmts (p : api_Program) (l : List api_Stmt) : Option Bool := lazarettoref12_Stmts_n 1000000 p l
def lazarettoref12_Check_L3 (p : api_Program) : Nat → Option ((Nat) ⊕ (Int ⊕ Unit))
  | i_15 => if (i_15 : Int) < (p.Tasks.length : Int) then ((p.Tasks[i_15]?).bind fun x_18 => (lazarettoref12_Stmts p x_18.Body).bind fun r_19 => if r_19 = true then (some (.inl (i_15 + 1))) else (some (.inr (.inl (6))))) else (some (.inr (.inr (()))))
def lazarettoref12_Check_L2 (p : api_Program) : Nat → Option ((Nat) ⊕ (Int ⊕ Unit))
  | i_9 => if (i_9 : Int) < (p.Blocks.length : Int) then ((p.Blocks[i_9]?).bind fun x_12 => (lazarettoref11_Inputs x_12.Kind).bind fun r_13 => if (r_13.length : Int) = 0 then (some (.inr (.inl (6)))) else (some (.inl (i_9 + 1)))) else (some (.inr (.inr (()))))
def lazarettoref12_Check_L1 (p : api_Program) : Nat → Option ((Nat) ⊕ (Int ⊕ Unit))
  | i_1 => if (i_1 : Int) < (p.Vars.length : Int) then ((p.Vars[i_1]?).bind fun x_4 => (lazarettoref04_Check x_4.Type_).bind fun r_5 => if r_5 = 0 then (if x_4.Mode = 0 then ((lazarettoref03_Valid x_4.Type_.Kind x_4.Safe).bind fun r_6 => if r_6 = true then (some (.inl (i_1 + 1))) else (some (.inr (.inl (6))))) else (if x_4.Type_.Len = 0 then ((lazarettoref03_Valid x_4.Type_.Kind x_4.Safe).bind fun r_7 => if r_7 = true then (some (.inl (i_1 + 1))) else (some (.inr (.inl (6))))) else (some (.inr (.inl (6)))))) else (some (.inr (.inl (6))))) else (some (.inr (.inr (()))))
def lazarettoref12_Check (p : api_Program) : Option Int :=
  (loop (lazarettoref12_Check_L1 p) 0).bind (fun e__ => match e__ with | (.inl e_8) => some e_8 | (.inr ()) => (loop (lazarettoref12_Check_L2 p) 0).bind (fun e__ => match e__ with | (.inl e_14) => some e_14 | (.inr ()) => (loop (lazarettoref12_Check_L3 p) 0).bind (fun e__ => match e__ with | (.inl e_20) => some e_20 | (.inr ()) => some 0)))
def lazarettoref13_all_L2 (p : api_Program) : ((List Int) × Nat) → Option (((List Int) × Nat) ⊕ (List Int))
  | (l_12, i_14) => if (i_14 : Int) < (p.Sites.length : Int) then ((p.Sites[i_14]?).bind fun x_17 => need ((l_12.length + 2) * 8 ≤ 140737488355328) (some (.inl ((l_12 ++ [x_17.From, x_17.To]), (i_14 + 1))))) else (some (.inr (l_12)))
def lazarettoref13_all_L1 (p : api_Program) (labels : List Int) : ((List Int) × Nat) → Option (((List Int) × Nat) ⊕ (List Int))
  | (l_2, i_4) => if (i_4 : Int) < (w64 ((p.Vars.length : Int) + (p.Blocks.length : Int))) then (if (i_4 : Int) < (labels.length : Int) then ((labels[i_4]?).bind fun x_7 => need ((l_2.length + 1) * 8 ≤ 140737488355328) (some (.inl ((l_2 ++ [x_7]), (i_4 + 1))))) else (need ((l_2.length + 1) * 8 ≤ 140737488355328) (some (.inl ((l_2 ++ [(-1)]), (i_4 + 1)))))) else (some (.inr (l_2)))
def lazarettoref13_all (p : api_Program) (labels : List Int) : Option (List Int) :=
  (loop (lazarettoref13_all_L1 p labels) ([], 0)).bind (fun e_5 => (loop (lazarettoref13_all_L2 p) (e_5, 0)).bind (fun e_15 => some e_15))
def lazarettoref01_Bottom_L2 (l : api_Lattice) (c_1 : Nat) : (Bool × Nat) → Option ((Bool × Nat) ⊕ (Bool))
  | (ok_4, d_5) => if (d_5 : Int) < (l.Names.length : Int) then (if ok_4 = true then ((lazarettoref01_Leq l (c_1 : Int) (d_5 : Int)).bind fun r_8 => some (.inl (r_8, (d_5 + 1)))) else (some (.inr (ok_4)))) else (some (.inr (ok_4)))
def lazarettoref01_Bottom_L1 (l : api_Lattice) : Nat → Option ((Nat) ⊕ (Int ⊕ Unit))
  | c_1 => if (c_1 : Int) < (l.Names.length : Int) then ((loop (lazarettoref01_Bottom_L2 l c_1) (true, 0)).bind (fun e_6 => if e_6 = true then (some (.inr (.inl ((c_1 : Int))))) else (some (.inl (c_1 + 1))))) else (some (.inr (.inr (()))))
def lazarettoref01_Bottom (l : api_Lattice) : Option Int :=
  (loop (lazarettoref01_Bottom_L1 l) 0).bind (fun e__ => match e__ with | (.inl e_10) => some e_10 | (.inr ()) => some (-1))
def lazarettoref02_Holds_L1 (l : api_Lattice) (labels : List Int) (rules : List (A2 Int)) : Nat → Option ((Nat) ⊕ (Bool ⊕ Unit))
  | i_1 => if (i_1 : Int) < (rules.length : Int) then ((rules[i_1]?).bind fun x_4 => if x_4.a0 < 0 then (some (.inr (.inl (false)))) else (if (labels.length : Int) ≤ x_4.a0 then (some (.inr (.inl (false)))) else (if x_4.a1 < 0 then (some (.inr (.inl (false)))) else (if (labels.length : Int) ≤ x_4.a1 then (some (.inr (.inl (false)))) else ((idx labels x_4.a0).bind fun x_5 => (idx labels x_4.a1).bind fun x_6 => (lazarettoref01_Leq l x_5 x_6).bind fun r_7 => if r_7 = true then (some (.inl (i_1 + 1))) else (some (.inr (.inl (false))))))))) else (some (.inr (.inr (()))))
def lazarettoref02_Holds (l : api_Lattice) (labels : List Int) (rules : List (A2 Int)) : Option Bool :=
  (loop (lazarettoref02_Holds_L1 l labels rules) 0).bind (fun e__ => match e__ with | (.inl e_8) => some e_8 | (.inr ()) => some true)
def lazarettoref02_Least_L4 (l : api_Lattice) (fixed : List Int) (rules : List (A2 Int)) : ((List Int) × Bool × Nat) → Option (((List Int) × Bool × Nat) ⊕ (((List Int) × Bool) ⊕ ((List Int) × Bool)))
  | (out_24, more_25, i_26) => if (i_26 : Int) < (rules.length : Int) then ((rules[i_26]?).bind fun x_29 => (idx out_24 x_29.a0).bind fun x_30 => (idx out_24 x_29.a1).bind fun x_31 => (lazarettoref01_Leq l x_30 x_31).bind fun r_32 => if r_32 = true then (some (.inl (out_24, more_25, (i_26 + 1)))) else ((idx fixed x_29.a1).bind fun x_33 => if x_33 = (-1) then ((lazarettoref01_Join l x_30 x_31).bind fun r_34 => if r_34 < 0 then (some (.inr (.inl (([], false))))) else (some (.inl ((out_24.set x_29.a1.toNat r_34), true, (i_26 + 1))))) else (some (.inl (out_24, more_25, (i_26 + 1)))))) else (some (.inr (.inr ((out_24, more_25)))))
def lazarettoref02_Least_L3 (l : api_Lattice) (fixed : List Int) (rules : List (A2 Int)) : ((List Int) × Bool) → Option (((List Int) × Bool) ⊕ (((List Int) × Bool) ⊕ (List Int)))
  | (out_20, more_21) => if more_21 = true then ((loop (lazarettoref02_Least_L4 l fixed rules) (out_20, false, 0)).bind (fun e__ => match e__ with | (.inl e_35) => some (.inr (.inl (e_35))) | (.inr (out_36, more_37)) => some (.inl (out_36, more_37)))) else (some (.inr (.inr (out_20))))
def lazarettoref02_Least_L2 (rules : List (A2 Int)) (out_14 : List Int) : Nat → Option ((Nat) ⊕ (((List Int) × Bool) ⊕ Unit))
  | i_15 => if (i_15 : Int) < (rules.length : Int) then ((rules[i_15]?).bind fun x_18 => if x_18.a0 < 0 then (some (.inr (.inl (([], false))))) else (if (out_14.length : Int) ≤ x_18.a0 then (some (.inr (.inl (([], false))))) else (if x_18.a1 < 0 then (some (.inr (.inl (([], false))))) else (if (out_14.length : Int) ≤ x_18.a1 then (some (.inr (.inl (([], false))))) else (some (.inl (i_15 + 1))))))) else (some (.inr (.inr (()))))
def lazarettoref02_Least_L1 (l : api_Lattice) (fixed : List Int) (r_1 : Int) : ((List Int) × Nat) → Option (((List Int) × Nat) ⊕ (((List Int) × Bool) ⊕ (List Int)))
  | (out_3, i_5) => if (i_5 : Int) < (fixed.length : Int) then ((fixed[i_5]?).bind fun x_8 => if x_8 = (-1) then ((lazarettoref01_Is l r_1).bind fun r_9 => if r_9 = true then (need ((out_3.length + 1) * 8 ≤ 140737488355328) (some (.inl ((out_3 ++ [r_1]), (i_5 + 1))))) else (some (.inr (.inl (([], false)))))) else ((lazarettoref01_Is l x_8).bind fun r_11 => if r_11 = true then (need ((out_3.length + 1) * 8 ≤ 140737488355328) (some (.inl ((out_3 ++ [x_8]), (i_5 + 1))))) else (some (.inr (.inl (([], false))))))) else (some (.inr (.inr (out_3))))
def lazarettoref02_Least (l : api_Lattice) (fixed : List Int) (rules : List (A2 Int)) : Option ((List Int) × Bool) :=
  (lazarettoref01_Bottom l).bind fun r_1 => if r_1 < 0 then (some ([], false)) else ((loop (lazarettoref02_Least_L1 l fixed r_1) ([], 0)).bind (fun e__ => match e__ with | (.inl e_13) => some e_13 | (.inr out_14) => (loop (lazarettoref02_Least_L2 rules out_14) 0).bind (fun e__ => match e__ with | (.inl e_19) => some e_19 | (.inr ()) => (loop (lazarettoref02_Least_L3 l fixed rules) (out_14, true)).bind (fun e__ => match e__ with | (.inl e_38) => some e_38 | (.inr out_39) => (lazarettoref02_Holds l out_39 rules).bind fun r_40 => if r_40 = true then (some (out_39, true)) else (some ([], false))))))
def lazarettoref13_told_L2 (p : api_Program) : ((List Int) × Nat) → Option (((List Int) × Nat) ⊕ (List Int))
  | (l_11, i_13) => if (i_13 : Int) < (p.Blocks.length : Int) then ((p.Blocks[i_13]?).bind fun x_16 => need ((l_11.length + 1) * 8 ≤ 140737488355328) (some (.inl ((l_11 ++ [x_16.Label]), (i_13 + 1))))) else (some (.inr (l_11)))
def lazarettoref13_told_L1 (p : api_Program) : ((List Int) × Nat) → Option (((List Int) × Nat) ⊕ (List Int))
  | (l_2, i_4) => if (i_4 : Int) < (p.Vars.length : Int) then ((p.Vars[i_4]?).bind fun x_7 => need ((l_2.length + 1) * 8 ≤ 140737488355328) (some (.inl ((l_2 ++ [x_7.Label]), (i_4 + 1))))) else (some (.inr (l_2)))
def lazarettoref13_told (p : api_Program) : Option (List Int) :=
  (loop (lazarettoref13_told_L1 p) ([], 0)).bind (fun e_5 => (loop (lazarettoref13_told_L2 p) (e_5, 0)).bind (fun e_14 => some e_14))
def lazarettoref13_to (p : api_Program) (i : Int) : Option Int :=
  some (w64 ((w64 ((w64 ((p.Vars.length : Int) + (p.Blocks.length : Int))) + (w64 (2 * i)))) + 1))
def lazarettoref13_has_L2 (lazarettoref13_has_r : api_Program → api_Expr → Option (List Int)) (p : api_Program) (e : api_Expr) : ((List Int) × Nat) → Option (((List Int) × Nat) ⊕ (List Int))
  | (l_17, i_19) => if (i_19 : Int) < (e.Args.length : Int) then ((e.Args[i_19]?).bind fun x_22 => (lazarettoref13_has_r p x_22).bind fun r_23 => need ((l_17.length + r_23.length) * 8 ≤ 140737488355328) (some (.inl ((l_17 ++ r_23), (i_19 + 1))))) else (some (.inr (l_17)))
def lazarettoref13_has_L1 (lazarettoref13_has_r : api_Program → api_Expr → Option (List Int)) (p : api_Program) (e : api_Expr) : ((List Int) × Nat) → Option (((List Int) × Nat) ⊕ (List Int))
  | (l_7, i_9) => if (i_9 : Int) < (e.Args.length : Int) then ((e.Args[i_9]?).bind fun x_12 => (lazarettoref13_has_r p x_12).bind fun r_13 => need ((l_7.length + r_13.length) * 8 ≤ 140737488355328) (some (.inl ((l_7 ++ r_13), (i_9 + 1))))) else (some (.inr (l_7)))
def lazarettoref13_has_b (lazarettoref13_has_r : api_Program → api_Expr → Option (List Int)) (p : api_Program) (e : api_Expr) : Option (List Int) :=
  if e.Op = 2 then ((lazarettoref10_Var p e.Name).bind fun r_1 => some [r_1]) else (if e.Op = 4 then ((lazarettoref10_Block p e.Name).bind fun r_2 => some [(w64 ((p.Vars.length : Int) + r_2))]) else (if e.Op = 21 then ((lazarettoref10_Site p e.Name).bind fun r_3 => (lazarettoref13_to p r_3).bind fun r_4 => some [r_4]) else (if e.Op = 3 then ((lazarettoref10_Var p e.Name).bind fun r_5 => (loop (lazarettoref13_has_L1 lazarettoref13_has_r p e) ([r_5], 0)).bind (fun e_10 => some e_10)) else ((loop (lazarettoref13_has_L2 lazarettoref13_has_r p e) ([], 0)).bind (fun e_20 => some e_20)))))
def lazarettoref13_has_g : Nat → (api_Program → api_Expr → Option (List Int))
  | 0 => fun _ _ => none
  | n + 1 => lazarettoref13_has_b (lazarettoref13_has_g n)
def lazarettoref13_has_n (n : Nat) (p : api_Program) (e : api_Expr) : Option (List Int) := (lazarettoref13_has_g n) p e
def lazarettoref13_has (p : api_Program) (e : api_Expr) : Option (List Int) := lazarettoref13_has_n 1000000 p e
def lazarettoref13_both_L4 (b : List Int) (out_19 : List Int) (i_21 : Nat) : (Bool × Nat) → Option ((Bool × Nat) ⊕ (Bool))
  | (there_24, k_25) => if (k_25 : Int) < (out_19.length : Int) then (if there_24 = true then (some (.inr (there_24))) else ((out_19[k_25]?).bind fun x_28 => (b[i_21]?).bind fun x_29 => some (.inl ((decide (x_28 = x_29)), (k_25 + 1))))) else (some (.inr (there_24)))
def lazarettoref13_both_L3 (b : List Int) : ((List Int) × Nat) → Option (((List Int) × Nat) ⊕ (List Int))
  | (out_19, i_21) => if (i_21 : Int) < (b.length : Int) then ((loop (lazarettoref13_both_L4 b out_19 i_21) (false, 0)).bind (fun e_26 => if e_26 = true then (some (.inl (out_19, (i_21 + 1)))) else ((b[i_21]?).bind fun x_31 => need ((out_19.length + 1) * 8 ≤ 140737488355328) (some (.inl ((out_19 ++ [x_31]), (i_21 + 1))))))) else (some (.inr (out_19)))
def lazarettoref13_both_L2 (b : List Int) (out_2 : List Int) (i_4 : Nat) : (Bool × Nat) → Option ((Bool × Nat) ⊕ (Bool))
  | (there_7, k_8) => if (k_8 : Int) < (out_2.length : Int) then (if there_7 = true then (some (.inr (there_7))) else ((out_2[k_8]?).bind fun x_11 => (b[i_4]?).bind fun x_12 => some (.inl ((decide (x_11 = x_12)), (k_8 + 1))))) else (some (.inr (there_7)))
def lazarettoref13_both_L1 (b : List Int) : ((List Int) × Nat) → Option (((List Int) × Nat) ⊕ (List Int))
  | (out_2, i_4) => if (i_4 : Int) < (b.length : Int) then ((loop (lazarettoref13_both_L2 b out_2 i_4) (false, 0)).bind (fun e_9 => if e_9 = true then (some (.inl (out_2, (i_4 + 1)))) else ((b[i_4]?).bind fun x_14 => need ((out_2.length + 1) * 8 ≤ 140737488355328) (some (.inl ((out_2 ++ [x_14]), (i_4 + 1))))))) else (some (.inr (out_2)))
def lazarettoref13_both (a : List Int) (b : List Int) : Option (List Int) :=
  if a.isEmpty = true then ((loop (lazarettoref13_both_L1 b) ([], 0)).bind (fun e_5 => some e_5)) else (need (a.length * 8 ≤ 140737488355328) ((loop (lazarettoref13_both_L3 b) (a, 0)).bind (fun e_22 => some e_22)))
def lazarettoref13_put_L1 (l : List (A2 Int)) (x : A2 Int) : Nat → Option ((Nat) ⊕ (Nat))
  | k_1 => if (k_1 : Int) < (l.length : Int) then ((l[k_1]?).bind fun x_4 => if x_4.a0 < x.a0 then (some (.inl (k_1 + 1))) else (if x_4.a0 = x.a0 then (if x_4.a1 < x.a1 then (some (.inl (k_1 + 1))) else (some (.inr (k_1)))) else (some (.inr (k_1))))) else (some (.inr (k_1)))
def lazarettoref13_put (l : List (A2 Int)) (x : A2 Int) : Option (List (A2 Int)) :=
  if x.a0 = x.a1 then (some l) else ((loop (lazarettoref13_put_L1 l x) 0).bind (fun e_2 => if (e_2 : Int) < (l.length : Int) then ((l[e_2]?).bind fun x_6 => if x_6.a0 = x.a0 ∧ x_6.a1 = x.a1 then (some l) else (need (0 ≤ 0 ∧ 0 ≤ (e_2 : Int) ∧ (e_2 : Int) ≤ l.length) (if (l.take e_2).isEmpty = true then (need (0 ≤ (e_2 : Int) ∧ (e_2 : Int) ≤ (l.length : Int) ∧ (l.length : Int) ≤ l.length) (need ((1 + (l.drop e_2).length) * 16 ≤ 140737488355328) (some ([x] ++ (l.drop e_2))))) else (need ((l.take e_2).length * 16 ≤ 140737488355328) (need (((l.take e_2).length + 1) * 16 ≤ 140737488355328) (need (0 ≤ (e_2 : Int) ∧ (e_2 : Int) ≤ (l.length : Int) ∧ (l.length : Int) ≤ l.length) (need (((l.take e_2).length + 1 + (l.drop e_2).length) * 16 ≤ 140737488355328) (some (((l.take e_2) ++ [x]) ++ (l.drop e_2)))))))))) else (need (0 ≤ 0 ∧ 0 ≤ (e_2 : Int) ∧ (e_2 : Int) ≤ l.length) (if (l.take e_2).isEmpty = true then (need (0 ≤ (e_2 : Int) ∧ (e_2 : Int) ≤ (l.length : Int) ∧ (l.length : Int) ≤ l.length) (need ((1 + (l.drop e_2).length) * 16 ≤ 140737488355328) (some ([x] ++ (l.drop e_2))))) else (need ((l.take e_2).length * 16 ≤ 140737488355328) (need (((l.take e_2).length + 1) * 16 ≤ 140737488355328) (need (0 ≤ (e_2 : Int) ∧ (e_2 : Int) ≤ (l.length : Int) ∧ (l.length : Int) ≤ l.length) (need (((l.take e_2).length + 1 + (l.drop e_2).length) * 16 ≤ 140737488355328) (some (((l.take e_2) ++ [x]) ++ (l.drop e_2)))))))))))
def lazarettoref13_each_L1 (from_ : List Int) (y : Int) : ((List (A2 Int)) × Nat) → Option (((List (A2 Int)) × Nat) ⊕ (List (A2 Int)))
  | (l_1, i_2) => if (i_2 : Int) < (from_.length : Int) then ((from_[i_2]?).bind fun x_5 => (lazarettoref13_put l_1 (⟨x_5, y⟩ : A2 Int)).bind fun r_6 => some (.inl (r_6, (i_2 + 1)))) else (some (.inr (l_1)))
def lazarettoref13_each (l : List (A2 Int)) (from_ : List Int) (y : Int) : Option (List (A2 Int)) :=
  (loop (lazarettoref13_each_L1 from_ y) (l, 0)).bind (fun e_3 => some e_3)
def lazarettoref13_sites_L2 (lazarettoref13_sites_r : api_Program → (List (A2 Int)) → api_Expr → (List Int) → Option (List (A2 Int))) (p : api_Program) (e : api_Expr) (around : List Int) : ((List (A2 Int)) × Nat) → Option (((List (A2 Int)) × Nat) ⊕ (List (A2 Int)))
  | (l_14, i_15) => if (i_15 : Int) < (e.Args.length : Int) then ((e.Args[i_15]?).bind fun x_18 => (lazarettoref13_sites_r p l_14 x_18 around).bind fun r_19 => some (.inl (r_19, (i_15 + 1)))) else (some (.inr (l_14)))
def lazarettoref13_sites_L1 (lazarettoref13_sites_r : api_Program → (List (A2 Int)) → api_Expr → (List Int) → Option (List (A2 Int))) (p : api_Program) (e : api_Expr) (around : List Int) : ((List (A2 Int)) × Nat) → Option (((List (A2 Int)) × Nat) ⊕ (List (A2 Int)))
  | (l_7, i_8) => if (i_8 : Int) < (e.Args.length : Int) then ((e.Args[i_8]?).bind fun x_11 => (lazarettoref13_sites_r p l_7 x_11 around).bind fun r_12 => some (.inl (r_12, (i_8 + 1)))) else (some (.inr (l_7)))
def lazarettoref13_sites_b (lazarettoref13_sites_r : api_Program → (List (A2 Int)) → api_Expr → (List Int) → Option (List (A2 Int))) (p : api_Program) (l : List (A2 Int)) (e : api_Expr) (around : List Int) : Option (List (A2 Int)) :=
  if e.Op = 21 then ((lazarettoref10_Site p e.Name).bind fun r_1 => (lazarettoref13_to p r_1).bind fun r_2 => (e.Args[0]?).bind fun x_3 => (lazarettoref13_has p x_3).bind fun r_4 => (lazarettoref13_each l r_4 (w64 (r_2 - 1))).bind fun r_5 => (lazarettoref13_each r_5 around r_2).bind fun r_6 => (loop (lazarettoref13_sites_L1 lazarettoref13_sites_r p e around) (r_6, 0)).bind (fun e_9 => some e_9)) else ((loop (lazarettoref13_sites_L2 lazarettoref13_sites_r p e around) (l, 0)).bind (fun e_16 => some e_16))
def lazarettoref13_sites_g : Nat → (api_Program → (List (A2 Int)) → api_Expr → (List Int) → Option (List (A2 Int)))
  | 0 => fun _ _ _ _ => none
  | n + 1 => lazarettoref13_sites_b (lazarettoref13_sites_g n)
def lazarettoref13_sites_n (n : Nat) (p : api_Program) (l : List (A2 Int)) (e : api_Expr) (around : List Int) : Option (List (A2 Int)) := (lazarettoref13_sites_g n) p l e around
def lazarettoref13_sites (p : api_Program) (l : List (A2 Int)) (e : api_Expr) (around : List Int) : Option (List (A2 Int)) := lazarettoref13_sites_n 1000000 p l e around
def lazarettoref13_terms_L1 (p : api_Program) (t : List api_Expr) (around : List Int) : ((List (A2 Int)) × (List Int) × Nat) → Option (((List (A2 Int)) × (List Int) × Nat) ⊕ ((List (A2 Int)) × (List Int)))
  | (l_1, h_2, i_3) => if (i_3 : Int) < (t.length : Int) then ((t[i_3]?).bind fun x_6 => (lazarettoref13_sites p l_1 x_6 around).bind fun r_7 => (lazarettoref13_has p x_6).bind fun r_8 => (lazarettoref13_both h_2 r_8).bind fun r_9 => some (.inl (r_7, r_9, (i_3 + 1)))) else (some (.inr ((l_1, h_2))))
def lazarettoref13_terms (p : api_Program) (l : List (A2 Int)) (t : List api_Expr) (around : List Int) : Option ((List (A2 Int)) × (List Int)) :=
  (loop (lazarettoref13_terms_L1 p t around) (l, [], 0)).bind (fun (l_10, h_11) => some (l_10, h_11))
def lazarettoref13_both2 (s : api_Stmt) : Option (List api_Expr) :=
  if s.Target.Op = 3 then ((s.Target.Args[0]?).bind fun x_1 => some [x_1, s.Value]) else (some [s.Value])
def lazarettoref13_stmts_L1 (lazarettoref13_stmts_r : api_Program → (List (A2 Int)) → (List api_Stmt) → (List Int) → Option (List (A2 Int))) (p : api_Program) (s : List api_Stmt) (around : List Int) : ((List (A2 Int)) × Nat) → Option (((List (A2 Int)) × Nat) ⊕ (List (A2 Int)))
  | (l_1, i_2) => if (i_2 : Int) < (s.length : Int) then ((s[i_2]?).bind fun x_5 => if x_5.Kind = 1 then ((lazarettoref13_both2 x_5).bind fun r_6 => (lazarettoref13_terms p l_1 r_6 around).bind fun r_7 => (lazarettoref13_both r_7.2 around).bind fun r_8 => (lazarettoref10_Var p x_5.Target.Name).bind fun r_9 => (lazarettoref13_each r_7.1 r_8 r_9).bind fun r_10 => some (.inl (r_10, (i_2 + 1)))) else (if x_5.Kind = 2 then ((lazarettoref13_has p x_5.Value).bind fun r_11 => (lazarettoref13_both around r_11).bind fun r_12 => if x_5.Kind = 3 then none else ((lazarettoref13_sites p l_1 x_5.Value around).bind fun r_13 => (lazarettoref13_stmts_r p r_13 x_5.Body r_12).bind fun r_14 => (lazarettoref13_stmts_r p r_14 x_5.Else r_12).bind fun r_15 => some (.inl (r_15, (i_2 + 1))))) else (if x_5.Kind = 3 then ((lazarettoref13_has p x_5.Value).bind fun r_16 => (lazarettoref13_both around r_16).bind fun r_17 => (lazarettoref13_sites p l_1 x_5.Value r_17).bind fun r_18 => (lazarettoref13_stmts_r p r_18 x_5.Body r_17).bind fun r_19 => (lazarettoref13_stmts_r p r_19 x_5.Else r_17).bind fun r_20 => some (.inl (r_20, (i_2 + 1)))) else (if x_5.Kind = 4 then ((lazarettoref10_Var p x_5.Name).bind fun r_21 => (lazarettoref13_terms p l_1 x_5.Args around).bind fun r_22 => (lazarettoref13_both r_22.2 around).bind fun r_23 => (lazarettoref13_each r_22.1 r_23 r_21).bind fun r_24 => (lazarettoref13_both around [r_21]).bind fun r_25 => (lazarettoref13_stmts_r p r_24 x_5.Body r_25).bind fun r_26 => some (.inl (r_26, (i_2 + 1)))) else (if x_5.Kind = 5 then ((lazarettoref13_terms p l_1 x_5.Args around).bind fun r_27 => (lazarettoref13_both r_27.2 around).bind fun r_28 => (lazarettoref10_Block p x_5.Name).bind fun r_29 => (lazarettoref13_each r_27.1 r_28 (w64 ((p.Vars.length : Int) + r_29))).bind fun r_30 => some (.inl (r_30, (i_2 + 1)))) else (some (.inl (l_1, (i_2 + 1))))))))) else (some (.inr (l_1)))
def lazarettoref13_stmts_b (lazarettoref13_stmts_r : api_Program → (List (A2 Int)) → (List api_Stmt) → (List Int) → Option (List (A2 Int))) (p : api_Program) (l : List (A2 Int)) (s : List api_Stmt) (around : List Int) : Option (List (A2 Int)) :=
  (loop (lazarettoref13_stmts_L1 lazarettoref13_stmts_r p s around) (l, 0)).bind (fun e_3 => some e_3)
def lazarettoref13_stmts_g : Nat → (api_Program → (List (A2 Int)) → (List api_Stmt) → (List Int) → Option (List (A2 Int)))
  | 0 => fun _ _ _ _ => none
  | n + 1 => lazarettoref13_stmts_b (lazarettoref13_stmts_g n)
def lazarettoref13_stmts_n (n : Nat) (p : api_Program) (l : List (A2 Int)) (s : List api_Stmt) (around : List Int) : Option (List (A2 Int)) := (lazarettoref13_stmts_g n) p l s around
def lazarettoref13_stmts (p : api_Program) (l : List (A2 Int)) (s : List api_Stmt) (around : List Int) : Option (List (A2 Int)) := lazarettoref13_stmts_n 1000000 p l s around
def lazarettoref13_Rules_L1 (p : api_Program) : ((List (A2 Int)) × Nat) → Option (((List (A2 Int)) × Nat) ⊕ (List (A2 Int)))
  | (l_1, i_2) => if (i_2 : Int) < (p.Tasks.length : Int) then ((p.Tasks[i_2]?).bind fun x_5 => (lazarettoref13_stmts p l_1 x_5.Body []).bind fun r_6 => some (.inl (r_6, (i_2 + 1)))) else (some (.inr (l_1)))
def lazarettoref13_Rules (p : api_Program) : Option (List (A2 Int)) :=
  (loop (lazarettoref13_Rules_L1 p) ([], 0)).bind (fun e_3 => some e_3)
def lazarettoref13_Infer (p : api_Program) : Option ((List Int) × Int) :=
  (lazarettoref13_told p).bind fun r_1 => (lazarettoref13_all p r_1).bind fun r_2 => (lazarettoref13_Rules p).bind fun r_3 => (lazarettoref02_Least p.Lattice r_2 r_3).bind fun r_4 => if r_4.2 = true then (need (0 ≤ 0 ∧ 0 ≤ (w64 ((p.Vars.length : Int) + (p.Blocks.length : Int))) ∧ (w64 ((p.Vars.length : Int) + (p.Blocks.length : Int))) ≤ r_4.1.length) (some ((r_4.1.take (w64 ((p.Vars.length : Int) + (p.Blocks.length : Int))).toNat), 0))) else (some ([], 7))
def lazarettoref14_Check_L8 (r_5 : (List Int) × Int) (e_44 : List api_Var) : ((List api_Block) × Nat) → Option (((List api_Block) × Nat) ⊕ (List api_Block))
  | (xs_49, i_50) => if (i_50 : Int) < (xs_49.length : Int) then ((idx r_5.1 (w64 ((e_44.length : Int) + (i_50 : Int)))).bind fun x_53 => (xs_49[i_50]?).bind fun x_54 => some (.inl ((xs_49.set i_50 (⟨x_54.Name, x_54.Kind, x_53⟩ : api_Block)), (i_50 + 1)))) else (some (.inr (xs_49)))
def lazarettoref14_Check_L7 (r_5 : (List Int) × Int) : ((List api_Var) × Nat) → Option (((List api_Var) × Nat) ⊕ (List api_Var))
  | (xs_42, i_43) => if (i_43 : Int) < (xs_42.length : Int) then ((r_5.1[i_43]?).bind fun x_46 => (xs_42[i_43]?).bind fun x_47 => some (.inl ((xs_42.set i_43 (⟨x_47.Name, x_47.Type_, x_47.Mode, x_46, x_47.Safe⟩ : api_Var)), (i_43 + 1)))) else (some (.inr (xs_42)))
def lazarettoref14_Check_L6 (r_5 : (List Int) × Int) (e_31 : List api_Var) : Int → Option ((Int) ⊕ (Unit))
  | i_36 => if i_36 < 0 then ((idx r_5.1 (w64 ((e_31.length : Int) + i_36))).bind fun x_39 => none) else (some (.inr (())))
def lazarettoref14_Check_L5 (r_5 : (List Int) × Int) : ((List api_Var) × Nat) → Option (((List api_Var) × Nat) ⊕ (List api_Var))
  | (xs_29, i_30) => if (i_30 : Int) < (xs_29.length : Int) then ((r_5.1[i_30]?).bind fun x_33 => (xs_29[i_30]?).bind fun x_34 => some (.inl ((xs_29.set i_30 (⟨x_34.Name, x_34.Type_, x_34.Mode, x_33, x_34.Safe⟩ : api_Var)), (i_30 + 1)))) else (some (.inr (xs_29)))
def lazarettoref14_Check_L4 (r_5 : (List Int) × Int) : ((List api_Block) × Nat) → Option (((List api_Block) × Nat) ⊕ (List api_Block))
  | (xs_20, i_21) => if (i_21 : Int) < (xs_20.length : Int) then ((idx r_5.1 (w64 (0 + (i_21 : Int)))).bind fun x_24 => (xs_20[i_21]?).bind fun x_25 => some (.inl ((xs_20.set i_21 (⟨x_25.Name, x_25.Kind, x_24⟩ : api_Block)), (i_21 + 1)))) else (some (.inr (xs_20)))
def lazarettoref14_Check_L3 (r_5 : (List Int) × Int) : Int → Option ((Int) ⊕ (Unit))
  | i_16 => if i_16 < 0 then ((idx r_5.1 i_16).bind fun x_19 => none) else (some (.inr (())))
def lazarettoref14_Check_L2 (r_5 : (List Int) × Int) : Int → Option ((Int) ⊕ (Unit))
  | i_10 => if i_10 < 0 then ((idx r_5.1 (w64 (0 + i_10))).bind fun x_13 => none) else (some (.inr (())))
def lazarettoref14_Check_L1 (r_5 : (List Int) × Int) : Int → Option ((Int) ⊕ (Unit))
  | i_6 => if i_6 < 0 then ((idx r_5.1 i_6).bind fun x_9 => none) else (some (.inr (())))
def lazarettoref14_Check (p : api_Program) : Option (api_Program × Int) :=
  (lazarettoref14_caps p).bind fun r_1 => if r_1 = true then ((lazarettoref01_Check p.Lattice).bind fun r_2 => if r_2 = 0 then ((lazarettoref10_Check p).bind fun r_3 => if r_3 = 0 then ((lazarettoref12_Check p).bind fun r_4 => if r_4 = 0 then ((lazarettoref13_Infer p).bind fun r_5 => if r_5.2 = 0 then (if p.Vars.isEmpty = true then (if p.Blocks.isEmpty = true then ((loop (lazarettoref14_Check_L1 r_5) 0).bind (fun _ => (loop (lazarettoref14_Check_L2 r_5) 0).bind (fun _ => (lazarettoref08_Check (⟨p.Lattice, p.Sites, [], [], p.Tasks⟩ : api_Program)).bind fun r_14 => if r_14 = true then (some ((⟨p.Lattice, p.Sites, [], [], p.Tasks⟩ : api_Program), 0)) else (some ((⟨(⟨[], []⟩ : api_Lattice), [], [], [], []⟩ : api_Program), 3))))) else (need (p.Blocks.length * 40 ≤ 140737488355328) ((loop (lazarettoref14_Check_L3 r_5) 0).bind (fun _ => (loop (lazarettoref14_Check_L4 r_5) (p.Blocks, 0)).bind (fun e_22 => (lazarettoref08_Check (⟨p.Lattice, p.Sites, [], e_22, p.Tasks⟩ : api_Program)).bind fun r_27 => if r_27 = true then (some ((⟨p.Lattice, p.Sites, [], e_22, p.Tasks⟩ : api_Program), 0)) else (some ((⟨(⟨[], []⟩ : api_Lattice), [], [], [], []⟩ : api_Program), 3))))))) else (need (p.Vars.length * 64 ≤ 140737488355328) (if p.Blocks.isEmpty = true then ((loop (lazarettoref14_Check_L5 r_5) (p.Vars, 0)).bind (fun e_31 => (loop (lazarettoref14_Check_L6 r_5 e_31) 0).bind (fun _ => (lazarettoref08_Check (⟨p.Lattice, p.Sites, e_31, [], p.Tasks⟩ : api_Program)).bind fun r_40 => if r_40 = true then (some ((⟨p.Lattice, p.Sites, e_31, [], p.Tasks⟩ : api_Program), 0)) else (some ((⟨(⟨[], []⟩ : api_Lattice), [], [], [], []⟩ : api_Program), 3))))) else (need (p.Blocks.length * 40 ≤ 140737488355328) ((loop (lazarettoref14_Check_L7 r_5) (p.Vars, 0)).bind (fun e_44 => (loop (lazarettoref14_Check_L8 r_5 e_44) (p.Blocks, 0)).bind (fun e_51 => (lazarettoref08_Check (⟨p.Lattice, p.Sites, e_44, e_51, p.Tasks⟩ : api_Program)).bind fun r_56 => if r_56 = true then (some ((⟨p.Lattice, p.Sites, e_44, e_51, p.Tasks⟩ : api_Program), 0)) else (some ((⟨(⟨[], []⟩ : api_Lattice), [], [], [], []⟩ : api_Program), 3))))))))) else (some ((⟨(⟨[], []⟩ : api_Lattice), [], [], [], []⟩ : api_Program), r_5.2))) else (some ((⟨(⟨[], []⟩ : api_Lattice), [], [], [], []⟩ : api_Program), r_4))) else (some ((⟨(⟨[], []⟩ : api_Lattice), [], [], [], []⟩ : api_Program), r_3))) else (some ((⟨(⟨[], []⟩ : api_Lattice), [], [], [], []⟩ : api_Program), r_2))) else (some ((⟨(⟨[], []⟩ : api_Lattice), [], [], [], []⟩ : api_Program), 3))
def lazarettoref01_Same_L2 (a : api_Lattice) (b : api_Lattice) : Nat → Option ((Nat) ⊕ (Bool ⊕ Unit))
  | i_7 => if (i_7 : Int) < (a.Below.length : Int) then ((a.Below[i_7]?).bind fun x_10 => (b.Below[i_7]?).bind fun x_11 => if x_10.a0 = x_11.a0 ∧ x_10.a1 = x_11.a1 then (some (.inl (i_7 + 1))) else (some (.inr (.inl (false))))) else (some (.inr (.inr (()))))
def lazarettoref01_Same_L1 (a : api_Lattice) (b : api_Lattice) : Nat → Option ((Nat) ⊕ (Bool ⊕ Unit))
  | i_1 => if (i_1 : Int) < (a.Names.length : Int) then ((a.Names[i_1]?).bind fun x_4 => (b.Names[i_1]?).bind fun x_5 => if x_4 = x_5 then (some (.inl (i_1 + 1))) else (some (.inr (.inl (false))))) else (some (.inr (.inr (()))))
def lazarettoref01_Same (a : api_Lattice) (b : api_Lattice) : Option Bool :=
  if (a.Names.length : Int) = (b.Names.length : Int) then (if (a.Below.length : Int) = (b.Below.length : Int) then ((loop (lazarettoref01_Same_L1 a b) 0).bind (fun e__ => match e__ with | (.inl e_6) => some e_6 | (.inr ()) => (loop (lazarettoref01_Same_L2 a b) 0).bind (fun e__ => match e__ with | (.inl e_12) => some e_12 | (.inr ()) => some true))) else (some false)) else (some false)
def lazarettoref04_Ints_L1 (a : List Int) (b : List Int) : Nat → Option ((Nat) ⊕ (Bool ⊕ Unit))
  | i_1 => if (i_1 : Int) < (a.length : Int) then ((a[i_1]?).bind fun x_4 => (b[i_1]?).bind fun x_5 => if x_4 = x_5 then (some (.inl (i_1 + 1))) else (some (.inr (.inl (false))))) else (some (.inr (.inr (()))))
def lazarettoref04_Ints (a : List Int) (b : List Int) : Option Bool :=
  if (a.length : Int) = (b.length : Int) then ((loop (lazarettoref04_Ints_L1 a b) 0).bind (fun e__ => match e__ with | (.inl e_6) => some e_6 | (.inr ()) => some true)) else (some false)
def lazarettoref07_Same_L1 (lazarettoref07_Same_r : (List api_Stmt) → (List api_Stmt) → Option Bool) (a : List api_Stmt) (b : List api_Stmt) : Nat → Option ((Nat) ⊕ (Bool ⊕ Unit))
  | i_1 => if (i_1 : Int) < (a.length : Int) then ((a[i_1]?).bind fun x_4 => (b[i_1]?).bind fun x_5 => if x_4.Kind = x_5.Kind then (if x_4.Name = x_5.Name then ((lazarettoref06_Same x_4.Target x_5.Target).bind fun r_6 => if r_6 = true then ((lazarettoref06_Same x_4.Value x_5.Value).bind fun r_7 => if r_7 = true then ((lazarettoref06_Same (⟨0, 0, 0, [], x_4.Args⟩ : api_Expr) (⟨0, 0, 0, [], x_5.Args⟩ : api_Expr)).bind fun r_8 => if r_8 = true then ((lazarettoref07_Same_r x_4.Body x_5.Body).bind fun r_9 => if r_9 = true then ((lazarettoref07_Same_r x_4.Else x_5.Else).bind fun r_10 => if r_10 = true then (some (.inl (i_1 + 1))) else (some (.inr (.inl (false))))) else (some (.inr (.inl (false))))) else (some (.inr (.inl (false))))) else (some (.inr (.inl (false))))) else (some (.inr (.inl (false))))) else (some (.inr (.inl (false))))) else (some (.inr (.inl (false))))) else (some (.inr (.inr (()))))
def lazarettoref07_Same_b (lazarettoref07_Same_r : (List api_Stmt) → (List api_Stmt) → Option Bool) (a : List api_Stmt) (b : List api_Stmt) : Option Bool :=
  if (a.length : Int) = (b.length : Int) then ((loop (lazarettoref07_Same_L1 lazarettoref07_Same_r a b) 0).bind (fun e__ => match e__ with | (.inl e_11) => some e_11 | (.inr ()) => some true)) else (some false)
def lazarettoref07_Same_g : Nat → ((List api_Stmt) → (List api_Stmt) → Option Bool)
  | 0 => fun _ _ => none
  | n + 1 => lazarettoref07_Same_b (lazarettoref07_Same_g n)
def lazarettoref07_Same_n (n : Nat) (a : List api_Stmt) (b : List api_Stmt) : Option Bool := (lazarettoref07_Same_g n) a b
def lazarettoref07_Same (a : List api_Stmt) (b : List api_Stmt) : Option Bool := lazarettoref07_Same_n 1000000 a b
def lazarettoref08_sameTask (a : api_Task) (b : api_Task) : Option Bool :=
  if a.Every = b.Every then (if a.Priority = b.Priority then ((lazarettoref04_Ints a.Budget b.Budget).bind fun r_1 => if r_1 = true then ((lazarettoref07_Same a.Body b.Body).bind fun r_2 => some r_2) else (some false)) else (some false)) else (some false)
def lazarettoref08_Same_L4 (a : api_Program) (b : api_Program) : Nat → Option ((Nat) ⊕ (Bool ⊕ Unit))
  | i_20 => if (i_20 : Int) < (a.Tasks.length : Int) then ((a.Tasks[i_20]?).bind fun x_23 => (b.Tasks[i_20]?).bind fun x_24 => (lazarettoref08_sameTask x_23 x_24).bind fun r_25 => if r_25 = true then (some (.inl (i_20 + 1))) else (some (.inr (.inl (false))))) else (some (.inr (.inr (()))))
def lazarettoref08_Same_L3 (a : api_Program) (b : api_Program) : Nat → Option ((Nat) ⊕ (Bool ⊕ Unit))
  | i_14 => if (i_14 : Int) < (a.Blocks.length : Int) then ((a.Blocks[i_14]?).bind fun x_17 => (b.Blocks[i_14]?).bind fun x_18 => if x_17.Name = x_18.Name ∧ x_17.Kind = x_18.Kind ∧ x_17.Label = x_18.Label then (some (.inl (i_14 + 1))) else (some (.inr (.inl (false))))) else (some (.inr (.inr (()))))
def lazarettoref08_Same_L2 (a : api_Program) (b : api_Program) : Nat → Option ((Nat) ⊕ (Bool ⊕ Unit))
  | i_8 => if (i_8 : Int) < (a.Vars.length : Int) then ((a.Vars[i_8]?).bind fun x_11 => (b.Vars[i_8]?).bind fun x_12 => if x_11.Name = x_12.Name ∧ x_11.Type_.Kind = x_12.Type_.Kind ∧ x_11.Type_.Low = x_12.Type_.Low ∧ x_11.Type_.Len = x_12.Type_.Len ∧ x_11.Mode = x_12.Mode ∧ x_11.Label = x_12.Label ∧ x_11.Safe = x_12.Safe then (some (.inl (i_8 + 1))) else (some (.inr (.inl (false))))) else (some (.inr (.inr (()))))
def lazarettoref08_Same_L1 (a : api_Program) (b : api_Program) : Nat → Option ((Nat) ⊕ (Bool ⊕ Unit))
  | i_2 => if (i_2 : Int) < (a.Sites.length : Int) then ((a.Sites[i_2]?).bind fun x_5 => (b.Sites[i_2]?).bind fun x_6 => if x_5.Name = x_6.Name ∧ x_5.From = x_6.From ∧ x_5.To = x_6.To then (some (.inl (i_2 + 1))) else (some (.inr (.inl (false))))) else (some (.inr (.inr (()))))
def lazarettoref08_Same (a : api_Program) (b : api_Program) : Option Bool :=
  (lazarettoref01_Same a.Lattice b.Lattice).bind fun r_1 => if r_1 = true then (if (a.Sites.length : Int) = (b.Sites.length : Int) then (if (a.Vars.length : Int) = (b.Vars.length : Int) then (if (a.Blocks.length : Int) = (b.Blocks.length : Int) then (if (a.Tasks.length : Int) = (b.Tasks.length : Int) then ((loop (lazarettoref08_Same_L1 a b) 0).bind (fun e__ => match e__ with | (.inl e_7) => some e_7 | (.inr ()) => (loop (lazarettoref08_Same_L2 a b) 0).bind (fun e__ => match e__ with | (.inl e_13) => some e_13 | (.inr ()) => (loop (lazarettoref08_Same_L3 a b) 0).bind (fun e__ => match e__ with | (.inl e_19) => some e_19 | (.inr ()) => (loop (lazarettoref08_Same_L4 a b) 0).bind (fun e__ => match e__ with | (.inl e_26) => some e_26 | (.inr ()) => some true))))) else (some false)) else (some false)) else (some false)) else (some false)) else (some false)
def lazarettoref14_May (p : api_Program) : Option Bool :=
  (lazarettoref14_Check p).bind fun r_1 => if r_1.2 = 0 then ((lazarettoref08_Same p r_1.1).bind fun r_2 => some r_2) else (some false)
end
theorem lazarettolaw06_Few_b_ok {lazarettolaw06_Few_r : api_Expr → Int → Int → Option Int} {e : api_Expr} {deep : Int} {left : Int} {r : Int}
    (lazarettolaw06_Few_r_ok : ∀ (x0 : api_Expr) (x1 : Int) (x2 : Int) (r : Int), lazarettolaw06_Few_r x0 x1 x2 = some r → Pu Tryz.prog 76 [.agg (e_api_Expr x0), .one (.int .i64 x1), .one (.int .i64 x2)] (.one (.int .i64 r))) (h : lazarettolaw06_Few_b lazarettolaw06_Few_r e deep left = some r) :
    Pu Tryz.prog 76 [.agg (e_api_Expr e), .one (.int .i64 deep), .one (.int .i64 left)] (.one (.int .i64 r)) := by
  have F := trivial; have R := trivial
  refine pA Tryz.func76 ?_
  simp only [Tryz.f76]
  unfold lazarettolaw06_Few_b at h
  refine tr ?_
  intros
  refine fi h F ?_ ?_ <;> intro h _ F
  cases h; exact fin
  refine fi h F ?_ ?_ <;> intro h _ F
  cases h; exact fin
  refine bi h fun e_3 h he_3 => ?_
  refine tt ?_
  refine lX he_3 (fun | (left_1, i_2), _ => ⟨[(1, .one (.int .i64 deep)), (2, .one (.int .i64 left_1)), (3, .one (.ref 0 0 0 0)), (7, .one (.int .i64 (i_2 : Int)))], [.cells 0 5 [[.int .i64 e.Op, .int .i64 e.N, .int .i64 e.Kind, .str e.Name, .sl (e.Args.map e_api_Expr)]]]⟩) (fun | e_3, _ => ⟨[(2, .one (.int .i64 e_3))], [.cells 0 5 [[.int .i64 e.Op, .int .i64 e.N, .int .i64 e.Kind, .str e.Name, .sl (e.Args.map e_api_Expr)]]]⟩) (fun _ => some 0) ?_ ?_
  intro i4 b4 hi4
  obtain rfl := Option.some.inj hi4
  obtain ⟨⟩ := b4
  dsimp only at h ⊢
  cases h; exact fin
  intro af4 m4 s4 a4 o4 hf4 ho4 ih4
  obtain ⟨left_1, i_2⟩ := s4
  obtain ⟨⟩ := a4
  dsimp only [lazarettolaw06_Few_L1] at hf4 ⊢
  refine tr ?_
  intros
  refine fl hf4 F ?_ ?_ <;> intro hf4 _ F
  refine fi hf4 F ?_ ?_ <;> intro hf4 _ F
  refine bx hf4 F fun x_5 hf4 hx_5 F => ?_
  refine bi hf4 fun r_6 hf4 hr_6 => ?_
  refine tr ?_
  intros
  refine cS (lazarettolaw06_Few_r_ok _ _ _ _ hr_6) ?_
  cases hf4
  refine tt ?_
  refine wn i_2 F fun F => ?_
  exact bk ih4 ho4 ()
  cases hf4
  refine tt ?_
  exact xt ho4 af4 ()
  cases hf4
  refine tt ?_
  exact xt ho4 af4 ()
theorem lazarettolaw06_Few_g_ok (n : Nat) : (∀ (x0 : api_Expr) (x1 : Int) (x2 : Int) (r : Int), (lazarettolaw06_Few_g n) x0 x1 x2 = some r → Pu Tryz.prog 76 [.agg (e_api_Expr x0), .one (.int .i64 x1), .one (.int .i64 x2)] (.one (.int .i64 r))) := by
  induction n with
  | zero => exact fun _ _ _ r h => (by cases h)
  | succ n ih =>
    have ih0 := ih
    exact fun _ _ _ r h => lazarettolaw06_Few_b_ok ih0 h
theorem lazarettolaw06_Few_ok {e : api_Expr} {deep : Int} {left : Int} {r : Int} (h : lazarettolaw06_Few e deep left = some r) : Pu Tryz.prog 76 [.agg (e_api_Expr e), .one (.int .i64 deep), .one (.int .i64 left)] (.one (.int .i64 r)) := (lazarettolaw06_Few_g_ok 1000000) _ _ _ _ h
theorem lazarettolaw07_Few_b_ok {lazarettolaw07_Few_r : (List api_Stmt) → Int → Int → Option Int} {l : List api_Stmt} {deep : Int} {left : Int} {r : Int}
    (lazarettolaw07_Few_r_ok : ∀ (x0 : List api_Stmt) (x1 : Int) (x2 : Int) (r : Int), lazarettolaw07_Few_r x0 x1 x2 = some r → Pu Tryz.prog 37 [.one (.sl (x0.map e_api_Stmt)), .one (.int .i64 x1), .one (.int .i64 x2)] (.one (.int .i64 r))) (h : lazarettolaw07_Few_b lazarettolaw07_Few_r l deep left = some r) :
    Pu Tryz.prog 37 [.one (.sl (l.map e_api_Stmt)), .one (.int .i64 deep), .one (.int .i64 left)] (.one (.int .i64 r)) := by
  have F := trivial; have R := trivial
  refine pA Tryz.func37 ?_
  simp only [Tryz.f37]
  unfold lazarettolaw07_Few_b at h
  refine tr ?_
  intros
  refine fi h F ?_ ?_ <;> intro h _ F
  refine fi h F ?_ ?_ <;> intro h _ F
  cases h; exact fin
  refine tt ?_
  refine fi h F ?_ ?_ <;> intro h _ F
  cases h; exact fin
  refine bi h fun e_3 h he_3 => ?_
  refine tt ?_
  refine lX he_3 (fun | (left_1, i_2), _ => ⟨[(0, .one (.sl (l.map e_api_Stmt))), (1, .one (.int .i64 deep)), (2, .one (.int .i64 left_1)), (7, .one (.int .i64 (i_2 : Int)))], []⟩) (fun | e_3, _ => ⟨[(2, .one (.int .i64 e_3))], []⟩) (fun _ => some 0) ?_ ?_
  intro i4 b4 hi4
  obtain rfl := Option.some.inj hi4
  obtain ⟨⟩ := b4
  dsimp only at h ⊢
  cases h; exact fin
  intro af4 m4 s4 a4 o4 hf4 ho4 ih4
  obtain ⟨left_1, i_2⟩ := s4
  obtain ⟨⟩ := a4
  dsimp only [lazarettolaw07_Few_L1] at hf4 ⊢
  refine tr ?_
  intros
  refine fl hf4 F ?_ ?_ <;> intro hf4 _ F
  refine fi hf4 F ?_ ?_ <;> intro hf4 _ F
  refine bx hf4 F fun x_5 hf4 hx_5 F => ?_
  refine bi hf4 fun r_6 hf4 hr_6 => ?_
  refine tr ?_
  intros
  refine cD (lazarettolaw06_Few_ok hr_6) ?_
  refine tr ?_
  intros
  refine fi hf4 F ?_ ?_ <;> intro hf4 _ F
  refine bi hf4 fun r_7 hf4 hr_7 => ?_
  refine tr ?_
  intros
  refine cS (lazarettolaw06_Few_ok hr_7) ?_
  refine fi hf4 F ?_ ?_ <;> intro hf4 _ F
  refine bi hf4 fun r_8 hf4 hr_8 => ?_
  refine tr ?_
  intros
  refine cS (lazarettolaw06_Few_ok hr_8) ?_
  refine fi hf4 F ?_ ?_ <;> intro hf4 _ F
  refine bi hf4 fun r_9 hf4 hr_9 => ?_
  refine tr ?_
  intros
  refine cS (lazarettolaw07_Few_r_ok _ _ _ _ hr_9) ?_
  refine fi hf4 F ?_ ?_ <;> intro hf4 _ F
  refine bi hf4 fun r_10 hf4 hr_10 => ?_
  refine tr ?_
  intros
  refine cS (lazarettolaw07_Few_r_ok _ _ _ _ hr_10) ?_
  cases hf4
  refine tt ?_
  refine wn i_2 F fun F => ?_
  exact bk ih4 ho4 ()
  cases hf4
  refine tt ?_
  refine wn i_2 F fun F => ?_
  exact bk ih4 ho4 ()
  cases hf4
  refine tt ?_
  refine wn i_2 F fun F => ?_
  exact bk ih4 ho4 ()
  cases hf4
  refine tt ?_
  refine wn i_2 F fun F => ?_
  exact bk ih4 ho4 ()
  cases hf4
  refine tt ?_
  refine wn i_2 F fun F => ?_
  exact bk ih4 ho4 ()
  cases hf4
  refine tt ?_
  exact xt ho4 af4 ()
  cases hf4
  refine tt ?_
  exact xt ho4 af4 ()
  refine fi h F ?_ ?_ <;> intro h _ F
  cases h; exact fin
  refine bi h fun e_14 h he_14 => ?_
  refine tt ?_
  refine lX he_14 (fun | (left_12, i_13), _ => ⟨[(0, .one (.sl (l.map e_api_Stmt))), (1, .one (.int .i64 deep)), (2, .one (.int .i64 left_12)), (7, .one (.int .i64 (i_13 : Int)))], []⟩) (fun | e_14, _ => ⟨[(2, .one (.int .i64 e_14))], []⟩) (fun _ => some 0) ?_ ?_
  intro i15 b15 hi15
  obtain rfl := Option.some.inj hi15
  obtain ⟨⟩ := b15
  dsimp only at h ⊢
  cases h; exact fin
  intro af15 m15 s15 a15 o15 hf15 ho15 ih15
  obtain ⟨left_12, i_13⟩ := s15
  obtain ⟨⟩ := a15
  dsimp only [lazarettolaw07_Few_L2] at hf15 ⊢
  refine tr ?_
  intros
  refine fl hf15 F ?_ ?_ <;> intro hf15 _ F
  refine fi hf15 F ?_ ?_ <;> intro hf15 _ F
  refine bx hf15 F fun x_16 hf15 hx_16 F => ?_
  refine bi hf15 fun r_17 hf15 hr_17 => ?_
  refine tr ?_
  intros
  refine cD (lazarettolaw06_Few_ok hr_17) ?_
  refine tr ?_
  intros
  refine fi hf15 F ?_ ?_ <;> intro hf15 _ F
  refine bi hf15 fun r_18 hf15 hr_18 => ?_
  refine tr ?_
  intros
  refine cS (lazarettolaw06_Few_ok hr_18) ?_
  refine fi hf15 F ?_ ?_ <;> intro hf15 _ F
  refine bi hf15 fun r_19 hf15 hr_19 => ?_
  refine tr ?_
  intros
  refine cS (lazarettolaw06_Few_ok hr_19) ?_
  refine fi hf15 F ?_ ?_ <;> intro hf15 _ F
  refine bi hf15 fun r_20 hf15 hr_20 => ?_
  refine tr ?_
  intros
  refine cS (lazarettolaw07_Few_r_ok _ _ _ _ hr_20) ?_
  refine fi hf15 F ?_ ?_ <;> intro hf15 _ F
  refine bi hf15 fun r_21 hf15 hr_21 => ?_
  refine tr ?_
  intros
  refine cS (lazarettolaw07_Few_r_ok _ _ _ _ hr_21) ?_
  cases hf15
  refine tt ?_
  refine wn i_13 F fun F => ?_
  exact bk ih15 ho15 ()
  cases hf15
  refine tt ?_
  refine wn i_13 F fun F => ?_
  exact bk ih15 ho15 ()
  cases hf15
  refine tt ?_
  refine wn i_13 F fun F => ?_
  exact bk ih15 ho15 ()
  cases hf15
  refine tt ?_
  refine wn i_13 F fun F => ?_
  exact bk ih15 ho15 ()
  cases hf15
  refine tt ?_
  refine wn i_13 F fun F => ?_
  exact bk ih15 ho15 ()
  cases hf15
  refine tt ?_
  exact xt ho15 af15 ()
  cases hf15
  refine tt ?_
  exact xt ho15 af15 ()
theorem lazarettolaw07_Few_g_ok (n : Nat) : (∀ (x0 : List api_Stmt) (x1 : Int) (x2 : Int) (r : Int), (lazarettolaw07_Few_g n) x0 x1 x2 = some r → Pu Tryz.prog 37 [.one (.sl (x0.map e_api_Stmt)), .one (.int .i64 x1), .one (.int .i64 x2)] (.one (.int .i64 r))) := by
  induction n with
  | zero => exact fun _ _ _ r h => (by cases h)
  | succ n ih =>
    have ih0 := ih
    exact fun _ _ _ r h => lazarettolaw07_Few_b_ok ih0 h
theorem lazarettolaw07_Few_ok {l : List api_Stmt} {deep : Int} {left : Int} {r : Int} (h : lazarettolaw07_Few l deep left = some r) : Pu Tryz.prog 37 [.one (.sl (l.map e_api_Stmt)), .one (.int .i64 deep), .one (.int .i64 left)] (.one (.int .i64 r)) := (lazarettolaw07_Few_g_ok 1000000) _ _ _ _ h
theorem lazarettolaw08_Few_ok {p : api_Program} {r : Int} (h : lazarettolaw08_Few p = some r) :
    Pu Tryz.prog 13 [.agg (e_api_Program p)] (.one (.int .i64 r)) := by
  have F := trivial; have R := trivial
  refine pA Tryz.func13 ?_
  simp only [Tryz.f13]
  unfold lazarettolaw08_Few at h
  refine tr ?_
  intros
  refine fi h F ?_ ?_ <;> intro h _ F
  cases h; exact fin
  refine tr ?_
  intros
  refine fi h F ?_ ?_ <;> intro h _ F
  cases h; exact fin
  refine bi h fun e_2 h he_2 => ?_
  refine tt ?_
  refine lX he_2 (fun | i_1, _ => ⟨[(1, .one (.ref 0 0 0 0)), (4, .one (.int .i64 (i_1 : Int)))], [.cells 0 6 [[.sl (p.Lattice.Names.map eS), .sl (p.Lattice.Below.map (eA2 eI)), .sl (p.Sites.map e_api_Site), .sl (p.Vars.map e_api_Var), .sl (p.Blocks.map e_api_Block), .sl (p.Tasks.map e_api_Task)]]]⟩) (fun | (.inl e_6), _ => ⟨[], []⟩ | (.inr ()), _ => ⟨[], [.cells 0 6 [[.sl (p.Lattice.Names.map eS), .sl (p.Lattice.Below.map (eA2 eI)), .sl (p.Sites.map e_api_Site), .sl (p.Vars.map e_api_Var), .sl (p.Blocks.map e_api_Block), .sl (p.Tasks.map e_api_Task)]]]⟩) (fun | (.inl _) => none | (.inr _) => some 0) ?_ ?_
  intro i3 b3 hi3
  rcases e_2 with e_case | ⟨⟩
  cases hi3
  obtain rfl := Option.some.inj hi3
  obtain ⟨⟩ := b3
  dsimp only at h ⊢
  cases h; exact fin
  intro af3 m3 i_1 a3 o3 hf3 ho3 ih3
  obtain ⟨⟩ := a3
  dsimp only [lazarettolaw08_Few_L1] at hf3 ⊢
  refine tr ?_
  intros
  refine fl hf3 F ?_ ?_ <;> intro hf3 _ F
  refine bx hf3 F fun x_4 hf3 hx_4 F => ?_
  refine tr ?_
  intros
  refine fi hf3 F ?_ ?_ <;> intro hf3 _ F
  cases hf3
  obtain rfl := sr ho3
  try dsimp only at h
  cases h
  exact fin
  refine bi hf3 fun r_5 hf3 hr_5 => ?_
  refine tr ?_
  intros
  refine cS (lazarettolaw07_Few_ok hr_5) ?_
  refine fi hf3 F ?_ ?_ <;> intro hf3 _ F
  cases hf3
  obtain rfl := sr ho3
  try dsimp only at h
  cases h
  exact fin
  cases hf3
  refine tt ?_
  refine wn i_1 F fun F => ?_
  exact bk ih3 ho3 ()
  cases hf3
  refine tt ?_
  exact xt ho3 af3 ()
theorem lazarettoref05_letter_ok {c : Int} {r : Bool} (h : lazarettoref05_letter c = some r) :
    Pu Tryz.prog 198 [.one (.int .u8 c)] (.one (.bool r)) := by
  have F := trivial; have R := trivial
  refine pA Tryz.func198 ?_
  simp only [Tryz.f198]
  unfold lazarettoref05_letter at h
  refine fi h F ?_ ?_ <;> intro h _ F
  refine tt ?_
  refine fi h F ?_ ?_ <;> intro h _ F
  cases h; exact fin
  refine fi h F ?_ ?_ <;> intro h _ F
  refine tt ?_
  refine fi h F ?_ ?_ <;> intro h _ F
  cases h; exact fin
  cases h; exact fin
  cases h; exact fin
  refine tt ?_
  refine fi h F ?_ ?_ <;> intro h _ F
  refine fi h F ?_ ?_ <;> intro h _ F
  cases h; exact fin
  cases h; exact fin
  cases h; exact fin
theorem lazarettoref05_digit_ok {c : Int} {r : Bool} (h : lazarettoref05_digit c = some r) :
    Pu Tryz.prog 199 [.one (.int .u8 c)] (.one (.bool r)) := by
  have F := trivial; have R := trivial
  refine pA Tryz.func199 ?_
  simp only [Tryz.f199]
  unfold lazarettoref05_digit at h
  refine fi h F ?_ ?_ <;> intro h _ F
  cases h; exact fin
  cases h; exact fin
theorem lazarettoref05_run_ok {s : Str} {r : Int} (h : lazarettoref05_run s = some r) :
    Pu Tryz.prog 185 [.one (.str s)] (.one (.int .i64 r)) := by
  have F := trivial; have R := trivial
  refine pA Tryz.func185 ?_
  simp only [Tryz.f185]
  unfold lazarettoref05_run at h
  refine fi h F ?_ ?_ <;> intro h _ F
  cases h; exact fin
  refine bx h F fun c_1 h hc_1 F => ?_
  refine bi h fun r_2 h hr_2 => ?_
  refine tr ?_
  intros
  refine cS (lazarettoref05_letter_ok hr_2) ?_
  refine fv h F ?_ ?_ <;> intro h _ F
  refine bi h fun e_4 h he_4 => ?_
  refine tt ?_
  refine lX he_4 (fun | n_3, _ => ⟨[(0, .one (.str s)), (3, .one (.int .i64 (n_3 : Int)))], []⟩) (fun | e_4, _ => ⟨[(3, .one (.int .i64 (e_4 : Int)))], []⟩) (fun _ => some 0) ?_ ?_
  intro i5 b5 hi5
  obtain rfl := Option.some.inj hi5
  obtain ⟨⟩ := b5
  dsimp only at h ⊢
  cases h; exact fin
  intro af5 m5 n_3 a5 o5 hf5 ho5 ih5
  obtain ⟨⟩ := a5
  dsimp only [lazarettoref05_run_L1] at hf5 ⊢
  refine tr ?_
  intros
  refine fl hf5 F ?_ ?_ <;> intro hf5 _ F
  refine bx hf5 F fun c_6 hf5 hc_6 F => ?_
  refine bi hf5 fun r_7 hf5 hr_7 => ?_
  refine tr ?_
  intros
  refine cS (lazarettoref05_letter_ok hr_7) ?_
  refine fv hf5 F ?_ ?_ <;> intro hf5 _ F
  cases hf5
  refine tt ?_
  refine wn n_3 F fun F => ?_
  exact bk ih5 ho5 ()
  refine bi hf5 fun r_8 hf5 hr_8 => ?_
  refine tr ?_
  intros
  refine cS (lazarettoref05_digit_ok hr_8) ?_
  refine fv hf5 F ?_ ?_ <;> intro hf5 _ F
  cases hf5
  refine tt ?_
  refine wn n_3 F fun F => ?_
  exact bk ih5 ho5 ()
  cases hf5
  refine tt ?_
  exact xt ho5 af5 ()
  cases hf5
  refine tt ?_
  exact xt ho5 af5 ()
  cases h; exact fin
theorem lazarettoref05_Among_ok {s : Str} {names : Str} {r : Bool} (h : lazarettoref05_Among s names = some r) :
    Pu Tryz.prog 159 [.one (.str s), .one (.str names)] (.one (.bool r)) := by
  have F := trivial; have R := trivial
  refine pA Tryz.func159 ?_
  simp only [Tryz.f159]
  unfold lazarettoref05_Among at h
  refine bi h fun e_3 h he_3 => ?_
  refine tt ?_
  refine lX he_3 (fun | (from_1, i_2), _ => ⟨[(0, .one (.str s)), (1, .one (.str names)), (5, .one (.int .i64 from_1)), (6, .one (.int .i64 (i_2 : Int)))], []⟩) (fun | (.inl e_8), _ => ⟨[], []⟩ | (.inr ()), _ => ⟨[], []⟩) (fun | (.inl _) => none | (.inr _) => some 0) ?_ ?_
  intro i4 b4 hi4
  rcases e_3 with e_case | ⟨⟩
  cases hi4
  obtain rfl := Option.some.inj hi4
  obtain ⟨⟩ := b4
  dsimp only at h ⊢
  cases h; exact fin
  intro af4 m4 s4 a4 o4 hf4 ho4 ih4
  obtain ⟨from_1, i_2⟩ := s4
  obtain ⟨⟩ := a4
  dsimp only [lazarettoref05_Among_L1] at hf4 ⊢
  refine tr ?_
  intros
  refine fm hf4 F ?_ ?_ <;> intro hf4 _ F
  refine tr ?_
  intros
  refine fi hf4 F ?_ ?_ <;> intro hf4 _ F
  refine fi hf4 F ?_ ?_ <;> intro hf4 _ F
  refine nd hf4 F fun hf4 F => ?_
  refine tr ?_
  intros
  refine fi hf4 F ?_ ?_ <;> intro hf4 _ F
  cases hf4
  obtain rfl := sr ho4
  try dsimp only at h
  cases h
  exact fin
  cases hf4
  refine tt ?_
  refine wn i_2 F fun F => ?_
  exact bk ih4 ho4 ()
  cases hf4
  refine tt ?_
  refine wn i_2 F fun F => ?_
  exact bk ih4 ho4 ()
  refine bx hf4 F fun c_6 hf4 hc_6 F => ?_
  refine tr ?_
  intros
  refine fi hf4 F ?_ ?_ <;> intro hf4 _ F
  refine fi hf4 F ?_ ?_ <;> intro hf4 _ F
  refine nd hf4 F fun hf4 F => ?_
  refine tr ?_
  intros
  refine fi hf4 F ?_ ?_ <;> intro hf4 _ F
  cases hf4
  obtain rfl := sr ho4
  try dsimp only at h
  cases h
  exact fin
  cases hf4
  refine tt ?_
  refine wn i_2 F fun F => ?_
  exact bk ih4 ho4 ()
  cases hf4
  refine tt ?_
  refine wn i_2 F fun F => ?_
  exact bk ih4 ho4 ()
  cases hf4
  refine tt ?_
  refine wn i_2 F fun F => ?_
  exact bk ih4 ho4 ()
  cases hf4
  refine tt ?_
  exact xt ho4 af4 ()
theorem lazarettoref05_Word_ok {s : Str} {r : Bool} (h : lazarettoref05_Word s = some r) :
    Pu Tryz.prog 186 [.one (.str s)] (.one (.bool r)) := by
  have F := trivial; have R := trivial
  refine pA Tryz.func186 ?_
  simp only [Tryz.f186]
  unfold lazarettoref05_Word at h
  refine bi h fun r_1 h hr_1 => ?_
  refine tr ?_
  intros
  refine cS (lazarettoref05_Among_ok hr_1) ?_
  cases h; exact fin
theorem lazarettoref05_upper_ok {s : Str} {r : Str} (h : lazarettoref05_upper s = some r) :
    Pu Tryz.prog 187 [.one (.str s)] (.one (.str r)) := by
  have F := trivial; have R := trivial
  refine pA Tryz.func187 ?_
  simp only [Tryz.f187]
  unfold lazarettoref05_upper at h
  refine bi h fun e_3 h he_3 => ?_
  refine tt ?_
  refine lX he_3 (fun | (b_1, i_2), _ => ⟨[(3, .one (.msl 0 0 0 b_1.length)), (4, .one (.int .i64 (i_2 : Int)))], [.cells 0 1 (b_1.map (eK .u8))]⟩) (fun | e_3, _ => ⟨[(3, .one (.msl 0 0 0 e_3.length))], [.cells 0 1 (e_3.map (eK .u8))]⟩) (fun _ => some 0) ?_ ?_
  intro i4 b4 hi4
  obtain rfl := Option.some.inj hi4
  obtain ⟨⟩ := b4
  dsimp only at h ⊢
  cases h; exact fin
  intro af4 m4 s4 a4 o4 hf4 ho4 ih4
  obtain ⟨b_1, i_2⟩ := s4
  obtain ⟨⟩ := a4
  dsimp only [lazarettoref05_upper_L1] at hf4 ⊢
  refine tr ?_
  intros
  refine fl hf4 F ?_ ?_ <;> intro hf4 _ F
  refine bx hf4 F fun x_5 hf4 hx_5 F => ?_
  refine tr ?_
  intros
  refine fi hf4 F ?_ ?_ <;> intro hf4 _ F
  refine tr ?_
  intros
  refine fi hf4 F ?_ ?_ <;> intro hf4 _ F
  have R := And.intro (show (List.map (eK .u8) b_1).set i_2 [.int .u8 (IntKind.u8.wrap (x_5 - 32))] = List.map (eK .u8) (b_1.set i_2 (IntKind.u8.wrap (x_5 - 32))) by simp [go_sem, List.map_set]) R
  cases hf4
  refine tr ?_
  intros
  refine wn i_2 F fun F => ?_
  exact bk ih4 ho4 ()
  cases hf4
  refine tt ?_
  refine wn i_2 F fun F => ?_
  exact bk ih4 ho4 ()
  cases hf4
  refine tt ?_
  refine wn i_2 F fun F => ?_
  exact bk ih4 ho4 ()
  cases hf4
  refine tt ?_
  exact xt ho4 af4 ()
theorem lazarettoref05_Name_ok {s : Str} {r : Bool} (h : lazarettoref05_Name s = some r) :
    Pu Tryz.prog 155 [.one (.str s)] (.one (.bool r)) := by
  have F := trivial; have R := trivial
  refine pA Tryz.func155 ?_
  simp only [Tryz.f155]
  unfold lazarettoref05_Name at h
  refine fi h F ?_ ?_ <;> intro h _ F
  cases h; exact fin
  refine tr ?_
  intros
  refine fi h F ?_ ?_ <;> intro h _ F
  refine bi h fun r_1 h hr_1 => ?_
  refine tr ?_
  intros
  refine cS (lazarettoref05_run_ok hr_1) ?_
  refine tr ?_
  intros
  refine fi h F ?_ ?_ <;> intro h _ F
  refine bi h fun r_2 h hr_2 => ?_
  refine tr ?_
  intros
  refine cS (lazarettoref05_upper_ok hr_2) ?_
  refine bi h fun r_3 h hr_3 => ?_
  refine tr ?_
  intros
  refine cS (lazarettoref05_Word_ok hr_3) ?_
  cases h; exact fin
  cases h; exact fin
  cases h; exact fin
theorem lazarettoref08_find_ok {l : List Str} {name : Str} {r : Int} (h : lazarettoref08_find l name = some r) :
    Pu Tryz.prog 156 [.one (.sl (l.map eS)), .one (.str name)] (.one (.int .i64 r)) := by
  have F := trivial; have R := trivial
  refine pA Tryz.func156 ?_
  simp only [Tryz.f156]
  unfold lazarettoref08_find at h
  refine bi h fun e_2 h he_2 => ?_
  refine tt ?_
  refine lX he_2 (fun | i_1, _ => ⟨[(0, .one (.sl (l.map eS))), (1, .one (.str name)), (5, .one (.int .i64 (i_1 : Int)))], []⟩) (fun | (.inl e_5), _ => ⟨[], []⟩ | (.inr ()), _ => ⟨[], []⟩) (fun | (.inl _) => none | (.inr _) => some 0) ?_ ?_
  intro i3 b3 hi3
  rcases e_2 with e_case | ⟨⟩
  cases hi3
  obtain rfl := Option.some.inj hi3
  obtain ⟨⟩ := b3
  dsimp only at h ⊢
  cases h; exact fin
  intro af3 m3 i_1 a3 o3 hf3 ho3 ih3
  obtain ⟨⟩ := a3
  dsimp only [lazarettoref08_find_L1] at hf3 ⊢
  refine tr ?_
  intros
  refine fl hf3 F ?_ ?_ <;> intro hf3 _ F
  refine bx hf3 F fun x_4 hf3 hx_4 F => ?_
  refine tr ?_
  intros
  refine fi hf3 F ?_ ?_ <;> intro hf3 _ F
  cases hf3
  obtain rfl := sr ho3
  try dsimp only at h
  cases h
  exact fin
  cases hf3
  refine tt ?_
  refine wn i_1 F fun F => ?_
  exact bk ih3 ho3 ()
  cases hf3
  refine tt ?_
  exact xt ho3 af3 ()
theorem lazarettoref01_Is_ok {l : api_Lattice} {a : Int} {r : Bool} (h : lazarettoref01_Is l a = some r) :
    Pu Tryz.prog 52 [.agg (e_api_Lattice l), .one (.int .i64 a)] (.one (.bool r)) := by
  have F := trivial; have R := trivial
  refine pA Tryz.func52 ?_
  simp only [Tryz.f52]
  unfold lazarettoref01_Is at h
  refine fi h F ?_ ?_ <;> intro h _ F
  cases h; exact fin
  cases h; exact fin
theorem lazarettoref08_label_ok {p : api_Program} {n : Int} {r : Bool} (h : lazarettoref08_label p n = some r) :
    Pu Tryz.prog 157 [.agg (e_api_Program p), .one (.int .i64 n)] (.one (.bool r)) := by
  have F := trivial; have R := trivial
  refine pA Tryz.func157 ?_
  simp only [Tryz.f157]
  unfold lazarettoref08_label at h
  refine bi h fun r_1 h hr_1 => ?_
  refine tr ?_
  intros
  refine cS (lazarettoref01_Is_ok hr_1) ?_
  cases h; exact fin
theorem lazarettoref03_Bits_ok {kind : Int} {r : Int} (h : lazarettoref03_Bits kind = some r) :
    Pu Tryz.prog 42 [.one (.int .i64 kind)] (.one (.int .i64 r)) := by
  have F := trivial; have R := trivial
  refine pA Tryz.func42 ?_
  simp only [Tryz.f42]
  unfold lazarettoref03_Bits at h
  refine fi h F ?_ ?_ <;> intro h _ F
  cases h; exact fin
  refine fi h F ?_ ?_ <;> intro h _ F
  cases h; exact fin
  refine tt ?_
  refine fi h F ?_ ?_ <;> intro h _ F
  cases h; exact fin
  refine fi h F ?_ ?_ <;> intro h _ F
  cases h; exact fin
  cases h; exact fin
theorem lazarettoref03_half_ok {kind : Int} {r : Int} (h : lazarettoref03_half kind = some r) :
    Pu Tryz.prog 43 [.one (.int .i64 kind)] (.one (.int .i64 r)) := by
  have F := trivial; have R := trivial
  refine pA Tryz.func43 ?_
  simp only [Tryz.f43]
  unfold lazarettoref03_half at h
  refine fi h F ?_ ?_ <;> intro h _ F
  cases h; exact fin
  cases h; exact fin
theorem lazarettoref03_Valid_ok {kind : Int} {n : Int} {r : Bool} (h : lazarettoref03_Valid kind n = some r) :
    Pu Tryz.prog 17 [.one (.int .i64 kind), .one (.int .i64 n)] (.one (.bool r)) := by
  have F := trivial; have R := trivial
  refine pA Tryz.func17 ?_
  simp only [Tryz.f17]
  unfold lazarettoref03_Valid at h
  refine fi h F ?_ ?_ <;> intro h _ F
  refine fi h F ?_ ?_ <;> intro h _ F
  cases h; exact fin
  cases h; exact fin
  refine bi h fun r_1 h hr_1 => ?_
  refine tr ?_
  intros
  refine cS (lazarettoref03_Bits_ok hr_1) ?_
  refine fi h F ?_ ?_ <;> intro h _ F
  refine bi h fun r_2 h hr_2 => ?_
  refine tr ?_
  intros
  refine cS (lazarettoref03_half_ok hr_2) ?_
  refine fi h F ?_ ?_ <;> intro h _ F
  refine bi h fun r_3 h hr_3 => ?_
  refine tr ?_
  intros
  refine cS (lazarettoref03_half_ok hr_3) ?_
  cases h; exact fin
  cases h; exact fin
  cases h; exact fin
theorem lazarettoref04_Check_ok {t : api_Type} {r : Int} (h : lazarettoref04_Check t = some r) :
    Pu Tryz.prog 53 [.agg (e_api_Type t)] (.one (.int .i64 r)) := by
  have F := trivial; have R := trivial
  refine pA Tryz.func53 ?_
  simp only [Tryz.f53]
  unfold lazarettoref04_Check at h
  refine bi h fun r_1 h hr_1 => ?_
  refine tr ?_
  intros
  refine cS (lazarettoref03_Bits_ok hr_1) ?_
  refine fi h F ?_ ?_ <;> intro h _ F
  cases h; exact fin
  refine tt ?_
  refine fi h F ?_ ?_ <;> intro h _ F
  cases h; exact fin
  refine fi h F ?_ ?_ <;> intro h _ F
  cases h; exact fin
  refine tt ?_
  refine fi h F ?_ ?_ <;> intro h _ F
  refine fi h F ?_ ?_ <;> intro h _ F
  refine tt ?_
  refine fi h F ?_ ?_ <;> intro h _ F
  cases h; exact fin
  refine fi h F ?_ ?_ <;> intro h _ F
  cases h; exact fin
  cases h; exact fin
  cases h; exact fin
  refine tt ?_
  refine fi h F ?_ ?_ <;> intro h _ F
  cases h; exact fin
  refine fi h F ?_ ?_ <;> intro h _ F
  cases h; exact fin
  cases h; exact fin
theorem lazarettoref08_variable_ok {p : api_Program} {v : api_Var} {r : Bool} (h : lazarettoref08_variable p v = some r) :
    Pu Tryz.prog 158 [.agg (e_api_Program p), .agg (e_api_Var v)] (.one (.bool r)) := by
  have F := trivial; have R := trivial
  refine pA Tryz.func158 ?_
  simp only [Tryz.f158]
  unfold lazarettoref08_variable at h
  refine bi h fun r_1 h hr_1 => ?_
  refine tr ?_
  intros
  refine cS (lazarettoref05_Name_ok hr_1) ?_
  refine fv h F ?_ ?_ <;> intro h _ F
  refine bi h fun r_2 h hr_2 => ?_
  refine tr ?_
  intros
  refine cS (lazarettoref04_Check_ok hr_2) ?_
  refine fi h F ?_ ?_ <;> intro h _ F
  refine fi h F ?_ ?_ <;> intro h _ F
  refine tt ?_
  refine fi h F ?_ ?_ <;> intro h _ F
  refine fi h F ?_ ?_ <;> intro h _ F
  refine tt ?_
  refine fi h F ?_ ?_ <;> intro h _ F
  cases h; exact fin
  cases h; exact fin
  refine bi h fun r_3 h hr_3 => ?_
  refine tr ?_
  intros
  refine cS (lazarettoref08_label_ok hr_3) ?_
  refine fv h F ?_ ?_ <;> intro h _ F
  refine tt ?_
  refine fi h F ?_ ?_ <;> intro h _ F
  cases h; exact fin
  cases h; exact fin
  cases h; exact fin
  cases h; exact fin
  refine tt ?_
  refine fi h F ?_ ?_ <;> intro h _ F
  refine fi h F ?_ ?_ <;> intro h _ F
  refine bi h fun r_4 h hr_4 => ?_
  refine tr ?_
  intros
  refine cS (lazarettoref08_label_ok hr_4) ?_
  refine fv h F ?_ ?_ <;> intro h _ F
  cases h; exact fin
  cases h; exact fin
  cases h; exact fin
  refine fi h F ?_ ?_ <;> intro h _ F
  refine bi h fun r_5 h hr_5 => ?_
  refine tr ?_
  intros
  refine cS (lazarettoref08_label_ok hr_5) ?_
  refine fv h F ?_ ?_ <;> intro h _ F
  refine tt ?_
  refine fi h F ?_ ?_ <;> intro h _ F
  refine bi h fun r_6 h hr_6 => ?_
  refine tr ?_
  intros
  refine cS (lazarettoref03_Valid_ok hr_6) ?_
  cases h; exact fin
  cases h; exact fin
  cases h; exact fin
  cases h; exact fin
  cases h; exact fin
  cases h; exact fin
theorem lazarettoref08_parts_ok {p : api_Program} {r : Bool} (h : lazarettoref08_parts p = some r) :
    Pu Tryz.prog 119 [.agg (e_api_Program p)] (.one (.bool r)) := by
  have F := trivial; have R := trivial
  refine pA Tryz.func119 ?_
  simp only [Tryz.f119]
  unfold lazarettoref08_parts at h
  refine tr ?_
  intros
  refine fi h F ?_ ?_ <;> intro h _ F
  cases h; exact fin
  refine tr ?_
  intros
  refine fi h F ?_ ?_ <;> intro h _ F
  cases h; exact fin
  refine tr ?_
  intros
  refine fi h F ?_ ?_ <;> intro h _ F
  cases h; exact fin
  refine tr ?_
  intros
  refine fi h F ?_ ?_ <;> intro h _ F
  cases h; exact fin
  refine tr ?_
  intros
  refine fi h F ?_ ?_ <;> intro h _ F
  cases h; exact fin
  refine tr ?_
  intros
  refine fi h F ?_ ?_ <;> intro h _ F
  cases h; exact fin
  refine bi h fun e_2 h he_2 => ?_
  refine tt ?_
  refine lX he_2 (fun | i_1, _ => ⟨[(1, .one (.ref 0 0 0 0)), (3, .one (.int .i64 (i_1 : Int)))], [.cells 0 6 [[.sl (p.Lattice.Names.map eS), .sl (p.Lattice.Below.map (eA2 eI)), .sl (p.Sites.map e_api_Site), .sl (p.Vars.map e_api_Var), .sl (p.Blocks.map e_api_Block), .sl (p.Tasks.map e_api_Task)]]]⟩) (fun | (.inl e_7), _ => ⟨[], []⟩ | (.inr ()), _ => ⟨[(1, .one (.ref 0 0 0 0))], [.cells 0 6 [[.sl (p.Lattice.Names.map eS), .sl (p.Lattice.Below.map (eA2 eI)), .sl (p.Sites.map e_api_Site), .sl (p.Vars.map e_api_Var), .sl (p.Blocks.map e_api_Block), .sl (p.Tasks.map e_api_Task)]]]⟩) (fun | (.inl _) => none | (.inr _) => some 0) ?_ ?_
  intro i3 b3 hi3
  rcases e_2 with e_case | ⟨⟩
  cases hi3
  obtain rfl := Option.some.inj hi3
  obtain ⟨⟩ := b3
  dsimp only at h ⊢
  refine bi h fun e_9 h he_9 => ?_
  refine tt ?_
  refine lX he_9 (fun | i_8, _ => ⟨[(1, .one (.ref 0 0 0 0)), (4, .one (.int .i64 (i_8 : Int)))], [.cells 0 6 [[.sl (p.Lattice.Names.map eS), .sl (p.Lattice.Below.map (eA2 eI)), .sl (p.Sites.map e_api_Site), .sl (p.Vars.map e_api_Var), .sl (p.Blocks.map e_api_Block), .sl (p.Tasks.map e_api_Task)]]]⟩) (fun | (.inl e_14), _ => ⟨[], []⟩ | (.inr ()), _ => ⟨[(1, .one (.ref 0 0 0 0))], [.cells 0 6 [[.sl (p.Lattice.Names.map eS), .sl (p.Lattice.Below.map (eA2 eI)), .sl (p.Sites.map e_api_Site), .sl (p.Vars.map e_api_Var), .sl (p.Blocks.map e_api_Block), .sl (p.Tasks.map e_api_Task)]]]⟩) (fun | (.inl _) => none | (.inr _) => some 2) ?_ ?_
  intro i10 b10 hi10
  rcases e_9 with e_case | ⟨⟩
  cases hi10
  obtain rfl := Option.some.inj hi10
  obtain ⟨⟩ := b10
  dsimp only at h ⊢
  refine bi h fun e_16 h he_16 => ?_
  refine tt ?_
  refine lX he_16 (fun | i_15, _ => ⟨[(1, .one (.ref 0 0 0 0)), (5, .one (.int .i64 (i_15 : Int)))], [.cells 0 6 [[.sl (p.Lattice.Names.map eS), .sl (p.Lattice.Below.map (eA2 eI)), .sl (p.Sites.map e_api_Site), .sl (p.Vars.map e_api_Var), .sl (p.Blocks.map e_api_Block), .sl (p.Tasks.map e_api_Task)]]]⟩) (fun | (.inl e_22), _ => ⟨[], []⟩ | (.inr ()), _ => ⟨[(1, .one (.ref 0 0 0 0))], [.cells 0 6 [[.sl (p.Lattice.Names.map eS), .sl (p.Lattice.Below.map (eA2 eI)), .sl (p.Sites.map e_api_Site), .sl (p.Vars.map e_api_Var), .sl (p.Blocks.map e_api_Block), .sl (p.Tasks.map e_api_Task)]]]⟩) (fun | (.inl _) => none | (.inr _) => some 4) ?_ ?_
  intro i17 b17 hi17
  rcases e_16 with e_case | ⟨⟩
  cases hi17
  obtain rfl := Option.some.inj hi17
  obtain ⟨⟩ := b17
  dsimp only at h ⊢
  refine bi h fun e_24 h he_24 => ?_
  refine tt ?_
  refine lX he_24 (fun | i_23, _ => ⟨[(1, .one (.ref 0 0 0 0)), (6, .one (.int .i64 (i_23 : Int)))], [.cells 0 6 [[.sl (p.Lattice.Names.map eS), .sl (p.Lattice.Below.map (eA2 eI)), .sl (p.Sites.map e_api_Site), .sl (p.Vars.map e_api_Var), .sl (p.Blocks.map e_api_Block), .sl (p.Tasks.map e_api_Task)]]]⟩) (fun | (.inl e_28), _ => ⟨[], []⟩ | (.inr ()), _ => ⟨[(1, .one (.ref 0 0 0 0))], [.cells 0 6 [[.sl (p.Lattice.Names.map eS), .sl (p.Lattice.Below.map (eA2 eI)), .sl (p.Sites.map e_api_Site), .sl (p.Vars.map e_api_Var), .sl (p.Blocks.map e_api_Block), .sl (p.Tasks.map e_api_Task)]]]⟩) (fun | (.inl _) => none | (.inr _) => some 6) ?_ ?_
  intro i25 b25 hi25
  rcases e_24 with e_case | ⟨⟩
  cases hi25
  obtain rfl := Option.some.inj hi25
  obtain ⟨⟩ := b25
  dsimp only at h ⊢
  refine bi h fun e_30 h he_30 => ?_
  refine tt ?_
  refine lX he_30 (fun | i_29, _ => ⟨[(1, .one (.ref 0 0 0 0)), (7, .one (.int .i64 (i_29 : Int)))], [.cells 0 6 [[.sl (p.Lattice.Names.map eS), .sl (p.Lattice.Below.map (eA2 eI)), .sl (p.Sites.map e_api_Site), .sl (p.Vars.map e_api_Var), .sl (p.Blocks.map e_api_Block), .sl (p.Tasks.map e_api_Task)]]]⟩) (fun | (.inl e_36), _ => ⟨[], []⟩ | (.inr ()), _ => ⟨[], [.cells 0 6 [[.sl (p.Lattice.Names.map eS), .sl (p.Lattice.Below.map (eA2 eI)), .sl (p.Sites.map e_api_Site), .sl (p.Vars.map e_api_Var), .sl (p.Blocks.map e_api_Block), .sl (p.Tasks.map e_api_Task)]]]⟩) (fun | (.inl _) => none | (.inr _) => some 8) ?_ ?_
  intro i31 b31 hi31
  rcases e_30 with e_case | ⟨⟩
  cases hi31
  obtain rfl := Option.some.inj hi31
  obtain ⟨⟩ := b31
  dsimp only at h ⊢
  cases h; exact fin
  intro af31 m31 i_29 a31 o31 hf31 ho31 ih31
  obtain ⟨⟩ := a31
  dsimp only [lazarettoref08_parts_L5] at hf31 ⊢
  refine tr ?_
  intros
  refine fl hf31 F ?_ ?_ <;> intro hf31 _ F
  refine bx hf31 F fun x_32 hf31 hx_32 F => ?_
  refine bi hf31 fun r_33 hf31 hr_33 => ?_
  refine tr ?_
  intros
  refine cS (lazarettoref05_Name_ok hr_33) ?_
  refine fv hf31 F ?_ ?_ <;> intro hf31 _ F
  refine bi hf31 fun r_34 hf31 hr_34 => ?_
  refine tr ?_
  intros
  refine cS (lazarettoref05_Among_ok hr_34) ?_
  refine fv hf31 F ?_ ?_ <;> intro hf31 _ F
  refine bi hf31 fun r_35 hf31 hr_35 => ?_
  refine tr ?_
  intros
  refine cS (lazarettoref08_label_ok hr_35) ?_
  refine fv hf31 F ?_ ?_ <;> intro hf31 _ F
  cases hf31
  refine tt ?_
  refine wn i_29 F fun F => ?_
  exact bk ih31 ho31 ()
  cases hf31
  obtain rfl := sr ho31
  try dsimp only at h
  cases h
  exact fin
  cases hf31
  obtain rfl := sr ho31
  try dsimp only at h
  cases h
  exact fin
  cases hf31
  obtain rfl := sr ho31
  try dsimp only at h
  cases h
  exact fin
  cases hf31
  refine tt ?_
  exact xt ho31 af31 ()
  intro af25 m25 i_23 a25 o25 hf25 ho25 ih25
  obtain ⟨⟩ := a25
  dsimp only [lazarettoref08_parts_L4] at hf25 ⊢
  refine tr ?_
  intros
  refine fl hf25 F ?_ ?_ <;> intro hf25 _ F
  refine bx hf25 F fun x_26 hf25 hx_26 F => ?_
  refine bi hf25 fun r_27 hf25 hr_27 => ?_
  refine tr ?_
  intros
  refine cD (lazarettoref08_variable_ok hr_27) ?_
  refine tr ?_
  intros
  refine fv hf25 F ?_ ?_ <;> intro hf25 _ F
  cases hf25
  refine tt ?_
  refine wn i_23 F fun F => ?_
  exact bk ih25 ho25 ()
  cases hf25
  obtain rfl := sr ho25
  try dsimp only at h
  cases h
  exact fin
  cases hf25
  refine tt ?_
  exact xt ho25 af25 ()
  intro af17 m17 i_15 a17 o17 hf17 ho17 ih17
  obtain ⟨⟩ := a17
  dsimp only [lazarettoref08_parts_L3] at hf17 ⊢
  refine tr ?_
  intros
  refine fl hf17 F ?_ ?_ <;> intro hf17 _ F
  refine bx hf17 F fun x_18 hf17 hx_18 F => ?_
  refine bi hf17 fun r_19 hf17 hr_19 => ?_
  refine tr ?_
  intros
  refine cD (lazarettoref05_Name_ok hr_19) ?_
  refine tr ?_
  intros
  refine fv hf17 F ?_ ?_ <;> intro hf17 _ F
  refine bi hf17 fun r_20 hf17 hr_20 => ?_
  refine tr ?_
  intros
  refine cD (lazarettoref08_label_ok hr_20) ?_
  refine tr ?_
  intros
  refine fv hf17 F ?_ ?_ <;> intro hf17 _ F
  refine bi hf17 fun r_21 hf17 hr_21 => ?_
  refine tr ?_
  intros
  refine cD (lazarettoref08_label_ok hr_21) ?_
  refine tr ?_
  intros
  refine fv hf17 F ?_ ?_ <;> intro hf17 _ F
  cases hf17
  refine tt ?_
  refine wn i_15 F fun F => ?_
  exact bk ih17 ho17 ()
  cases hf17
  obtain rfl := sr ho17
  try dsimp only at h
  cases h
  exact fin
  cases hf17
  obtain rfl := sr ho17
  try dsimp only at h
  cases h
  exact fin
  cases hf17
  obtain rfl := sr ho17
  try dsimp only at h
  cases h
  exact fin
  cases hf17
  refine tt ?_
  exact xt ho17 af17 ()
  intro af10 m10 i_8 a10 o10 hf10 ho10 ih10
  obtain ⟨⟩ := a10
  dsimp only [lazarettoref08_parts_L2] at hf10 ⊢
  refine tr ?_
  intros
  refine fl hf10 F ?_ ?_ <;> intro hf10 _ F
  refine bx hf10 F fun x_11 hf10 hx_11 F => ?_
  refine bi hf10 fun r_12 hf10 hr_12 => ?_
  refine tr ?_
  intros
  refine cD (lazarettoref08_label_ok hr_12) ?_
  refine tr ?_
  intros
  refine fv hf10 F ?_ ?_ <;> intro hf10 _ F
  refine bi hf10 fun r_13 hf10 hr_13 => ?_
  refine tr ?_
  intros
  refine cD (lazarettoref08_label_ok hr_13) ?_
  refine tr ?_
  intros
  refine fv hf10 F ?_ ?_ <;> intro hf10 _ F
  cases hf10
  refine tt ?_
  refine wn i_8 F fun F => ?_
  exact bk ih10 ho10 ()
  cases hf10
  obtain rfl := sr ho10
  try dsimp only at h
  cases h
  exact fin
  cases hf10
  obtain rfl := sr ho10
  try dsimp only at h
  cases h
  exact fin
  cases hf10
  refine tt ?_
  exact xt ho10 af10 ()
  intro af3 m3 i_1 a3 o3 hf3 ho3 ih3
  obtain ⟨⟩ := a3
  dsimp only [lazarettoref08_parts_L1] at hf3 ⊢
  refine tr ?_
  intros
  refine fl hf3 F ?_ ?_ <;> intro hf3 _ F
  refine bx hf3 F fun x_4 hf3 hx_4 F => ?_
  refine bi hf3 fun r_5 hf3 hr_5 => ?_
  refine tr ?_
  intros
  refine cD (lazarettoref05_Name_ok hr_5) ?_
  refine tr ?_
  intros
  refine fv hf3 F ?_ ?_ <;> intro hf3 _ F
  refine bi hf3 fun r_6 hf3 hr_6 => ?_
  refine tr ?_
  intros
  refine cD (lazarettoref08_find_ok hr_6) ?_
  refine tr ?_
  intros
  refine fi hf3 F ?_ ?_ <;> intro hf3 _ F
  cases hf3
  refine tt ?_
  refine wn i_1 F fun F => ?_
  exact bk ih3 ho3 ()
  cases hf3
  obtain rfl := sr ho3
  try dsimp only at h
  cases h
  exact fin
  cases hf3
  obtain rfl := sr ho3
  try dsimp only at h
  cases h
  exact fin
  cases hf3
  refine tt ?_
  exact xt ho3 af3 ()
theorem lazarettoref06_form_ok {e : api_Expr} {r : Bool} (h : lazarettoref06_form e = some r) :
    Pu Tryz.prog 215 [.agg (e_api_Expr e)] (.one (.bool r)) := by
  have F := trivial; have R := trivial
  refine pA Tryz.func215 ?_
  simp only [Tryz.f215]
  unfold lazarettoref06_form at h
  refine tr ?_
  intros
  refine fi h F ?_ ?_ <;> intro h _ F
  refine fi h F ?_ ?_ <;> intro h _ F
  refine tt ?_
  refine fi h F ?_ ?_ <;> intro h _ F
  refine fi h F ?_ ?_ <;> intro h _ F
  refine tt ?_
  refine fi h F ?_ ?_ <;> intro h _ F
  cases h; exact fin
  cases h; exact fin
  refine tt ?_
  refine fi h F ?_ ?_ <;> intro h _ F
  exact (by omega : False).elim
  refine tt ?_
  refine fi h F ?_ ?_ <;> intro h _ F
  exact (by omega : False).elim
  refine fi h F ?_ ?_ <;> intro h _ F
  exact (by omega : False).elim
  cases h; exact fin
  refine fi h F ?_ ?_ <;> intro h _ F
  refine tt ?_
  refine fi h F ?_ ?_ <;> intro h _ F
  refine tt ?_
  refine fi h F ?_ ?_ <;> intro h _ F
  cases h; exact fin
  cases h; exact fin
  refine fi h F ?_ ?_ <;> intro h _ F
  exact (by omega : False).elim
  refine tt ?_
  refine fi h F ?_ ?_ <;> intro h _ F
  exact (by omega : False).elim
  cases h; exact fin
  refine tt ?_
  refine fi h F ?_ ?_ <;> intro h _ F
  refine tt ?_
  refine fi h F ?_ ?_ <;> intro h _ F
  refine fi h F ?_ ?_ <;> intro h _ F
  cases h; exact fin
  cases h; exact fin
  cases h; exact fin
  refine fi h F ?_ ?_ <;> intro h _ F
  refine tt ?_
  refine fi h F ?_ ?_ <;> intro h _ F
  refine fi h F ?_ ?_ <;> intro h _ F
  cases h; exact fin
  cases h; exact fin
  cases h; exact fin
  cases h; exact fin
  cases h; exact fin
  refine fi h F ?_ ?_ <;> intro h _ F
  refine tt ?_
  refine fi h F ?_ ?_ <;> intro h _ F
  refine fi h F ?_ ?_ <;> intro h _ F
  refine tt ?_
  refine fi h F ?_ ?_ <;> intro h _ F
  refine bi h fun r_1 h hr_1 => ?_
  refine tr ?_
  intros
  refine cS (lazarettoref05_Name_ok hr_1) ?_
  cases h; exact fin
  cases h; exact fin
  cases h; exact fin
  refine fi h F ?_ ?_ <;> intro h _ F
  refine tt ?_
  refine fi h F ?_ ?_ <;> intro h _ F
  refine fi h F ?_ ?_ <;> intro h _ F
  refine tt ?_
  refine fi h F ?_ ?_ <;> intro h _ F
  refine bi h fun r_2 h hr_2 => ?_
  refine tr ?_
  intros
  refine cS (lazarettoref05_Name_ok hr_2) ?_
  cases h; exact fin
  cases h; exact fin
  cases h; exact fin
  cases h; exact fin
  refine tt ?_
  refine fi h F ?_ ?_ <;> intro h _ F
  refine fi h F ?_ ?_ <;> intro h _ F
  refine tt ?_
  refine fi h F ?_ ?_ <;> intro h _ F
  refine bi h fun r_3 h hr_3 => ?_
  refine tr ?_
  intros
  refine cS (lazarettoref05_Name_ok hr_3) ?_
  cases h; exact fin
  cases h; exact fin
  cases h; exact fin
  refine fi h F ?_ ?_ <;> intro h _ F
  refine tt ?_
  refine fi h F ?_ ?_ <;> intro h _ F
  refine fi h F ?_ ?_ <;> intro h _ F
  refine bi h fun r_4 h hr_4 => ?_
  refine tr ?_
  intros
  refine cS (lazarettoref05_Name_ok hr_4) ?_
  cases h; exact fin
  cases h; exact fin
  cases h; exact fin
  refine tt ?_
  refine fi h F ?_ ?_ <;> intro h _ F
  refine fi h F ?_ ?_ <;> intro h _ F
  refine tt ?_
  refine fi h F ?_ ?_ <;> intro h _ F
  cases h; exact fin
  cases h; exact fin
  cases h; exact fin
  refine fi h F ?_ ?_ <;> intro h _ F
  refine tt ?_
  refine fi h F ?_ ?_ <;> intro h _ F
  refine fi h F ?_ ?_ <;> intro h _ F
  cases h; exact fin
  cases h; exact fin
  cases h; exact fin
  refine tt ?_
  refine fi h F ?_ ?_ <;> intro h _ F
  refine fi h F ?_ ?_ <;> intro h _ F
  refine tt ?_
  refine fi h F ?_ ?_ <;> intro h _ F
  refine fi h F ?_ ?_ <;> intro h _ F
  cases h; exact fin
  cases h; exact fin
  cases h; exact fin
  cases h; exact fin
  cases h; exact fin
  cases h; exact fin
theorem lazarettoref06_brief_b_ok {lazarettoref06_brief_r : api_Expr → Int → Int → Option Int} {e : api_Expr} {deep : Int} {left : Int} {r : Int}
    (lazarettoref06_brief_r_ok : ∀ (x0 : api_Expr) (x1 : Int) (x2 : Int) (r : Int), lazarettoref06_brief_r x0 x1 x2 = some r → Pu Tryz.prog 213 [.agg (e_api_Expr x0), .one (.int .i64 x1), .one (.int .i64 x2)] (.one (.int .i64 r))) (h : lazarettoref06_brief_b lazarettoref06_brief_r e deep left = some r) :
    Pu Tryz.prog 213 [.agg (e_api_Expr e), .one (.int .i64 deep), .one (.int .i64 left)] (.one (.int .i64 r)) := by
  have F := trivial; have R := trivial
  refine pA Tryz.func213 ?_
  simp only [Tryz.f213]
  unfold lazarettoref06_brief_b at h
  refine fi h F ?_ ?_ <;> intro h _ F
  cases h; exact fin
  refine tt ?_
  refine fi h F ?_ ?_ <;> intro h _ F
  cases h; exact fin
  refine bi h fun r_1 h hr_1 => ?_
  refine tr ?_
  intros
  refine cS (lazarettoref06_form_ok hr_1) ?_
  refine fv h F ?_ ?_ <;> intro h _ F
  refine bi h fun e_4 h he_4 => ?_
  refine tt ?_
  refine lX he_4 (fun | (left_2, i_3), _ => ⟨[(1, .one (.int .i64 deep)), (2, .one (.int .i64 left_2)), (3, .one (.ref 0 0 0 0)), (7, .one (.int .i64 (i_3 : Int)))], [.cells 0 5 [[.int .i64 e.Op, .int .i64 e.N, .int .i64 e.Kind, .str e.Name, .sl (e.Args.map e_api_Expr)]]]⟩) (fun | e_4, _ => ⟨[(2, .one (.int .i64 e_4))], [.cells 0 5 [[.int .i64 e.Op, .int .i64 e.N, .int .i64 e.Kind, .str e.Name, .sl (e.Args.map e_api_Expr)]]]⟩) (fun _ => some 0) ?_ ?_
  intro i5 b5 hi5
  obtain rfl := Option.some.inj hi5
  obtain ⟨⟩ := b5
  dsimp only at h ⊢
  cases h; exact fin
  intro af5 m5 s5 a5 o5 hf5 ho5 ih5
  obtain ⟨left_2, i_3⟩ := s5
  obtain ⟨⟩ := a5
  dsimp only [lazarettoref06_brief_L1] at hf5 ⊢
  refine tr ?_
  intros
  refine fl hf5 F ?_ ?_ <;> intro hf5 _ F
  refine fi hf5 F ?_ ?_ <;> intro hf5 _ F
  refine bx hf5 F fun x_6 hf5 hx_6 F => ?_
  refine bi hf5 fun r_7 hf5 hr_7 => ?_
  refine tr ?_
  intros
  refine cS (lazarettoref06_brief_r_ok _ _ _ _ hr_7) ?_
  cases hf5
  refine tt ?_
  refine wn i_3 F fun F => ?_
  exact bk ih5 ho5 ()
  cases hf5
  refine tt ?_
  exact xt ho5 af5 ()
  cases hf5
  refine tt ?_
  exact xt ho5 af5 ()
  cases h; exact fin
theorem lazarettoref06_brief_g_ok (n : Nat) : (∀ (x0 : api_Expr) (x1 : Int) (x2 : Int) (r : Int), (lazarettoref06_brief_g n) x0 x1 x2 = some r → Pu Tryz.prog 213 [.agg (e_api_Expr x0), .one (.int .i64 x1), .one (.int .i64 x2)] (.one (.int .i64 r))) := by
  induction n with
  | zero => exact fun _ _ _ r h => (by cases h)
  | succ n ih =>
    have ih0 := ih
    exact fun _ _ _ r h => lazarettoref06_brief_b_ok ih0 h
theorem lazarettoref06_brief_ok {e : api_Expr} {deep : Int} {left : Int} {r : Int} (h : lazarettoref06_brief e deep left = some r) : Pu Tryz.prog 213 [.agg (e_api_Expr e), .one (.int .i64 deep), .one (.int .i64 left)] (.one (.int .i64 r)) := (lazarettoref06_brief_g_ok 1000000) _ _ _ _ h
theorem lazarettoref05_Digits_ok {n : Int} {r : Str} (h : lazarettoref05_Digits n = some r) :
    Pu Tryz.prog 191 [.one (.int .i64 n)] (.one (.str r)) := by
  have F := trivial; have R := trivial
  refine pA Tryz.func191 ?_
  simp only [Tryz.f191]
  unfold lazarettoref05_Digits at h
  refine bi h fun e_3 h he_3 => ?_
  refine tt ?_
  refine lX he_3 (fun | (n_1, s_2), _ => ⟨[(0, .one (.int .i64 n_1)), (3, .one (.str s_2))], []⟩) (fun | (n_7, s_8), _ => ⟨[(0, .one (.int .i64 n_7)), (3, .one (.str s_8))], []⟩) (fun _ => some 0) ?_ ?_
  intro i4 b4 hi4
  obtain rfl := Option.some.inj hi4
  obtain ⟨n_7, s_8⟩ := e_3
  obtain ⟨⟩ := b4
  dsimp only at h ⊢
  refine nd h F fun h F => ?_
  refine nd h F fun h F => ?_
  cases h; exact fin
  intro af4 m4 s4 a4 o4 hf4 ho4 ih4
  obtain ⟨n_1, s_2⟩ := s4
  obtain ⟨⟩ := a4
  dsimp only [lazarettoref05_Digits_L1] at hf4 ⊢
  refine fi hf4 F ?_ ?_ <;> intro hf4 _ F
  refine nd hf4 F fun hf4 F => ?_
  refine nd hf4 F fun hf4 F => ?_
  cases hf4
  refine tr ?_
  intros
  exact bk ih4 ho4 ()
  cases hf4
  refine tt ?_
  exact xt ho4 af4 ()
theorem lazarettoref06_level_ok {op : Int} {r : Int} (h : lazarettoref06_level op = some r) :
    Pu Tryz.prog 217 [.one (.int .i64 op)] (.one (.int .i64 r)) := by
  have F := trivial; have R := trivial
  refine pA Tryz.func217 ?_
  simp only [Tryz.f217]
  unfold lazarettoref06_level at h
  refine fi h F ?_ ?_ <;> intro h _ F
  cases h; exact fin
  refine tt ?_
  refine fi h F ?_ ?_ <;> intro h _ F
  cases h; exact fin
  refine fi h F ?_ ?_ <;> intro h _ F
  cases h; exact fin
  refine fi h F ?_ ?_ <;> intro h _ F
  refine tt ?_
  refine fi h F ?_ ?_ <;> intro h _ F
  cases h; exact fin
  refine fi h F ?_ ?_ <;> intro h _ F
  cases h; exact fin
  refine tt ?_
  refine fi h F ?_ ?_ <;> intro h _ F
  cases h; exact fin
  refine fi h F ?_ ?_ <;> intro h _ F
  refine tt ?_
  refine fi h F ?_ ?_ <;> intro h _ F
  cases h; exact fin
  refine fi h F ?_ ?_ <;> intro h _ F
  cases h; exact fin
  refine tt ?_
  refine fi h F ?_ ?_ <;> intro h _ F
  cases h; exact fin
  cases h; exact fin
  refine tt ?_
  refine fi h F ?_ ?_ <;> intro h _ F
  cases h; exact fin
  refine fi h F ?_ ?_ <;> intro h _ F
  cases h; exact fin
  cases h; exact fin
  refine tt ?_
  refine fi h F ?_ ?_ <;> intro h _ F
  cases h; exact fin
  refine fi h F ?_ ?_ <;> intro h _ F
  cases h; exact fin
  refine tt ?_
  refine fi h F ?_ ?_ <;> intro h _ F
  refine fi h F ?_ ?_ <;> intro h _ F
  cases h; exact fin
  refine tt ?_
  refine fi h F ?_ ?_ <;> intro h _ F
  cases h; exact fin
  refine fi h F ?_ ?_ <;> intro h _ F
  cases h; exact fin
  cases h; exact fin
  refine fi h F ?_ ?_ <;> intro h _ F
  cases h; exact fin
  refine tt ?_
  refine fi h F ?_ ?_ <;> intro h _ F
  cases h; exact fin
  cases h; exact fin
theorem lazarettoref06_signs_ok {level : Int} {r : Str × Int} (h : lazarettoref06_signs level = some r) :
    Pu Tryz.prog 219 [.one (.int .i64 level)] (.tup [.one (.str r.1), .one (.int .i64 r.2)]) := by
  have F := trivial; have R := trivial
  refine pA Tryz.func219 ?_
  simp only [Tryz.f219]
  unfold lazarettoref06_signs at h
  refine fi h F ?_ ?_ <;> intro h _ F
  cases h; exact fin
  refine tt ?_
  refine fi h F ?_ ?_ <;> intro h _ F
  cases h; exact fin
  refine fi h F ?_ ?_ <;> intro h _ F
  cases h; exact fin
  refine fi h F ?_ ?_ <;> intro h _ F
  cases h; exact fin
  refine fi h F ?_ ?_ <;> intro h _ F
  cases h; exact fin
  cases h; exact fin
theorem lazarettoref06_sign_ok {op : Int} {r : Str} (h : lazarettoref06_sign op = some r) :
    Pu Tryz.prog 218 [.one (.int .i64 op)] (.one (.str r)) := by
  have F := trivial; have R := trivial
  refine pA Tryz.func218 ?_
  simp only [Tryz.f218]
  unfold lazarettoref06_sign at h
  refine bi h fun r_1 h hr_1 => ?_
  refine tr ?_
  intros
  refine cS (lazarettoref06_level_ok hr_1) ?_
  refine bi h fun r_2 h hr_2 => ?_
  refine tr ?_
  intros
  refine cS (lazarettoref06_signs_ok hr_2) ?_
  refine bi h fun e_6 h he_6 => ?_
  refine tt ?_
  refine lX he_6 (fun | (k_3, from_4, i_5), _ => ⟨[(0, .one (.int .i64 op)), (3, .one (.str r_2.1)), (5, .one (.int .i64 k_3)), (6, .one (.int .i64 from_4)), (7, .one (.int .i64 (i_5 : Int)))], []⟩) (fun | (.inl e_11), _ => ⟨[], []⟩ | (.inr ()), _ => ⟨[], []⟩) (fun | (.inl _) => none | (.inr _) => some 0) ?_ ?_
  intro i7 b7 hi7
  rcases e_6 with e_case | ⟨⟩
  cases hi7
  obtain rfl := Option.some.inj hi7
  obtain ⟨⟩ := b7
  dsimp only at h ⊢
  cases h; exact fin
  intro af7 m7 s7 a7 o7 hf7 ho7 ih7
  obtain ⟨k_3, from_4, i_5⟩ := s7
  obtain ⟨⟩ := a7
  dsimp only [lazarettoref06_sign_L1] at hf7 ⊢
  refine tr ?_
  intros
  refine fm hf7 F ?_ ?_ <;> intro hf7 _ F
  refine tr ?_
  intros
  refine fi hf7 F ?_ ?_ <;> intro hf7 _ F
  refine fi hf7 F ?_ ?_ <;> intro hf7 _ F
  refine nd hf7 F fun hf7 F => ?_
  cases hf7
  obtain rfl := sr ho7
  try dsimp only at h
  cases h
  exact fin
  cases hf7
  refine tt ?_
  refine wn i_5 F fun F => ?_
  exact bk ih7 ho7 ()
  refine bx hf7 F fun c_9 hf7 hc_9 F => ?_
  refine tr ?_
  intros
  refine fi hf7 F ?_ ?_ <;> intro hf7 _ F
  refine fi hf7 F ?_ ?_ <;> intro hf7 _ F
  refine nd hf7 F fun hf7 F => ?_
  cases hf7
  obtain rfl := sr ho7
  try dsimp only at h
  cases h
  exact fin
  cases hf7
  refine tt ?_
  refine wn i_5 F fun F => ?_
  exact bk ih7 ho7 ()
  cases hf7
  refine tt ?_
  refine wn i_5 F fun F => ?_
  exact bk ih7 ho7 ()
  cases hf7
  refine tt ?_
  exact xt ho7 af7 ()
theorem lazarettoref06_text_b_ok {lazarettoref06_text_r : api_Expr → Option Str} {lazarettoref06_part_r : api_Expr → Int → Option Str} {e : api_Expr} {r : Str}
    (lazarettoref06_text_r_ok : ∀ (x0 : api_Expr) (r : Str), lazarettoref06_text_r x0 = some r → Pu Tryz.prog 214 [.agg (e_api_Expr x0)] (.one (.str r)))
    (lazarettoref06_part_r_ok : ∀ (x0 : api_Expr) (x1 : Int) (r : Str), lazarettoref06_part_r x0 x1 = some r → Pu Tryz.prog 216 [.agg (e_api_Expr x0), .one (.int .i64 x1)] (.one (.str r))) (h : lazarettoref06_text_b lazarettoref06_text_r lazarettoref06_part_r e = some r) :
    Pu Tryz.prog 214 [.agg (e_api_Expr e)] (.one (.str r)) := by
  have F := trivial; have R := trivial
  refine pA Tryz.func214 ?_
  simp only [Tryz.f214]
  unfold lazarettoref06_text_b at h
  refine fi h F ?_ ?_ <;> intro h _ F
  refine tt ?_
  refine fi h F ?_ ?_ <;> intro h _ F
  refine fi h F ?_ ?_ <;> intro h _ F
  cases h; exact fin
  cases h; exact fin
  refine fi h F ?_ ?_ <;> intro h _ F
  refine bi h fun r_1 h hr_1 => ?_
  refine tr ?_
  intros
  refine cS (lazarettoref05_Digits_ok hr_1) ?_
  refine nd h F fun h F => ?_
  refine nd h F fun h F => ?_
  cases h; exact fin
  refine fi h F ?_ ?_ <;> intro h _ F
  refine bi h fun r_4 h hr_4 => ?_
  refine tr ?_
  intros
  refine cS (lazarettoref05_Digits_ok hr_4) ?_
  refine nd h F fun h F => ?_
  refine nd h F fun h F => ?_
  cases h; exact fin
  refine bi h fun r_7 h hr_7 => ?_
  refine tr ?_
  intros
  refine cS (lazarettoref05_Digits_ok hr_7) ?_
  cases h; exact fin
  refine tt ?_
  refine fi h F ?_ ?_ <;> intro h _ F
  cases h; exact fin
  refine fi h F ?_ ?_ <;> intro h _ F
  refine nd h F fun h F => ?_
  refine bi h fun r_9 h hr_9 => ?_
  refine tr ?_
  intros
  refine cD (lazarettoref05_Digits_ok hr_9) ?_
  refine nd h F fun h F => ?_
  cases h; exact fin
  refine fi h F ?_ ?_ <;> intro h _ F
  refine nd h F fun h F => ?_
  refine bx h F fun x_12 h hx_12 F => ?_
  refine bi h fun r_13 h hr_13 => ?_
  refine tr ?_
  intros
  refine cD (lazarettoref06_text_r_ok _ _ hr_13) ?_
  refine nd h F fun h F => ?_
  refine nd h F fun h F => ?_
  cases h; exact fin
  refine fi h F ?_ ?_ <;> intro h _ F
  refine nd h F fun h F => ?_
  refine nd h F fun h F => ?_
  refine bx h F fun x_18 h hx_18 F => ?_
  refine bi h fun r_19 h hr_19 => ?_
  refine tr ?_
  intros
  refine cD (lazarettoref06_text_r_ok _ _ hr_19) ?_
  refine nd h F fun h F => ?_
  refine nd h F fun h F => ?_
  cases h; exact fin
  refine tt ?_
  refine fi h F ?_ ?_ <;> intro h _ F
  refine bx h F fun x_22 h hx_22 F => ?_
  refine bi h fun r_23 h hr_23 => ?_
  refine tr ?_
  intros
  refine cS (lazarettoref06_part_r_ok _ _ _ hr_23) ?_
  refine nd h F fun h F => ?_
  cases h; exact fin
  refine fi h F ?_ ?_ <;> intro h _ F
  refine bx h F fun x_25 h hx_25 F => ?_
  refine bi h fun r_26 h hr_26 => ?_
  refine tr ?_
  intros
  refine cS (lazarettoref06_part_r_ok _ _ _ hr_26) ?_
  refine nd h F fun h F => ?_
  cases h; exact fin
  refine bi h fun r_28 h hr_28 => ?_
  refine tr ?_
  intros
  refine cS (lazarettoref06_level_ok hr_28) ?_
  refine bx h F fun x_29 h hx_29 F => ?_
  refine bi h fun r_30 h hr_30 => ?_
  refine tr ?_
  intros
  refine cD (lazarettoref06_part_r_ok _ _ _ hr_30) ?_
  refine nd h F fun h F => ?_
  refine bi h fun r_32 h hr_32 => ?_
  refine tr ?_
  intros
  refine cD (lazarettoref06_sign_ok hr_32) ?_
  refine nd h F fun h F => ?_
  refine nd h F fun h F => ?_
  refine bx h F fun x_35 h hx_35 F => ?_
  refine bi h fun r_36 h hr_36 => ?_
  refine tr ?_
  intros
  refine cD (lazarettoref06_part_r_ok _ _ _ hr_36) ?_
  refine nd h F fun h F => ?_
  cases h; exact fin
theorem lazarettoref06_part_b_ok {lazarettoref06_text_r : api_Expr → Option Str} {lazarettoref06_part_r : api_Expr → Int → Option Str} {e : api_Expr} {least : Int} {r : Str}
    (lazarettoref06_text_r_ok : ∀ (x0 : api_Expr) (r : Str), lazarettoref06_text_r x0 = some r → Pu Tryz.prog 214 [.agg (e_api_Expr x0)] (.one (.str r)))
    (lazarettoref06_part_r_ok : ∀ (x0 : api_Expr) (x1 : Int) (r : Str), lazarettoref06_part_r x0 x1 = some r → Pu Tryz.prog 216 [.agg (e_api_Expr x0), .one (.int .i64 x1)] (.one (.str r))) (h : lazarettoref06_part_b lazarettoref06_text_r lazarettoref06_part_r e least = some r) :
    Pu Tryz.prog 216 [.agg (e_api_Expr e), .one (.int .i64 least)] (.one (.str r)) := by
  have F := trivial; have R := trivial
  refine pA Tryz.func216 ?_
  simp only [Tryz.f216]
  unfold lazarettoref06_part_b at h
  refine bi h fun r_1 h hr_1 => ?_
  refine tr ?_
  intros
  refine cS (lazarettoref06_level_ok hr_1) ?_
  refine fi h F ?_ ?_ <;> intro h _ F
  refine bi h fun r_2 h hr_2 => ?_
  refine tr ?_
  intros
  refine cS (lazarettoref06_text_r_ok _ _ hr_2) ?_
  refine nd h F fun h F => ?_
  refine nd h F fun h F => ?_
  cases h; exact fin
  refine bi h fun r_5 h hr_5 => ?_
  refine tr ?_
  intros
  refine cS (lazarettoref06_text_r_ok _ _ hr_5) ?_
  cases h; exact fin
theorem lazarettoref06_text_g_ok (n : Nat) : (∀ (x0 : api_Expr) (r : Str), (lazarettoref06_text_g n).1 x0 = some r → Pu Tryz.prog 214 [.agg (e_api_Expr x0)] (.one (.str r))) ∧ (∀ (x0 : api_Expr) (x1 : Int) (r : Str), (lazarettoref06_text_g n).2 x0 x1 = some r → Pu Tryz.prog 216 [.agg (e_api_Expr x0), .one (.int .i64 x1)] (.one (.str r))) := by
  induction n with
  | zero => exact ⟨fun _ r h => (by cases h), fun _ _ r h => (by cases h)⟩
  | succ n ih =>
    obtain ⟨ih0, ih1⟩ := ih
    exact ⟨fun _ r h => lazarettoref06_text_b_ok ih0 ih1 h, fun _ _ r h => lazarettoref06_part_b_ok ih0 ih1 h⟩
theorem lazarettoref06_text_ok {e : api_Expr} {r : Str} (h : lazarettoref06_text e = some r) : Pu Tryz.prog 214 [.agg (e_api_Expr e)] (.one (.str r)) := (lazarettoref06_text_g_ok 1000000).1 _ _ h
theorem lazarettoref06_Check_ok {e : api_Expr} {r : Bool} (h : lazarettoref06_Check e = some r) :
    Pu Tryz.prog 208 [.agg (e_api_Expr e)] (.one (.bool r)) := by
  have F := trivial; have R := trivial
  refine pA Tryz.func208 ?_
  simp only [Tryz.f208]
  unfold lazarettoref06_Check at h
  refine bi h fun r_1 h hr_1 => ?_
  refine tr ?_
  intros
  refine cS (lazarettoref06_brief_ok hr_1) ?_
  refine fi h F ?_ ?_ <;> intro h _ F
  refine bi h fun r_2 h hr_2 => ?_
  refine tr ?_
  intros
  refine cS (lazarettoref06_text_ok hr_2) ?_
  cases h; exact fin
  cases h; exact fin
theorem lazarettoref07_target_ok {e : api_Expr} {r : Bool} (h : lazarettoref07_target e = some r) :
    Pu Tryz.prog 207 [.agg (e_api_Expr e)] (.one (.bool r)) := by
  have F := trivial; have R := trivial
  refine pA Tryz.func207 ?_
  simp only [Tryz.f207]
  unfold lazarettoref07_target at h
  refine fi h F ?_ ?_ <;> intro h _ F
  refine bi h fun r_1 h hr_1 => ?_
  refine tr ?_
  intros
  refine cS (lazarettoref06_Check_ok hr_1) ?_
  cases h; exact fin
  refine tt ?_
  refine fi h F ?_ ?_ <;> intro h _ F
  refine tr ?_
  intros
  refine fi h F ?_ ?_ <;> intro h _ F
  refine fi h F ?_ ?_ <;> intro h _ F
  refine tt ?_
  refine fi h F ?_ ?_ <;> intro h _ F
  refine bi h fun r_2 h hr_2 => ?_
  refine tr ?_
  intros
  refine cS (lazarettoref05_Name_ok hr_2) ?_
  refine fv h F ?_ ?_ <;> intro h _ F
  refine bx h F fun x_3 h hx_3 F => ?_
  refine bi h fun r_4 h hr_4 => ?_
  refine tr ?_
  intros
  refine cS (lazarettoref06_Check_ok hr_4) ?_
  cases h; exact fin
  cases h; exact fin
  cases h; exact fin
  cases h; exact fin
  cases h; exact fin
  cases h; exact fin
theorem lazarettoref06_Same_b_ok {lazarettoref06_Same_r : api_Expr → api_Expr → Option Bool} {a : api_Expr} {b : api_Expr} {r : Bool}
    (lazarettoref06_Same_r_ok : ∀ (x0 : api_Expr) (x1 : api_Expr) (r : Bool), lazarettoref06_Same_r x0 x1 = some r → Pu Tryz.prog 163 [.agg (e_api_Expr x0), .agg (e_api_Expr x1)] (.one (.bool r))) (h : lazarettoref06_Same_b lazarettoref06_Same_r a b = some r) :
    Pu Tryz.prog 163 [.agg (e_api_Expr a), .agg (e_api_Expr b)] (.one (.bool r)) := by
  have F := trivial; have R := trivial
  refine pA Tryz.func163 ?_
  simp only [Tryz.f163]
  unfold lazarettoref06_Same_b at h
  refine tt ?_
  refine fi h F ?_ ?_ <;> intro h _ F
  refine tt ?_
  refine fi h F ?_ ?_ <;> intro h _ F
  refine tt ?_
  refine fi h F ?_ ?_ <;> intro h _ F
  refine tt ?_
  refine fi h F ?_ ?_ <;> intro h _ F
  refine tr ?_
  intros
  refine fi h F ?_ ?_ <;> intro h _ F
  refine bi h fun e_2 h he_2 => ?_
  refine tt ?_
  refine lX he_2 (fun | i_1, _ => ⟨[(2, .one (.ref 0 0 0 0)), (3, .one (.ref 1 0 0 0)), (5, .one (.int .i64 (i_1 : Int)))], [.cells 0 5 [[.int .i64 a.Op, .int .i64 a.N, .int .i64 a.Kind, .str a.Name, .sl (a.Args.map e_api_Expr)]], .cells 0 5 [[.int .i64 b.Op, .int .i64 b.N, .int .i64 b.Kind, .str b.Name, .sl (b.Args.map e_api_Expr)]]]⟩) (fun | (.inl e_7), _ => ⟨[], []⟩ | (.inr ()), _ => ⟨[], [.cells 0 5 [[.int .i64 a.Op, .int .i64 a.N, .int .i64 a.Kind, .str a.Name, .sl (a.Args.map e_api_Expr)]], .cells 0 5 [[.int .i64 b.Op, .int .i64 b.N, .int .i64 b.Kind, .str b.Name, .sl (b.Args.map e_api_Expr)]]]⟩) (fun | (.inl _) => none | (.inr _) => some 0) ?_ ?_
  intro i3 b3 hi3
  rcases e_2 with e_case | ⟨⟩
  cases hi3
  obtain rfl := Option.some.inj hi3
  obtain ⟨⟩ := b3
  dsimp only at h ⊢
  cases h; exact fin
  intro af3 m3 i_1 a3 o3 hf3 ho3 ih3
  obtain ⟨⟩ := a3
  dsimp only [lazarettoref06_Same_L1] at hf3 ⊢
  refine tr ?_
  intros
  refine fl hf3 F ?_ ?_ <;> intro hf3 _ F
  refine bx hf3 F fun x_4 hf3 hx_4 F => ?_
  refine bx hf3 F fun x_5 hf3 hx_5 F => ?_
  refine bi hf3 fun r_6 hf3 hr_6 => ?_
  refine tr ?_
  intros
  refine cD (lazarettoref06_Same_r_ok _ _ _ hr_6) ?_
  refine tr ?_
  intros
  refine fv hf3 F ?_ ?_ <;> intro hf3 _ F
  cases hf3
  refine tt ?_
  refine wn i_1 F fun F => ?_
  exact bk ih3 ho3 ()
  cases hf3
  obtain rfl := sr ho3
  try dsimp only at h
  cases h
  exact fin
  cases hf3
  refine tt ?_
  exact xt ho3 af3 ()
  cases h; exact fin
  cases h; exact fin
  cases h; exact fin
  cases h; exact fin
  cases h; exact fin
theorem lazarettoref06_Same_g_ok (n : Nat) : (∀ (x0 : api_Expr) (x1 : api_Expr) (r : Bool), (lazarettoref06_Same_g n) x0 x1 = some r → Pu Tryz.prog 163 [.agg (e_api_Expr x0), .agg (e_api_Expr x1)] (.one (.bool r))) := by
  induction n with
  | zero => exact fun _ _ r h => (by cases h)
  | succ n ih =>
    have ih0 := ih
    exact fun _ _ r h => lazarettoref06_Same_b_ok ih0 h
theorem lazarettoref06_Same_ok {a : api_Expr} {b : api_Expr} {r : Bool} (h : lazarettoref06_Same a b = some r) : Pu Tryz.prog 163 [.agg (e_api_Expr a), .agg (e_api_Expr b)] (.one (.bool r)) := (lazarettoref06_Same_g_ok 1000000) _ _ _ h
theorem lazarettoref07_none_ok {e : api_Expr} {r : Bool} (h : lazarettoref07_none e = some r) :
    Pu Tryz.prog 209 [.agg (e_api_Expr e)] (.one (.bool r)) := by
  have F := trivial; have R := trivial
  refine pA Tryz.func209 ?_
  simp only [Tryz.f209]
  unfold lazarettoref07_none at h
  refine bi h fun r_1 h hr_1 => ?_
  refine tr ?_
  intros
  refine cS (lazarettoref06_Same_ok hr_1) ?_
  cases h; exact fin
theorem lazarettoref07_args_ok {l : List api_Expr} {r : Bool} (h : lazarettoref07_args l = some r) :
    Pu Tryz.prog 210 [.one (.sl (l.map e_api_Expr))] (.one (.bool r)) := by
  have F := trivial; have R := trivial
  refine pA Tryz.func210 ?_
  simp only [Tryz.f210]
  unfold lazarettoref07_args at h
  refine bi h fun e_2 h he_2 => ?_
  refine tt ?_
  refine lX he_2 (fun | i_1, _ => ⟨[(0, .one (.sl (l.map e_api_Expr))), (3, .one (.int .i64 (i_1 : Int)))], []⟩) (fun | (.inl e_6), _ => ⟨[], []⟩ | (.inr ()), _ => ⟨[], []⟩) (fun | (.inl _) => none | (.inr _) => some 0) ?_ ?_
  intro i3 b3 hi3
  rcases e_2 with e_case | ⟨⟩
  cases hi3
  obtain rfl := Option.some.inj hi3
  obtain ⟨⟩ := b3
  dsimp only at h ⊢
  cases h; exact fin
  intro af3 m3 i_1 a3 o3 hf3 ho3 ih3
  obtain ⟨⟩ := a3
  dsimp only [lazarettoref07_args_L1] at hf3 ⊢
  refine tr ?_
  intros
  refine fl hf3 F ?_ ?_ <;> intro hf3 _ F
  refine bx hf3 F fun x_4 hf3 hx_4 F => ?_
  refine bi hf3 fun r_5 hf3 hr_5 => ?_
  refine tr ?_
  intros
  refine cS (lazarettoref06_Check_ok hr_5) ?_
  refine fv hf3 F ?_ ?_ <;> intro hf3 _ F
  cases hf3
  refine tt ?_
  refine wn i_1 F fun F => ?_
  exact bk ih3 ho3 ()
  cases hf3
  obtain rfl := sr ho3
  try dsimp only at h
  cases h
  exact fin
  cases hf3
  refine tt ?_
  exact xt ho3 af3 ()
theorem lazarettoref07_form_ok {s : api_Stmt} {r : Bool} (h : lazarettoref07_form s = some r) :
    Pu Tryz.prog 200 [.agg (e_api_Stmt s)] (.one (.bool r)) := by
  have F := trivial; have R := trivial
  refine pA Tryz.func200 ?_
  simp only [Tryz.f200]
  unfold lazarettoref07_form at h
  refine tr ?_
  intros
  refine fi h F ?_ ?_ <;> intro h _ F
  refine tr ?_
  intros
  refine fi h F ?_ ?_ <;> intro h _ F
  refine fi h F ?_ ?_ <;> intro h _ F
  refine tt ?_
  refine fi h F ?_ ?_ <;> intro h _ F
  refine tr ?_
  intros
  refine fi h F ?_ ?_ <;> intro h _ F
  refine bi h fun r_1 h hr_1 => ?_
  refine tr ?_
  intros
  refine cS (lazarettoref07_target_ok hr_1) ?_
  refine fv h F ?_ ?_ <;> intro h _ F
  refine bi h fun r_2 h hr_2 => ?_
  refine tr ?_
  intros
  refine cS (lazarettoref06_Check_ok hr_2) ?_
  cases h; exact fin
  cases h; exact fin
  cases h; exact fin
  cases h; exact fin
  cases h; exact fin
  refine fi h F ?_ ?_ <;> intro h _ F
  refine fi h F ?_ ?_ <;> intro h _ F
  refine tr ?_
  intros
  refine fi h F ?_ ?_ <;> intro h _ F
  refine bi h fun r_3 h hr_3 => ?_
  refine tr ?_
  intros
  refine cS (lazarettoref07_none_ok hr_3) ?_
  refine fv h F ?_ ?_ <;> intro h _ F
  refine bi h fun r_4 h hr_4 => ?_
  refine tr ?_
  intros
  refine cS (lazarettoref06_Check_ok hr_4) ?_
  cases h; exact fin
  cases h; exact fin
  cases h; exact fin
  cases h; exact fin
  refine fi h F ?_ ?_ <;> intro h _ F
  refine tt ?_
  refine fi h F ?_ ?_ <;> intro h _ F
  refine tr ?_
  intros
  refine fi h F ?_ ?_ <;> intro h _ F
  refine tr ?_
  intros
  refine fi h F ?_ ?_ <;> intro h _ F
  refine bi h fun r_5 h hr_5 => ?_
  refine tr ?_
  intros
  refine cS (lazarettoref07_none_ok hr_5) ?_
  refine fv h F ?_ ?_ <;> intro h _ F
  refine bi h fun r_6 h hr_6 => ?_
  refine tr ?_
  intros
  refine cS (lazarettoref06_Check_ok hr_6) ?_
  cases h; exact fin
  cases h; exact fin
  cases h; exact fin
  cases h; exact fin
  cases h; exact fin
  refine fi h F ?_ ?_ <;> intro h _ F
  refine bi h fun r_7 h hr_7 => ?_
  refine tr ?_
  intros
  refine cS (lazarettoref05_Name_ok hr_7) ?_
  refine fv h F ?_ ?_ <;> intro h _ F
  refine tr ?_
  intros
  refine fi h F ?_ ?_ <;> intro h _ F
  refine bi h fun r_8 h hr_8 => ?_
  refine tr ?_
  intros
  refine cS (lazarettoref07_args_ok hr_8) ?_
  refine fv h F ?_ ?_ <;> intro h _ F
  refine tr ?_
  intros
  refine fi h F ?_ ?_ <;> intro h _ F
  refine bi h fun r_9 h hr_9 => ?_
  refine tr ?_
  intros
  refine cS (lazarettoref07_none_ok hr_9) ?_
  refine fv h F ?_ ?_ <;> intro h _ F
  refine bi h fun r_10 h hr_10 => ?_
  refine tr ?_
  intros
  refine cS (lazarettoref07_none_ok hr_10) ?_
  cases h; exact fin
  cases h; exact fin
  cases h; exact fin
  cases h; exact fin
  cases h; exact fin
  cases h; exact fin
  refine tt ?_
  refine fi h F ?_ ?_ <;> intro h _ F
  refine fi h F ?_ ?_ <;> intro h _ F
  refine bi h fun r_11 h hr_11 => ?_
  refine tr ?_
  intros
  refine cS (lazarettoref05_Name_ok hr_11) ?_
  refine fv h F ?_ ?_ <;> intro h _ F
  refine bi h fun r_12 h hr_12 => ?_
  refine tr ?_
  intros
  refine cS (lazarettoref07_none_ok hr_12) ?_
  refine fv h F ?_ ?_ <;> intro h _ F
  refine bi h fun r_13 h hr_13 => ?_
  refine tr ?_
  intros
  refine cS (lazarettoref07_none_ok hr_13) ?_
  refine fv h F ?_ ?_ <;> intro h _ F
  refine tr ?_
  intros
  refine fi h F ?_ ?_ <;> intro h _ F
  refine bi h fun r_14 h hr_14 => ?_
  refine tr ?_
  intros
  refine cS (lazarettoref07_args_ok hr_14) ?_
  cases h; exact fin
  cases h; exact fin
  cases h; exact fin
  cases h; exact fin
  cases h; exact fin
  cases h; exact fin
  cases h; exact fin
  refine fi h F ?_ ?_ <;> intro h _ F
  cases h; exact fin
  refine tt ?_
  refine fi h F ?_ ?_ <;> intro h _ F
  refine fi h F ?_ ?_ <;> intro h _ F
  refine tr ?_
  intros
  refine fi h F ?_ ?_ <;> intro h _ F
  refine bi h fun r_15 h hr_15 => ?_
  refine tr ?_
  intros
  refine cS (lazarettoref07_none_ok hr_15) ?_
  refine fv h F ?_ ?_ <;> intro h _ F
  refine bi h fun r_16 h hr_16 => ?_
  refine tr ?_
  intros
  refine cS (lazarettoref06_Check_ok hr_16) ?_
  cases h; exact fin
  cases h; exact fin
  cases h; exact fin
  cases h; exact fin
  refine fi h F ?_ ?_ <;> intro h _ F
  refine fi h F ?_ ?_ <;> intro h _ F
  refine tr ?_
  intros
  refine fi h F ?_ ?_ <;> intro h _ F
  refine tr ?_
  intros
  refine fi h F ?_ ?_ <;> intro h _ F
  refine bi h fun r_17 h hr_17 => ?_
  refine tr ?_
  intros
  refine cS (lazarettoref07_none_ok hr_17) ?_
  refine fv h F ?_ ?_ <;> intro h _ F
  refine bi h fun r_18 h hr_18 => ?_
  refine tr ?_
  intros
  refine cS (lazarettoref06_Check_ok hr_18) ?_
  cases h; exact fin
  cases h; exact fin
  cases h; exact fin
  cases h; exact fin
  cases h; exact fin
  refine fi h F ?_ ?_ <;> intro h _ F
  refine bi h fun r_19 h hr_19 => ?_
  refine tr ?_
  intros
  refine cS (lazarettoref05_Name_ok hr_19) ?_
  refine fv h F ?_ ?_ <;> intro h _ F
  refine tr ?_
  intros
  refine fi h F ?_ ?_ <;> intro h _ F
  refine bi h fun r_20 h hr_20 => ?_
  refine tr ?_
  intros
  refine cS (lazarettoref07_args_ok hr_20) ?_
  refine fv h F ?_ ?_ <;> intro h _ F
  refine tr ?_
  intros
  refine fi h F ?_ ?_ <;> intro h _ F
  refine bi h fun r_21 h hr_21 => ?_
  refine tr ?_
  intros
  refine cS (lazarettoref07_none_ok hr_21) ?_
  refine fv h F ?_ ?_ <;> intro h _ F
  refine bi h fun r_22 h hr_22 => ?_
  refine tr ?_
  intros
  refine cS (lazarettoref07_none_ok hr_22) ?_
  cases h; exact fin
  cases h; exact fin
  cases h; exact fin
  cases h; exact fin
  cases h; exact fin
  cases h; exact fin
  refine fi h F ?_ ?_ <;> intro h _ F
  cases h; exact fin
  cases h; exact fin
theorem lazarettoref06_Print_ok {e : api_Expr} {r : Str} (h : lazarettoref06_Print e = some r) :
    Pu Tryz.prog 211 [.agg (e_api_Expr e)] (.one (.str r)) := by
  have F := trivial; have R := trivial
  refine pA Tryz.func211 ?_
  simp only [Tryz.f211]
  unfold lazarettoref06_Print at h
  refine bi h fun r_1 h hr_1 => ?_
  refine tr ?_
  intros
  refine cS (lazarettoref06_Check_ok hr_1) ?_
  refine fv h F ?_ ?_ <;> intro h _ F
  refine bi h fun r_2 h hr_2 => ?_
  refine tr ?_
  intros
  refine cS (lazarettoref06_text_ok hr_2) ?_
  cases h; exact fin
  cases h; exact fin
theorem lazarettoref07_index_ok {e : api_Expr} {r : Str} (h : lazarettoref07_index e = some r) :
    Pu Tryz.prog 212 [.agg (e_api_Expr e)] (.one (.str r)) := by
  have F := trivial; have R := trivial
  refine pA Tryz.func212 ?_
  simp only [Tryz.f212]
  unfold lazarettoref07_index at h
  refine fi h F ?_ ?_ <;> intro h _ F
  refine bx h F fun x_1 h hx_1 F => ?_
  refine bi h fun r_2 h hr_2 => ?_
  refine tr ?_
  intros
  refine cS (lazarettoref06_Print_ok hr_2) ?_
  refine nd h F fun h F => ?_
  refine nd h F fun h F => ?_
  cases h; exact fin
  cases h; exact fin
theorem lazarettoref07_head_ok {s : api_Stmt} {r : Str} (h : lazarettoref07_head s = some r) :
    Pu Tryz.prog 201 [.agg (e_api_Stmt s)] (.one (.str r)) := by
  have F := trivial; have R := trivial
  refine pA Tryz.func201 ?_
  simp only [Tryz.f201]
  unfold lazarettoref07_head at h
  refine fi h F ?_ ?_ <;> intro h _ F
  refine bi h fun r_1 h hr_1 => ?_
  refine tr ?_
  intros
  refine cD (lazarettoref06_Print_ok hr_1) ?_
  refine bi h fun r_2 h hr_2 => ?_
  refine tr ?_
  intros
  refine cD (lazarettoref07_index_ok hr_2) ?_
  refine nd h F fun h F => ?_
  refine nd h F fun h F => ?_
  refine bi h fun r_5 h hr_5 => ?_
  refine tr ?_
  intros
  refine cD (lazarettoref06_Print_ok hr_5) ?_
  refine nd h F fun h F => ?_
  refine nd h F fun h F => ?_
  cases h; exact fin
  refine tt ?_
  refine fi h F ?_ ?_ <;> intro h _ F
  refine bi h fun r_8 h hr_8 => ?_
  refine tr ?_
  intros
  refine cS (lazarettoref06_Print_ok hr_8) ?_
  refine nd h F fun h F => ?_
  refine nd h F fun h F => ?_
  cases h; exact fin
  refine fi h F ?_ ?_ <;> intro h _ F
  refine bi h fun r_11 h hr_11 => ?_
  refine tr ?_
  intros
  refine cS (lazarettoref06_Print_ok hr_11) ?_
  refine nd h F fun h F => ?_
  refine nd h F fun h F => ?_
  cases h; exact fin
  refine fi h F ?_ ?_ <;> intro h _ F
  refine nd h F fun h F => ?_
  refine nd h F fun h F => ?_
  refine bx h F fun x_16 h hx_16 F => ?_
  refine bi h fun r_17 h hr_17 => ?_
  refine tr ?_
  intros
  refine cD (lazarettoref06_Print_ok hr_17) ?_
  refine nd h F fun h F => ?_
  refine nd h F fun h F => ?_
  refine bx h F fun x_20 h hx_20 F => ?_
  refine bi h fun r_21 h hr_21 => ?_
  refine tr ?_
  intros
  refine cD (lazarettoref06_Print_ok hr_21) ?_
  refine nd h F fun h F => ?_
  refine nd h F fun h F => ?_
  cases h; exact fin
  refine nd h F fun h F => ?_
  refine bi h fun e_27 h he_27 => ?_
  refine tr ?_
  intros
  refine lX he_27 (fun | (t_25, i_26), _ => ⟨[(1, .one (.ref 0 0 0 0)), (3, .one (.str t_25)), (4, .one (.int .i64 (i_26 : Int)))], [.cells 0 15 [[.int .i64 s.Kind, .str s.Name, .int .i64 s.Target.Op, .int .i64 s.Target.N, .int .i64 s.Target.Kind, .str s.Target.Name, .sl (s.Target.Args.map e_api_Expr), .int .i64 s.Value.Op, .int .i64 s.Value.N, .int .i64 s.Value.Kind, .str s.Value.Name, .sl (s.Value.Args.map e_api_Expr), .sl (s.Args.map e_api_Expr), .sl (s.Body.map e_api_Stmt), .sl (s.Else.map e_api_Stmt)]]]⟩) (fun | e_27, _ => ⟨[(3, .one (.str e_27))], [.cells 0 15 [[.int .i64 s.Kind, .str s.Name, .int .i64 s.Target.Op, .int .i64 s.Target.N, .int .i64 s.Target.Kind, .str s.Target.Name, .sl (s.Target.Args.map e_api_Expr), .int .i64 s.Value.Op, .int .i64 s.Value.N, .int .i64 s.Value.Kind, .str s.Value.Name, .sl (s.Value.Args.map e_api_Expr), .sl (s.Args.map e_api_Expr), .sl (s.Body.map e_api_Stmt), .sl (s.Else.map e_api_Stmt)]]]⟩) (fun _ => some 1) ?_ ?_
  intro i28 b28 hi28
  obtain rfl := Option.some.inj hi28
  obtain ⟨⟩ := b28
  dsimp only at h ⊢
  refine nd h F fun h F => ?_
  cases h; exact fin
  intro af28 m28 s28 a28 o28 hf28 ho28 ih28
  obtain ⟨t_25, i_26⟩ := s28
  obtain ⟨⟩ := a28
  dsimp only [lazarettoref07_head_L1] at hf28 ⊢
  refine tr ?_
  intros
  refine fl hf28 F ?_ ?_ <;> intro hf28 _ F
  refine fi hf28 F ?_ ?_ <;> intro hf28 _ F
  refine nd hf28 F fun hf28 F => ?_
  refine bx hf28 F fun x_30 hf28 hx_30 F => ?_
  refine bi hf28 fun r_31 hf28 hr_31 => ?_
  refine tr ?_
  intros
  refine cS (lazarettoref06_Print_ok hr_31) ?_
  refine nd hf28 F fun hf28 F => ?_
  cases hf28
  refine tr ?_
  intros
  refine wn i_26 F fun F => ?_
  exact bk ih28 ho28 ()
  refine bx hf28 F fun x_33 hf28 hx_33 F => ?_
  refine bi hf28 fun r_34 hf28 hr_34 => ?_
  refine tr ?_
  intros
  refine cS (lazarettoref06_Print_ok hr_34) ?_
  refine nd hf28 F fun hf28 F => ?_
  cases hf28
  refine tr ?_
  intros
  refine wn i_26 F fun F => ?_
  exact bk ih28 ho28 ()
  cases hf28
  refine tt ?_
  exact xt ho28 af28 ()
theorem lazarettoref07_brief_b_ok {lazarettoref07_brief_r : (List api_Stmt) → Int → Int → Option Int} {l : List api_Stmt} {deep : Int} {left : Int} {r : Int}
    (lazarettoref07_brief_r_ok : ∀ (x0 : List api_Stmt) (x1 : Int) (x2 : Int) (r : Int), lazarettoref07_brief_r x0 x1 x2 = some r → Pu Tryz.prog 188 [.one (.sl (x0.map e_api_Stmt)), .one (.int .i64 x1), .one (.int .i64 x2)] (.one (.int .i64 r))) (h : lazarettoref07_brief_b lazarettoref07_brief_r l deep left = some r) :
    Pu Tryz.prog 188 [.one (.sl (l.map e_api_Stmt)), .one (.int .i64 deep), .one (.int .i64 left)] (.one (.int .i64 r)) := by
  have F := trivial; have R := trivial
  refine pA Tryz.func188 ?_
  simp only [Tryz.f188]
  unfold lazarettoref07_brief_b at h
  refine fi h F ?_ ?_ <;> intro h _ F
  cases h; exact fin
  refine tr ?_
  intros
  refine fi h F ?_ ?_ <;> intro h _ F
  refine fi h F ?_ ?_ <;> intro h _ F
  cases h; exact fin
  refine tr ?_
  intros
  refine fi h F ?_ ?_ <;> intro h _ F
  cases h; exact fin
  refine bi h fun e_3 h he_3 => ?_
  refine tt ?_
  refine lX he_3 (fun | (left_1, i_2), _ => ⟨[(0, .one (.sl (l.map e_api_Stmt))), (1, .one (.int .i64 deep)), (2, .one (.int .i64 left_1)), (7, .one (.int .i64 (i_2 : Int)))], []⟩) (fun | (.inl e_10), _ => ⟨[], []⟩ | (.inr left_11), _ => ⟨[(2, .one (.int .i64 left_11))], []⟩) (fun | (.inl _) => none | (.inr _) => some 0) ?_ ?_
  intro i4 b4 hi4
  rcases e_3 with e_case | left_11
  cases hi4
  obtain rfl := Option.some.inj hi4
  obtain ⟨⟩ := b4
  dsimp only at h ⊢
  cases h; exact fin
  intro af4 m4 s4 a4 o4 hf4 ho4 ih4
  obtain ⟨left_1, i_2⟩ := s4
  obtain ⟨⟩ := a4
  dsimp only [lazarettoref07_brief_L1] at hf4 ⊢
  refine tr ?_
  intros
  refine fl hf4 F ?_ ?_ <;> intro hf4 _ F
  refine fi hf4 F ?_ ?_ <;> intro hf4 _ F
  refine bx hf4 F fun x_5 hf4 hx_5 F => ?_
  refine bi hf4 fun r_6 hf4 hr_6 => ?_
  refine tr ?_
  intros
  refine cS (lazarettoref07_form_ok hr_6) ?_
  refine fv hf4 F ?_ ?_ <;> intro hf4 _ F
  refine bi hf4 fun r_7 hf4 hr_7 => ?_
  refine tr ?_
  intros
  refine cS (lazarettoref07_head_ok hr_7) ?_
  refine tr ?_
  intros
  refine fi hf4 F ?_ ?_ <;> intro hf4 _ F
  refine bi hf4 fun r_8 hf4 hr_8 => ?_
  refine tr ?_
  intros
  refine cS (lazarettoref07_brief_r_ok _ _ _ _ hr_8) ?_
  refine fi hf4 F ?_ ?_ <;> intro hf4 _ F
  refine bi hf4 fun r_9 hf4 hr_9 => ?_
  refine tr ?_
  intros
  refine cS (lazarettoref07_brief_r_ok _ _ _ _ hr_9) ?_
  cases hf4
  refine tt ?_
  refine wn i_2 F fun F => ?_
  exact bk ih4 ho4 ()
  cases hf4
  refine tt ?_
  refine wn i_2 F fun F => ?_
  exact bk ih4 ho4 ()
  cases hf4
  refine tt ?_
  refine wn i_2 F fun F => ?_
  exact bk ih4 ho4 ()
  cases hf4
  obtain rfl := sr ho4
  try dsimp only at h
  cases h
  exact fin
  cases hf4
  refine tt ?_
  exact xt ho4 af4 ()
  cases hf4
  refine tt ?_
  exact xt ho4 af4 ()
  refine tr ?_
  intros
  refine fi h F ?_ ?_ <;> intro h _ F
  cases h; exact fin
  refine bi h fun e_14 h he_14 => ?_
  refine tt ?_
  refine lX he_14 (fun | (left_12, i_13), _ => ⟨[(0, .one (.sl (l.map e_api_Stmt))), (1, .one (.int .i64 deep)), (2, .one (.int .i64 left_12)), (7, .one (.int .i64 (i_13 : Int)))], []⟩) (fun | (.inl e_21), _ => ⟨[], []⟩ | (.inr left_22), _ => ⟨[(2, .one (.int .i64 left_22))], []⟩) (fun | (.inl _) => none | (.inr _) => some 0) ?_ ?_
  intro i15 b15 hi15
  rcases e_14 with e_case | left_22
  cases hi15
  obtain rfl := Option.some.inj hi15
  obtain ⟨⟩ := b15
  dsimp only at h ⊢
  cases h; exact fin
  intro af15 m15 s15 a15 o15 hf15 ho15 ih15
  obtain ⟨left_12, i_13⟩ := s15
  obtain ⟨⟩ := a15
  dsimp only [lazarettoref07_brief_L2] at hf15 ⊢
  refine tr ?_
  intros
  refine fl hf15 F ?_ ?_ <;> intro hf15 _ F
  refine fi hf15 F ?_ ?_ <;> intro hf15 _ F
  refine bx hf15 F fun x_16 hf15 hx_16 F => ?_
  refine bi hf15 fun r_17 hf15 hr_17 => ?_
  refine tr ?_
  intros
  refine cS (lazarettoref07_form_ok hr_17) ?_
  refine fv hf15 F ?_ ?_ <;> intro hf15 _ F
  refine bi hf15 fun r_18 hf15 hr_18 => ?_
  refine tr ?_
  intros
  refine cS (lazarettoref07_head_ok hr_18) ?_
  refine tr ?_
  intros
  refine fi hf15 F ?_ ?_ <;> intro hf15 _ F
  refine bi hf15 fun r_19 hf15 hr_19 => ?_
  refine tr ?_
  intros
  refine cS (lazarettoref07_brief_r_ok _ _ _ _ hr_19) ?_
  refine fi hf15 F ?_ ?_ <;> intro hf15 _ F
  refine bi hf15 fun r_20 hf15 hr_20 => ?_
  refine tr ?_
  intros
  refine cS (lazarettoref07_brief_r_ok _ _ _ _ hr_20) ?_
  cases hf15
  refine tt ?_
  refine wn i_13 F fun F => ?_
  exact bk ih15 ho15 ()
  cases hf15
  refine tt ?_
  refine wn i_13 F fun F => ?_
  exact bk ih15 ho15 ()
  cases hf15
  refine tt ?_
  refine wn i_13 F fun F => ?_
  exact bk ih15 ho15 ()
  cases hf15
  obtain rfl := sr ho15
  try dsimp only at h
  cases h
  exact fin
  cases hf15
  refine tt ?_
  exact xt ho15 af15 ()
  cases hf15
  refine tt ?_
  exact xt ho15 af15 ()
theorem lazarettoref07_brief_g_ok (n : Nat) : (∀ (x0 : List api_Stmt) (x1 : Int) (x2 : Int) (r : Int), (lazarettoref07_brief_g n) x0 x1 x2 = some r → Pu Tryz.prog 188 [.one (.sl (x0.map e_api_Stmt)), .one (.int .i64 x1), .one (.int .i64 x2)] (.one (.int .i64 r))) := by
  induction n with
  | zero => exact fun _ _ _ r h => (by cases h)
  | succ n ih =>
    have ih0 := ih
    exact fun _ _ _ r h => lazarettoref07_brief_b_ok ih0 h
theorem lazarettoref07_brief_ok {l : List api_Stmt} {deep : Int} {left : Int} {r : Int} (h : lazarettoref07_brief l deep left = some r) : Pu Tryz.prog 188 [.one (.sl (l.map e_api_Stmt)), .one (.int .i64 deep), .one (.int .i64 left)] (.one (.int .i64 r)) := (lazarettoref07_brief_g_ok 1000000) _ _ _ _ h
theorem lazarettoref07_Fits_ok {l : List api_Stmt} {r : Bool} (h : lazarettoref07_Fits l = some r) :
    Pu Tryz.prog 160 [.one (.sl (l.map e_api_Stmt))] (.one (.bool r)) := by
  have F := trivial; have R := trivial
  refine pA Tryz.func160 ?_
  simp only [Tryz.f160]
  unfold lazarettoref07_Fits at h
  refine bi h fun r_1 h hr_1 => ?_
  refine tr ?_
  intros
  refine cS (lazarettoref07_brief_ok hr_1) ?_
  cases h; exact fin
theorem lazarettoref08_tasks_ok {p : api_Program} {r : Bool} (h : lazarettoref08_tasks p = some r) :
    Pu Tryz.prog 120 [.agg (e_api_Program p)] (.one (.bool r)) := by
  have F := trivial; have R := trivial
  refine pA Tryz.func120 ?_
  simp only [Tryz.f120]
  unfold lazarettoref08_tasks at h
  refine bi h fun e_2 h he_2 => ?_
  refine tt ?_
  refine lX he_2 (fun | i_1, _ => ⟨[(1, .one (.ref 0 0 0 0)), (3, .one (.int .i64 (i_1 : Int)))], [.cells 0 6 [[.sl (p.Lattice.Names.map eS), .sl (p.Lattice.Below.map (eA2 eI)), .sl (p.Sites.map e_api_Site), .sl (p.Vars.map e_api_Var), .sl (p.Blocks.map e_api_Block), .sl (p.Tasks.map e_api_Task)]]]⟩) (fun | (.inl e_11), _ => ⟨[], []⟩ | (.inr ()), _ => ⟨[], [.cells 0 6 [[.sl (p.Lattice.Names.map eS), .sl (p.Lattice.Below.map (eA2 eI)), .sl (p.Sites.map e_api_Site), .sl (p.Vars.map e_api_Var), .sl (p.Blocks.map e_api_Block), .sl (p.Tasks.map e_api_Task)]]]⟩) (fun | (.inl _) => none | (.inr _) => some 0) ?_ ?_
  intro i3 b3 hi3
  rcases e_2 with e_case | ⟨⟩
  cases hi3
  obtain rfl := Option.some.inj hi3
  obtain ⟨⟩ := b3
  dsimp only at h ⊢
  cases h; exact fin
  intro af3 m3 i_1 a3 o3 hf3 ho3 ih3
  obtain ⟨⟩ := a3
  dsimp only [lazarettoref08_tasks_L1] at hf3 ⊢
  refine tr ?_
  intros
  refine fl hf3 F ?_ ?_ <;> intro hf3 _ F
  refine bx hf3 F fun x_4 hf3 hx_4 F => ?_
  refine tr ?_
  intros
  refine fi hf3 F ?_ ?_ <;> intro hf3 _ F
  cases hf3
  obtain rfl := sr ho3
  try dsimp only at h
  cases h
  exact fin
  refine fi hf3 F ?_ ?_ <;> intro hf3 _ F
  cases hf3
  obtain rfl := sr ho3
  try dsimp only at h
  cases h
  exact fin
  refine tt ?_
  refine fi hf3 F ?_ ?_ <;> intro hf3 _ F
  cases hf3
  obtain rfl := sr ho3
  try dsimp only at h
  cases h
  exact fin
  refine fi hf3 F ?_ ?_ <;> intro hf3 _ F
  cases hf3
  obtain rfl := sr ho3
  try dsimp only at h
  cases h
  exact fin
  refine tr ?_
  intros
  refine fi hf3 F ?_ ?_ <;> intro hf3 _ F
  refine bi hf3 fun r_5 hf3 hr_5 => ?_
  refine tr ?_
  intros
  refine cS (lazarettoref07_Fits_ok hr_5) ?_
  refine fv hf3 F ?_ ?_ <;> intro hf3 _ F
  refine bi hf3 fun e_7 hf3 he_7 => ?_
  refine tt ?_
  refine lX he_7 (fun | k_6, _ => ⟨[(1, .one (.ref 0 0 0 0)), (3, .one (.int .i64 (i_1 : Int))), (4, .one (.ref 1 0 0 0)), (5, .one (.int .i64 (k_6 : Int)))], [.cells 0 6 [[.sl (p.Lattice.Names.map eS), .sl (p.Lattice.Below.map (eA2 eI)), .sl (p.Sites.map e_api_Site), .sl (p.Vars.map e_api_Var), .sl (p.Blocks.map e_api_Block), .sl (p.Tasks.map e_api_Task)]], .cells 0 4 [[.int .i64 x_4.Every, .int .i64 x_4.Priority, .sl (x_4.Budget.map eI), .sl (x_4.Body.map e_api_Stmt)]]]⟩) (fun | (.inl e_10), _ => ⟨[], []⟩ | (.inr ()), _ => ⟨[(1, .one (.ref 0 0 0 0)), (3, .one (.int .i64 (i_1 : Int)))], [.cells 0 6 [[.sl (p.Lattice.Names.map eS), .sl (p.Lattice.Below.map (eA2 eI)), .sl (p.Sites.map e_api_Site), .sl (p.Vars.map e_api_Var), .sl (p.Blocks.map e_api_Block), .sl (p.Tasks.map e_api_Task)]], .cells 0 4 [[.int .i64 x_4.Every, .int .i64 x_4.Priority, .sl (x_4.Budget.map eI), .sl (x_4.Body.map e_api_Stmt)]]]⟩) (fun | (.inl _) => none | (.inr _) => some 2) ?_ ?_
  intro i8 b8 hi8
  rcases e_7 with e_case | ⟨⟩
  cases hi8
  obtain rfl := Option.some.inj hi8
  obtain ⟨⟩ := b8
  dsimp only at hf3 ⊢
  cases hf3
  refine tt ?_
  refine wn i_1 F fun F => ?_
  exact bk ih3 ho3 ()
  intro af8 m8 k_6 a8 o8 hf8 ho8 ih8
  obtain ⟨⟩ := a8
  dsimp only [lazarettoref08_tasks_L2] at hf8 ⊢
  refine tr ?_
  intros
  refine fl hf8 F ?_ ?_ <;> intro hf8 _ F
  refine bx hf8 F fun x_9 hf8 hx_9 F => ?_
  refine tr ?_
  intros
  refine fi hf8 F ?_ ?_ <;> intro hf8 _ F
  cases hf8
  obtain rfl := sr ho8
  try dsimp only at hf3
  cases hf3
  obtain rfl := sr ho3
  try dsimp only at h
  cases h
  exact fin
  refine tr ?_
  intros
  refine fi hf8 F ?_ ?_ <;> intro hf8 _ F
  cases hf8
  obtain rfl := sr ho8
  try dsimp only at hf3
  cases hf3
  obtain rfl := sr ho3
  try dsimp only at h
  cases h
  exact fin
  cases hf8
  refine tt ?_
  refine wn k_6 F fun F => ?_
  exact bk ih8 ho8 ()
  cases hf8
  refine tt ?_
  exact xt ho8 af8 ()
  cases hf3
  obtain rfl := sr ho3
  try dsimp only at h
  cases h
  exact fin
  cases hf3
  obtain rfl := sr ho3
  try dsimp only at h
  cases h
  exact fin
  cases hf3
  refine tt ?_
  exact xt ho3 af3 ()
theorem lazarettoref08_signed_ok {n : Int} {r : Str} (h : lazarettoref08_signed n = some r) :
    Pu Tryz.prog 190 [.one (.int .i64 n)] (.one (.str r)) := by
  have F := trivial; have R := trivial
  refine pA Tryz.func190 ?_
  simp only [Tryz.f190]
  unfold lazarettoref08_signed at h
  refine fi h F ?_ ?_ <;> intro h _ F
  refine bi h fun r_1 h hr_1 => ?_
  refine tr ?_
  intros
  refine cS (lazarettoref05_Digits_ok hr_1) ?_
  refine nd h F fun h F => ?_
  cases h; exact fin
  refine bi h fun r_3 h hr_3 => ?_
  refine tr ?_
  intros
  refine cS (lazarettoref05_Digits_ok hr_3) ?_
  cases h; exact fin
theorem lazarettoref08_typ_ok {t : api_Type} {r : Str} (h : lazarettoref08_typ t = some r) :
    Pu Tryz.prog 189 [.agg (e_api_Type t)] (.one (.str r)) := by
  have F := trivial; have R := trivial
  refine pA Tryz.func189 ?_
  simp only [Tryz.f189]
  unfold lazarettoref08_typ at h
  refine by_ h F fun x_1 h hx_1 F => ?_
  refine ln F fun F => ?_
  have R := And.intro (show ([[.str []], [.str ([66, 79, 79, 76] : Str)], [.str ([73, 78, 84] : Str)], [.str ([68, 73, 78, 84] : Str)], [.str ([84, 73, 77, 69] : Str)]] : List (List C))[t.Kind.toNat]? = some [.str x_1] from q_map (f := eS) hx_1) R
  refine tr ?_
  intros
  refine fi h F ?_ ?_ <;> intro h _ F
  cases h; exact fin
  refine bi h fun r_2 h hr_2 => ?_
  refine tr ?_
  intros
  refine cD (lazarettoref08_signed_ok hr_2) ?_
  refine nd h F fun h F => ?_
  refine nd h F fun h F => ?_
  refine bi h fun r_5 h hr_5 => ?_
  refine tr ?_
  intros
  refine cD (lazarettoref08_signed_ok hr_5) ?_
  refine nd h F fun h F => ?_
  refine nd h F fun h F => ?_
  refine nd h F fun h F => ?_
  cases h; exact fin
theorem lazarettoref08_one_ok {p : api_Program} {v : api_Var} {r : Str} (h : lazarettoref08_one p v = some r) :
    Pu Tryz.prog 161 [.agg (e_api_Program p), .agg (e_api_Var v)] (.one (.str r)) := by
  have F := trivial; have R := trivial
  refine pA Tryz.func161 ?_
  simp only [Tryz.f161]
  unfold lazarettoref08_one at h
  refine by_ h F fun x_1 h hx_1 F => ?_
  refine ln F fun F => ?_
  have R := And.intro (show ([[.str ([86, 65, 82, 32] : Str)], [.str ([73, 78, 80, 85, 84, 32] : Str)], [.str ([79, 85, 84, 80, 85, 84, 32] : Str)]] : List (List C))[v.Mode.toNat]? = some [.str x_1] from q_map (f := eS) hx_1) R
  refine nd h F fun h F => ?_
  refine nd h F fun h F => ?_
  refine bi h fun r_4 h hr_4 => ?_
  refine tr ?_
  intros
  refine cD (lazarettoref08_typ_ok hr_4) ?_
  refine nd h F fun h F => ?_
  refine tr ?_
  intros
  refine fi h F ?_ ?_ <;> intro h _ F
  refine by_ h F fun x_6 h hx_6 F => ?_
  refine nd h F fun h F => ?_
  refine nd h F fun h F => ?_
  refine tr ?_
  intros
  refine fi h F ?_ ?_ <;> intro h _ F
  refine fi h F ?_ ?_ <;> intro h _ F
  refine tt ?_
  refine fi h F ?_ ?_ <;> intro h _ F
  refine nd h F fun h F => ?_
  refine nd h F fun h F => ?_
  cases h; exact fin
  refine nd h F fun h F => ?_
  refine nd h F fun h F => ?_
  cases h; exact fin
  refine bi h fun r_13 h hr_13 => ?_
  refine tr ?_
  intros
  refine cS (lazarettoref08_signed_ok hr_13) ?_
  refine nd h F fun h F => ?_
  refine nd h F fun h F => ?_
  refine nd h F fun h F => ?_
  cases h; exact fin
  refine nd h F fun h F => ?_
  cases h; exact fin
  refine fi h F ?_ ?_ <;> intro h _ F
  refine tt ?_
  refine fi h F ?_ ?_ <;> intro h _ F
  refine fi h F ?_ ?_ <;> intro h _ F
  refine nd h F fun h F => ?_
  refine nd h F fun h F => ?_
  cases h; exact fin
  refine nd h F fun h F => ?_
  refine nd h F fun h F => ?_
  cases h; exact fin
  refine bi h fun r_22 h hr_22 => ?_
  refine tr ?_
  intros
  refine cS (lazarettoref08_signed_ok hr_22) ?_
  refine nd h F fun h F => ?_
  refine nd h F fun h F => ?_
  refine nd h F fun h F => ?_
  cases h; exact fin
  refine nd h F fun h F => ?_
  cases h; exact fin
theorem lazarettoref07_text_b_ok {lazarettoref07_text_r : (List api_Stmt) → Option Str} {l : List api_Stmt} {r : Str}
    (lazarettoref07_text_r_ok : ∀ (x0 : List api_Stmt) (r : Str), lazarettoref07_text_r x0 = some r → Pu Tryz.prog 202 [.one (.sl (x0.map e_api_Stmt))] (.one (.str r))) (h : lazarettoref07_text_b lazarettoref07_text_r l = some r) :
    Pu Tryz.prog 202 [.one (.sl (l.map e_api_Stmt))] (.one (.str r)) := by
  have F := trivial; have R := trivial
  refine pA Tryz.func202 ?_
  simp only [Tryz.f202]
  unfold lazarettoref07_text_b at h
  refine bi h fun e_3 h he_3 => ?_
  refine tt ?_
  refine lX he_3 (fun | (t_1, i_2), _ => ⟨[(0, .one (.sl (l.map e_api_Stmt))), (3, .one (.str t_1)), (4, .one (.int .i64 (i_2 : Int)))], []⟩) (fun | e_3, _ => ⟨[(3, .one (.str e_3))], []⟩) (fun _ => some 0) ?_ ?_
  intro i4 b4 hi4
  obtain rfl := Option.some.inj hi4
  obtain ⟨⟩ := b4
  dsimp only at h ⊢
  cases h; exact fin
  intro af4 m4 s4 a4 o4 hf4 ho4 ih4
  obtain ⟨t_1, i_2⟩ := s4
  obtain ⟨⟩ := a4
  dsimp only [lazarettoref07_text_L1] at hf4 ⊢
  refine tr ?_
  intros
  refine fl hf4 F ?_ ?_ <;> intro hf4 _ F
  refine fi hf4 F ?_ ?_ <;> intro hf4 _ F
  refine nd hf4 F fun hf4 F => ?_
  refine bx hf4 F fun x_6 hf4 hx_6 F => ?_
  refine bi hf4 fun r_7 hf4 hr_7 => ?_
  refine tr ?_
  intros
  refine cS (lazarettoref07_head_ok hr_7) ?_
  refine nd hf4 F fun hf4 F => ?_
  refine bi hf4 fun r_9 hf4 hr_9 => ?_
  refine tr ?_
  intros
  refine cS (lazarettoref07_text_r_ok _ _ hr_9) ?_
  refine fi hf4 F ?_ ?_ <;> intro hf4 _ F
  refine tr ?_
  intros
  refine fi hf4 F ?_ ?_ <;> intro hf4 _ F
  refine nd hf4 F fun hf4 F => ?_
  refine tr ?_
  intros
  refine fi hf4 F ?_ ?_ <;> intro hf4 _ F
  refine bi hf4 fun r_11 hf4 hr_11 => ?_
  refine tr ?_
  intros
  refine cS (lazarettoref07_text_r_ok _ _ hr_11) ?_
  refine nd hf4 F fun hf4 F => ?_
  refine nd hf4 F fun hf4 F => ?_
  refine nd hf4 F fun hf4 F => ?_
  refine nd hf4 F fun hf4 F => ?_
  cases hf4
  refine tr ?_
  intros
  refine wn i_2 F fun F => ?_
  exact bk ih4 ho4 ()
  refine nd hf4 F fun hf4 F => ?_
  cases hf4
  refine tr ?_
  intros
  refine wn i_2 F fun F => ?_
  exact bk ih4 ho4 ()
  refine fi hf4 F ?_ ?_ <;> intro hf4 _ F
  refine nd hf4 F fun hf4 F => ?_
  refine nd hf4 F fun hf4 F => ?_
  cases hf4
  refine tr ?_
  intros
  refine wn i_2 F fun F => ?_
  exact bk ih4 ho4 ()
  refine fi hf4 F ?_ ?_ <;> intro hf4 _ F
  refine nd hf4 F fun hf4 F => ?_
  refine nd hf4 F fun hf4 F => ?_
  cases hf4
  refine tr ?_
  intros
  refine wn i_2 F fun F => ?_
  exact bk ih4 ho4 ()
  cases hf4
  refine tt ?_
  refine wn i_2 F fun F => ?_
  exact bk ih4 ho4 ()
  refine nd hf4 F fun hf4 F => ?_
  refine tr ?_
  intros
  refine fi hf4 F ?_ ?_ <;> intro hf4 _ F
  refine nd hf4 F fun hf4 F => ?_
  refine tr ?_
  intros
  refine fi hf4 F ?_ ?_ <;> intro hf4 _ F
  refine bi hf4 fun r_23 hf4 hr_23 => ?_
  refine tr ?_
  intros
  refine cS (lazarettoref07_text_r_ok _ _ hr_23) ?_
  refine nd hf4 F fun hf4 F => ?_
  refine nd hf4 F fun hf4 F => ?_
  refine nd hf4 F fun hf4 F => ?_
  refine nd hf4 F fun hf4 F => ?_
  cases hf4
  refine tr ?_
  intros
  refine wn i_2 F fun F => ?_
  exact bk ih4 ho4 ()
  refine nd hf4 F fun hf4 F => ?_
  cases hf4
  refine tr ?_
  intros
  refine wn i_2 F fun F => ?_
  exact bk ih4 ho4 ()
  refine fi hf4 F ?_ ?_ <;> intro hf4 _ F
  refine nd hf4 F fun hf4 F => ?_
  refine nd hf4 F fun hf4 F => ?_
  cases hf4
  refine tr ?_
  intros
  refine wn i_2 F fun F => ?_
  exact bk ih4 ho4 ()
  refine fi hf4 F ?_ ?_ <;> intro hf4 _ F
  refine nd hf4 F fun hf4 F => ?_
  refine nd hf4 F fun hf4 F => ?_
  cases hf4
  refine tr ?_
  intros
  refine wn i_2 F fun F => ?_
  exact bk ih4 ho4 ()
  cases hf4
  refine tt ?_
  refine wn i_2 F fun F => ?_
  exact bk ih4 ho4 ()
  refine bx hf4 F fun x_33 hf4 hx_33 F => ?_
  refine bi hf4 fun r_34 hf4 hr_34 => ?_
  refine tr ?_
  intros
  refine cS (lazarettoref07_head_ok hr_34) ?_
  refine nd hf4 F fun hf4 F => ?_
  refine bi hf4 fun r_36 hf4 hr_36 => ?_
  refine tr ?_
  intros
  refine cS (lazarettoref07_text_r_ok _ _ hr_36) ?_
  refine fi hf4 F ?_ ?_ <;> intro hf4 _ F
  refine tr ?_
  intros
  refine fi hf4 F ?_ ?_ <;> intro hf4 _ F
  refine nd hf4 F fun hf4 F => ?_
  refine tr ?_
  intros
  refine fi hf4 F ?_ ?_ <;> intro hf4 _ F
  refine bi hf4 fun r_38 hf4 hr_38 => ?_
  refine tr ?_
  intros
  refine cS (lazarettoref07_text_r_ok _ _ hr_38) ?_
  refine nd hf4 F fun hf4 F => ?_
  refine nd hf4 F fun hf4 F => ?_
  refine nd hf4 F fun hf4 F => ?_
  refine nd hf4 F fun hf4 F => ?_
  cases hf4
  refine tr ?_
  intros
  refine wn i_2 F fun F => ?_
  exact bk ih4 ho4 ()
  refine nd hf4 F fun hf4 F => ?_
  cases hf4
  refine tr ?_
  intros
  refine wn i_2 F fun F => ?_
  exact bk ih4 ho4 ()
  refine fi hf4 F ?_ ?_ <;> intro hf4 _ F
  refine nd hf4 F fun hf4 F => ?_
  refine nd hf4 F fun hf4 F => ?_
  cases hf4
  refine tr ?_
  intros
  refine wn i_2 F fun F => ?_
  exact bk ih4 ho4 ()
  refine fi hf4 F ?_ ?_ <;> intro hf4 _ F
  refine nd hf4 F fun hf4 F => ?_
  refine nd hf4 F fun hf4 F => ?_
  cases hf4
  refine tr ?_
  intros
  refine wn i_2 F fun F => ?_
  exact bk ih4 ho4 ()
  cases hf4
  refine tt ?_
  refine wn i_2 F fun F => ?_
  exact bk ih4 ho4 ()
  refine nd hf4 F fun hf4 F => ?_
  refine tr ?_
  intros
  refine fi hf4 F ?_ ?_ <;> intro hf4 _ F
  refine nd hf4 F fun hf4 F => ?_
  refine tr ?_
  intros
  refine fi hf4 F ?_ ?_ <;> intro hf4 _ F
  refine bi hf4 fun r_50 hf4 hr_50 => ?_
  refine tr ?_
  intros
  refine cS (lazarettoref07_text_r_ok _ _ hr_50) ?_
  refine nd hf4 F fun hf4 F => ?_
  refine nd hf4 F fun hf4 F => ?_
  refine nd hf4 F fun hf4 F => ?_
  refine nd hf4 F fun hf4 F => ?_
  cases hf4
  refine tr ?_
  intros
  refine wn i_2 F fun F => ?_
  exact bk ih4 ho4 ()
  refine nd hf4 F fun hf4 F => ?_
  cases hf4
  refine tr ?_
  intros
  refine wn i_2 F fun F => ?_
  exact bk ih4 ho4 ()
  refine fi hf4 F ?_ ?_ <;> intro hf4 _ F
  refine nd hf4 F fun hf4 F => ?_
  refine nd hf4 F fun hf4 F => ?_
  cases hf4
  refine tr ?_
  intros
  refine wn i_2 F fun F => ?_
  exact bk ih4 ho4 ()
  refine fi hf4 F ?_ ?_ <;> intro hf4 _ F
  refine nd hf4 F fun hf4 F => ?_
  refine nd hf4 F fun hf4 F => ?_
  cases hf4
  refine tr ?_
  intros
  refine wn i_2 F fun F => ?_
  exact bk ih4 ho4 ()
  cases hf4
  refine tt ?_
  refine wn i_2 F fun F => ?_
  exact bk ih4 ho4 ()
  cases hf4
  refine tt ?_
  exact xt ho4 af4 ()
theorem lazarettoref07_text_g_ok (n : Nat) : (∀ (x0 : List api_Stmt) (r : Str), (lazarettoref07_text_g n) x0 = some r → Pu Tryz.prog 202 [.one (.sl (x0.map e_api_Stmt))] (.one (.str r))) := by
  induction n with
  | zero => exact fun _ r h => (by cases h)
  | succ n ih =>
    have ih0 := ih
    exact fun _ r h => lazarettoref07_text_b_ok ih0 h
theorem lazarettoref07_text_ok {l : List api_Stmt} {r : Str} (h : lazarettoref07_text l = some r) : Pu Tryz.prog 202 [.one (.sl (l.map e_api_Stmt))] (.one (.str r)) := (lazarettoref07_text_g_ok 1000000) _ _ h
theorem lazarettoref07_Text_ok {l : List api_Stmt} {r : Str} (h : lazarettoref07_Text l = some r) :
    Pu Tryz.prog 192 [.one (.sl (l.map e_api_Stmt))] (.one (.str r)) := by
  have F := trivial; have R := trivial
  refine pA Tryz.func192 ?_
  simp only [Tryz.f192]
  unfold lazarettoref07_Text at h
  refine bi h fun r_1 h hr_1 => ?_
  refine tr ?_
  intros
  refine cS (lazarettoref07_text_ok hr_1) ?_
  cases h; exact fin
theorem lazarettoref08_task_ok {p : api_Program} {t : api_Task} {r : Str} (h : lazarettoref08_task p t = some r) :
    Pu Tryz.prog 162 [.agg (e_api_Program p), .agg (e_api_Task t)] (.one (.str r)) := by
  have F := trivial; have R := trivial
  refine pA Tryz.func162 ?_
  simp only [Tryz.f162]
  unfold lazarettoref08_task at h
  refine bi h fun r_1 h hr_1 => ?_
  refine tr ?_
  intros
  refine cD (lazarettoref05_Digits_ok hr_1) ?_
  refine nd h F fun h F => ?_
  refine nd h F fun h F => ?_
  refine bi h fun r_4 h hr_4 => ?_
  refine tr ?_
  intros
  refine cD (lazarettoref05_Digits_ok hr_4) ?_
  refine nd h F fun h F => ?_
  refine bi h fun e_8 h he_8 => ?_
  refine tr ?_
  intros
  refine lX he_8 (fun | (s_6, i_7), _ => ⟨[(2, .one (.ref 0 0 0 0)), (3, .one (.ref 1 0 0 0)), (5, .one (.str s_6)), (6, .one (.int .i64 (i_7 : Int)))], [.cells 0 6 [[.sl (p.Lattice.Names.map eS), .sl (p.Lattice.Below.map (eA2 eI)), .sl (p.Sites.map e_api_Site), .sl (p.Vars.map e_api_Var), .sl (p.Blocks.map e_api_Block), .sl (p.Tasks.map e_api_Task)]], .cells 0 4 [[.int .i64 t.Every, .int .i64 t.Priority, .sl (t.Budget.map eI), .sl (t.Body.map e_api_Stmt)]]]⟩) (fun | e_8, _ => ⟨[(3, .one (.ref 1 0 0 0)), (5, .one (.str e_8))], [.cells 0 6 [[.sl (p.Lattice.Names.map eS), .sl (p.Lattice.Below.map (eA2 eI)), .sl (p.Sites.map e_api_Site), .sl (p.Vars.map e_api_Var), .sl (p.Blocks.map e_api_Block), .sl (p.Tasks.map e_api_Task)]], .cells 0 4 [[.int .i64 t.Every, .int .i64 t.Priority, .sl (t.Budget.map eI), .sl (t.Body.map e_api_Stmt)]]]⟩) (fun _ => some 0) ?_ ?_
  intro i9 b9 hi9
  obtain rfl := Option.some.inj hi9
  obtain ⟨⟩ := b9
  dsimp only at h ⊢
  refine nd h F fun h F => ?_
  refine bi h fun r_26 h hr_26 => ?_
  refine tr ?_
  intros
  refine cS (lazarettoref07_Text_ok hr_26) ?_
  refine fi h F ?_ ?_ <;> intro h _ F
  refine nd h F fun h F => ?_
  cases h; exact fin
  refine nd h F fun h F => ?_
  refine nd h F fun h F => ?_
  refine nd h F fun h F => ?_
  cases h; exact fin
  intro af9 m9 s9 a9 o9 hf9 ho9 ih9
  obtain ⟨s_6, i_7⟩ := s9
  obtain ⟨⟩ := a9
  dsimp only [lazarettoref08_task_L1] at hf9 ⊢
  refine tr ?_
  intros
  refine fl hf9 F ?_ ?_ <;> intro hf9 _ F
  refine fi hf9 F ?_ ?_ <;> intro hf9 _ F
  refine nd hf9 F fun hf9 F => ?_
  refine bx hf9 F fun x_11 hf9 hx_11 F => ?_
  refine nd hf9 F fun hf9 F => ?_
  refine bx hf9 F fun x_13 hf9 hx_13 F => ?_
  refine bi hf9 fun r_14 hf9 hr_14 => ?_
  refine tr ?_
  intros
  refine cD (lazarettoref05_Digits_ok hr_14) ?_
  refine nd hf9 F fun hf9 F => ?_
  refine nd hf9 F fun hf9 F => ?_
  cases hf9
  refine tr ?_
  intros
  refine wn i_7 F fun F => ?_
  exact bk ih9 ho9 ()
  refine nd hf9 F fun hf9 F => ?_
  refine bx hf9 F fun x_18 hf9 hx_18 F => ?_
  refine nd hf9 F fun hf9 F => ?_
  refine bx hf9 F fun x_20 hf9 hx_20 F => ?_
  refine bi hf9 fun r_21 hf9 hr_21 => ?_
  refine tr ?_
  intros
  refine cD (lazarettoref05_Digits_ok hr_21) ?_
  refine nd hf9 F fun hf9 F => ?_
  refine nd hf9 F fun hf9 F => ?_
  cases hf9
  refine tr ?_
  intros
  refine wn i_7 F fun F => ?_
  exact bk ih9 ho9 ()
  cases hf9
  refine tt ?_
  exact xt ho9 af9 ()
theorem lazarettoref08_text_ok {p : api_Program} {r : Str} (h : lazarettoref08_text p = some r) :
    Pu Tryz.prog 121 [.agg (e_api_Program p)] (.one (.str r)) := by
  have F := trivial; have R := trivial
  refine pA Tryz.func121 ?_
  simp only [Tryz.f121]
  unfold lazarettoref08_text at h
  refine bi h fun e_3 h he_3 => ?_
  refine tt ?_
  refine lX he_3 (fun | (s_1, i_2), _ => ⟨[(1, .one (.ref 0 0 0 0)), (3, .one (.str s_1)), (4, .one (.int .i64 (i_2 : Int)))], [.cells 0 6 [[.sl (p.Lattice.Names.map eS), .sl (p.Lattice.Below.map (eA2 eI)), .sl (p.Sites.map e_api_Site), .sl (p.Vars.map e_api_Var), .sl (p.Blocks.map e_api_Block), .sl (p.Tasks.map e_api_Task)]]]⟩) (fun | e_3, _ => ⟨[(1, .one (.ref 0 0 0 0)), (3, .one (.str e_3))], [.cells 0 6 [[.sl (p.Lattice.Names.map eS), .sl (p.Lattice.Below.map (eA2 eI)), .sl (p.Sites.map e_api_Site), .sl (p.Vars.map e_api_Var), .sl (p.Blocks.map e_api_Block), .sl (p.Tasks.map e_api_Task)]]]⟩) (fun _ => some 0) ?_ ?_
  intro i4 b4 hi4
  obtain rfl := Option.some.inj hi4
  obtain ⟨⟩ := b4
  dsimp only at h ⊢
  refine bi h fun e_12 h he_12 => ?_
  refine tt ?_
  refine lX he_12 (fun | (s_10, i_11), _ => ⟨[(1, .one (.ref 0 0 0 0)), (3, .one (.str s_10)), (5, .one (.int .i64 (i_11 : Int)))], [.cells 0 6 [[.sl (p.Lattice.Names.map eS), .sl (p.Lattice.Below.map (eA2 eI)), .sl (p.Sites.map e_api_Site), .sl (p.Vars.map e_api_Var), .sl (p.Blocks.map e_api_Block), .sl (p.Tasks.map e_api_Task)]]]⟩) (fun | e_12, _ => ⟨[(1, .one (.ref 0 0 0 0)), (3, .one (.str e_12))], [.cells 0 6 [[.sl (p.Lattice.Names.map eS), .sl (p.Lattice.Below.map (eA2 eI)), .sl (p.Sites.map e_api_Site), .sl (p.Vars.map e_api_Var), .sl (p.Blocks.map e_api_Block), .sl (p.Tasks.map e_api_Task)]]]⟩) (fun _ => some 2) ?_ ?_
  intro i13 b13 hi13
  obtain rfl := Option.some.inj hi13
  obtain ⟨⟩ := b13
  dsimp only at h ⊢
  refine bi h fun e_25 h he_25 => ?_
  refine tt ?_
  refine lX he_25 (fun | (s_23, i_24), _ => ⟨[(1, .one (.ref 0 0 0 0)), (3, .one (.str s_23)), (6, .one (.int .i64 (i_24 : Int)))], [.cells 0 6 [[.sl (p.Lattice.Names.map eS), .sl (p.Lattice.Below.map (eA2 eI)), .sl (p.Sites.map e_api_Site), .sl (p.Vars.map e_api_Var), .sl (p.Blocks.map e_api_Block), .sl (p.Tasks.map e_api_Task)]]]⟩) (fun | e_25, _ => ⟨[(1, .one (.ref 0 0 0 0)), (3, .one (.str e_25))], [.cells 0 6 [[.sl (p.Lattice.Names.map eS), .sl (p.Lattice.Below.map (eA2 eI)), .sl (p.Sites.map e_api_Site), .sl (p.Vars.map e_api_Var), .sl (p.Blocks.map e_api_Block), .sl (p.Tasks.map e_api_Task)]]]⟩) (fun _ => some 4) ?_ ?_
  intro i26 b26 hi26
  obtain rfl := Option.some.inj hi26
  obtain ⟨⟩ := b26
  dsimp only at h ⊢
  refine bi h fun e_40 h he_40 => ?_
  refine tt ?_
  refine lX he_40 (fun | (s_38, i_39), _ => ⟨[(1, .one (.ref 0 0 0 0)), (3, .one (.str s_38)), (8, .one (.int .i64 (i_39 : Int)))], [.cells 0 6 [[.sl (p.Lattice.Names.map eS), .sl (p.Lattice.Below.map (eA2 eI)), .sl (p.Sites.map e_api_Site), .sl (p.Vars.map e_api_Var), .sl (p.Blocks.map e_api_Block), .sl (p.Tasks.map e_api_Task)]]]⟩) (fun | e_40, _ => ⟨[(1, .one (.ref 0 0 0 0)), (3, .one (.str e_40))], [.cells 0 6 [[.sl (p.Lattice.Names.map eS), .sl (p.Lattice.Below.map (eA2 eI)), .sl (p.Sites.map e_api_Site), .sl (p.Vars.map e_api_Var), .sl (p.Blocks.map e_api_Block), .sl (p.Tasks.map e_api_Task)]]]⟩) (fun _ => some 6) ?_ ?_
  intro i41 b41 hi41
  obtain rfl := Option.some.inj hi41
  obtain ⟨⟩ := b41
  dsimp only at h ⊢
  refine bi h fun e_48 h he_48 => ?_
  refine tt ?_
  refine lX he_48 (fun | (s_46, i_47), _ => ⟨[(1, .one (.ref 0 0 0 0)), (3, .one (.str s_46)), (9, .one (.int .i64 (i_47 : Int)))], [.cells 0 6 [[.sl (p.Lattice.Names.map eS), .sl (p.Lattice.Below.map (eA2 eI)), .sl (p.Sites.map e_api_Site), .sl (p.Vars.map e_api_Var), .sl (p.Blocks.map e_api_Block), .sl (p.Tasks.map e_api_Task)]]]⟩) (fun | e_48, _ => ⟨[(1, .one (.ref 0 0 0 0)), (3, .one (.str e_48))], [.cells 0 6 [[.sl (p.Lattice.Names.map eS), .sl (p.Lattice.Below.map (eA2 eI)), .sl (p.Sites.map e_api_Site), .sl (p.Vars.map e_api_Var), .sl (p.Blocks.map e_api_Block), .sl (p.Tasks.map e_api_Task)]]]⟩) (fun _ => some 8) ?_ ?_
  intro i49 b49 hi49
  obtain rfl := Option.some.inj hi49
  obtain ⟨⟩ := b49
  dsimp only at h ⊢
  refine bi h fun e_62 h he_62 => ?_
  refine tt ?_
  refine lX he_62 (fun | (s_60, i_61), _ => ⟨[(1, .one (.ref 0 0 0 0)), (3, .one (.str s_60)), (10, .one (.int .i64 (i_61 : Int)))], [.cells 0 6 [[.sl (p.Lattice.Names.map eS), .sl (p.Lattice.Below.map (eA2 eI)), .sl (p.Sites.map e_api_Site), .sl (p.Vars.map e_api_Var), .sl (p.Blocks.map e_api_Block), .sl (p.Tasks.map e_api_Task)]]]⟩) (fun | e_62, _ => ⟨[(3, .one (.str e_62))], [.cells 0 6 [[.sl (p.Lattice.Names.map eS), .sl (p.Lattice.Below.map (eA2 eI)), .sl (p.Sites.map e_api_Site), .sl (p.Vars.map e_api_Var), .sl (p.Blocks.map e_api_Block), .sl (p.Tasks.map e_api_Task)]]]⟩) (fun _ => some 10) ?_ ?_
  intro i63 b63 hi63
  obtain rfl := Option.some.inj hi63
  obtain ⟨⟩ := b63
  dsimp only at h ⊢
  cases h; exact fin
  intro af63 m63 s63 a63 o63 hf63 ho63 ih63
  obtain ⟨s_60, i_61⟩ := s63
  obtain ⟨⟩ := a63
  dsimp only [lazarettoref08_text_L6] at hf63 ⊢
  refine tr ?_
  intros
  refine fl hf63 F ?_ ?_ <;> intro hf63 _ F
  refine bx hf63 F fun x_64 hf63 hx_64 F => ?_
  refine bi hf63 fun r_65 hf63 hr_65 => ?_
  refine tr ?_
  intros
  refine cD (lazarettoref08_task_ok hr_65) ?_
  refine nd hf63 F fun hf63 F => ?_
  cases hf63
  refine tr ?_
  intros
  refine wn i_61 F fun F => ?_
  exact bk ih63 ho63 ()
  cases hf63
  refine tt ?_
  exact xt ho63 af63 ()
  intro af49 m49 s49 a49 o49 hf49 ho49 ih49
  obtain ⟨s_46, i_47⟩ := s49
  obtain ⟨⟩ := a49
  dsimp only [lazarettoref08_text_L5] at hf49 ⊢
  refine tr ?_
  intros
  refine fl hf49 F ?_ ?_ <;> intro hf49 _ F
  refine bx hf49 F fun x_50 hf49 hx_50 F => ?_
  refine nd hf49 F fun hf49 F => ?_
  refine nd hf49 F fun hf49 F => ?_
  refine nd hf49 F fun hf49 F => ?_
  refine nd hf49 F fun hf49 F => ?_
  refine by_ hf49 F fun x_55 hf49 hx_55 F => ?_
  refine nd hf49 F fun hf49 F => ?_
  refine nd hf49 F fun hf49 F => ?_
  refine nd hf49 F fun hf49 F => ?_
  cases hf49
  refine tr ?_
  intros
  refine wn i_47 F fun F => ?_
  exact bk ih49 ho49 ()
  cases hf49
  refine tt ?_
  exact xt ho49 af49 ()
  intro af41 m41 s41 a41 o41 hf41 ho41 ih41
  obtain ⟨s_38, i_39⟩ := s41
  obtain ⟨⟩ := a41
  dsimp only [lazarettoref08_text_L4] at hf41 ⊢
  refine tr ?_
  intros
  refine fl hf41 F ?_ ?_ <;> intro hf41 _ F
  refine bx hf41 F fun x_42 hf41 hx_42 F => ?_
  refine bi hf41 fun r_43 hf41 hr_43 => ?_
  refine tr ?_
  intros
  refine cD (lazarettoref08_one_ok hr_43) ?_
  refine nd hf41 F fun hf41 F => ?_
  cases hf41
  refine tr ?_
  intros
  refine wn i_39 F fun F => ?_
  exact bk ih41 ho41 ()
  cases hf41
  refine tt ?_
  exact xt ho41 af41 ()
  intro af26 m26 s26 a26 o26 hf26 ho26 ih26
  obtain ⟨s_23, i_24⟩ := s26
  obtain ⟨⟩ := a26
  dsimp only [lazarettoref08_text_L3] at hf26 ⊢
  refine tr ?_
  intros
  refine fl hf26 F ?_ ?_ <;> intro hf26 _ F
  refine bx hf26 F fun x_27 hf26 hx_27 F => ?_
  refine nd hf26 F fun hf26 F => ?_
  refine nd hf26 F fun hf26 F => ?_
  refine by_ hf26 F fun x_30 hf26 hx_30 F => ?_
  refine nd hf26 F fun hf26 F => ?_
  refine nd hf26 F fun hf26 F => ?_
  refine by_ hf26 F fun x_33 hf26 hx_33 F => ?_
  refine nd hf26 F fun hf26 F => ?_
  refine nd hf26 F fun hf26 F => ?_
  refine nd hf26 F fun hf26 F => ?_
  cases hf26
  refine tr ?_
  intros
  refine wn i_24 F fun F => ?_
  exact bk ih26 ho26 ()
  cases hf26
  refine tt ?_
  exact xt ho26 af26 ()
  intro af13 m13 s13 a13 o13 hf13 ho13 ih13
  obtain ⟨s_10, i_11⟩ := s13
  obtain ⟨⟩ := a13
  dsimp only [lazarettoref08_text_L2] at hf13 ⊢
  refine tr ?_
  intros
  refine fl hf13 F ?_ ?_ <;> intro hf13 _ F
  refine bx hf13 F fun x_14 hf13 hx_14 F => ?_
  refine by_ hf13 F fun x_15 hf13 hx_15 F => ?_
  refine nd hf13 F fun hf13 F => ?_
  refine nd hf13 F fun hf13 F => ?_
  refine by_ hf13 F fun x_18 hf13 hx_18 F => ?_
  refine nd hf13 F fun hf13 F => ?_
  refine nd hf13 F fun hf13 F => ?_
  refine nd hf13 F fun hf13 F => ?_
  cases hf13
  refine tr ?_
  intros
  refine wn i_11 F fun F => ?_
  exact bk ih13 ho13 ()
  cases hf13
  refine tt ?_
  exact xt ho13 af13 ()
  intro af4 m4 s4 a4 o4 hf4 ho4 ih4
  obtain ⟨s_1, i_2⟩ := s4
  obtain ⟨⟩ := a4
  dsimp only [lazarettoref08_text_L1] at hf4 ⊢
  refine tr ?_
  intros
  refine fl hf4 F ?_ ?_ <;> intro hf4 _ F
  refine bx hf4 F fun x_5 hf4 hx_5 F => ?_
  refine nd hf4 F fun hf4 F => ?_
  refine nd hf4 F fun hf4 F => ?_
  refine nd hf4 F fun hf4 F => ?_
  cases hf4
  refine tr ?_
  intros
  refine wn i_2 F fun F => ?_
  exact bk ih4 ho4 ()
  cases hf4
  refine tt ?_
  exact xt ho4 af4 ()
theorem lazarettoref08_Check_ok {p : api_Program} {r : Bool} (h : lazarettoref08_Check p = some r) :
    Pu Tryz.prog 82 [.agg (e_api_Program p)] (.one (.bool r)) := by
  have F := trivial; have R := trivial
  refine pA Tryz.func82 ?_
  simp only [Tryz.f82]
  unfold lazarettoref08_Check at h
  refine bi h fun r_1 h hr_1 => ?_
  refine tr ?_
  intros
  refine cS (lazarettoref08_parts_ok hr_1) ?_
  refine fv h F ?_ ?_ <;> intro h _ F
  refine bi h fun r_2 h hr_2 => ?_
  refine tr ?_
  intros
  refine cS (lazarettoref08_tasks_ok hr_2) ?_
  refine fv h F ?_ ?_ <;> intro h _ F
  refine bi h fun r_3 h hr_3 => ?_
  refine tr ?_
  intros
  refine cS (lazarettoref08_text_ok hr_3) ?_
  cases h; exact fin
  cases h; exact fin
  cases h; exact fin
theorem lazarettoref14_loops_b_ok {lazarettoref14_loops_r : (List api_Stmt) → Option Int} {l : List api_Stmt} {r : Int}
    (lazarettoref14_loops_r_ok : ∀ (x0 : List api_Stmt) (r : Int), lazarettoref14_loops_r x0 = some r → Pu Tryz.prog 110 [.one (.sl (x0.map e_api_Stmt))] (.one (.int .i64 r))) (h : lazarettoref14_loops_b lazarettoref14_loops_r l = some r) :
    Pu Tryz.prog 110 [.one (.sl (l.map e_api_Stmt))] (.one (.int .i64 r)) := by
  have F := trivial; have R := trivial
  refine pA Tryz.func110 ?_
  simp only [Tryz.f110]
  unfold lazarettoref14_loops_b at h
  refine bi h fun e_3 h he_3 => ?_
  refine tt ?_
  refine lX he_3 (fun | (n_1, i_2), _ => ⟨[(0, .one (.sl (l.map e_api_Stmt))), (3, .one (.int .i64 n_1)), (4, .one (.int .i64 (i_2 : Int)))], []⟩) (fun | e_3, _ => ⟨[(3, .one (.int .i64 e_3))], []⟩) (fun _ => some 0) ?_ ?_
  intro i4 b4 hi4
  obtain rfl := Option.some.inj hi4
  obtain ⟨⟩ := b4
  dsimp only at h ⊢
  cases h; exact fin
  intro af4 m4 s4 a4 o4 hf4 ho4 ih4
  obtain ⟨n_1, i_2⟩ := s4
  obtain ⟨⟩ := a4
  dsimp only [lazarettoref14_loops_L1] at hf4 ⊢
  refine tr ?_
  intros
  refine fl hf4 F ?_ ?_ <;> intro hf4 _ F
  refine bx hf4 F fun x_5 hf4 hx_5 F => ?_
  refine tr ?_
  intros
  refine fi hf4 F ?_ ?_ <;> intro hf4 _ F
  refine bi hf4 fun r_6 hf4 hr_6 => ?_
  refine tr ?_
  intros
  refine cD (lazarettoref14_loops_r_ok _ _ hr_6) ?_
  refine bi hf4 fun r_7 hf4 hr_7 => ?_
  refine tr ?_
  intros
  refine cD (lazarettoref14_loops_r_ok _ _ hr_7) ?_
  cases hf4
  refine tr ?_
  intros
  refine wn i_2 F fun F => ?_
  exact bk ih4 ho4 ()
  refine bi hf4 fun r_8 hf4 hr_8 => ?_
  refine tr ?_
  intros
  refine cD (lazarettoref14_loops_r_ok _ _ hr_8) ?_
  refine bi hf4 fun r_9 hf4 hr_9 => ?_
  refine tr ?_
  intros
  refine cD (lazarettoref14_loops_r_ok _ _ hr_9) ?_
  cases hf4
  refine tr ?_
  intros
  refine wn i_2 F fun F => ?_
  exact bk ih4 ho4 ()
  cases hf4
  refine tt ?_
  exact xt ho4 af4 ()
theorem lazarettoref14_loops_g_ok (n : Nat) : (∀ (x0 : List api_Stmt) (r : Int), (lazarettoref14_loops_g n) x0 = some r → Pu Tryz.prog 110 [.one (.sl (x0.map e_api_Stmt))] (.one (.int .i64 r))) := by
  induction n with
  | zero => exact fun _ r h => (by cases h)
  | succ n ih =>
    have ih0 := ih
    exact fun _ r h => lazarettoref14_loops_b_ok ih0 h
theorem lazarettoref14_loops_ok {l : List api_Stmt} {r : Int} (h : lazarettoref14_loops l = some r) : Pu Tryz.prog 110 [.one (.sl (l.map e_api_Stmt))] (.one (.int .i64 r)) := (lazarettoref14_loops_g_ok 1000000) _ _ h
theorem lazarettoref14_Sum_ok {l : List Int} {r : Int} (h : lazarettoref14_Sum l = some r) :
    Pu Tryz.prog 111 [.one (.sl (l.map eI))] (.one (.int .i64 r)) := by
  have F := trivial; have R := trivial
  refine pA Tryz.func111 ?_
  simp only [Tryz.f111]
  unfold lazarettoref14_Sum at h
  refine bi h fun e_3 h he_3 => ?_
  refine tt ?_
  refine lX he_3 (fun | (n_1, i_2), _ => ⟨[(0, .one (.sl (l.map eI))), (3, .one (.int .i64 n_1)), (4, .one (.int .i64 (i_2 : Int)))], []⟩) (fun | e_3, _ => ⟨[(3, .one (.int .i64 e_3))], []⟩) (fun _ => some 0) ?_ ?_
  intro i4 b4 hi4
  obtain rfl := Option.some.inj hi4
  obtain ⟨⟩ := b4
  dsimp only at h ⊢
  cases h; exact fin
  intro af4 m4 s4 a4 o4 hf4 ho4 ih4
  obtain ⟨n_1, i_2⟩ := s4
  obtain ⟨⟩ := a4
  dsimp only [lazarettoref14_Sum_L1] at hf4 ⊢
  refine tr ?_
  intros
  refine fl hf4 F ?_ ?_ <;> intro hf4 _ F
  refine bx hf4 F fun x_5 hf4 hx_5 F => ?_
  cases hf4
  refine tr ?_
  intros
  refine wn i_2 F fun F => ?_
  exact bk ih4 ho4 ()
  cases hf4
  refine tt ?_
  exact xt ho4 af4 ()
theorem lazarettoref14_caps_ok {p : api_Program} {r : Bool} (h : lazarettoref14_caps p = some r) :
    Pu Tryz.prog 77 [.agg (e_api_Program p)] (.one (.bool r)) := by
  have F := trivial; have R := trivial
  refine pA Tryz.func77 ?_
  simp only [Tryz.f77]
  unfold lazarettoref14_caps at h
  refine bi h fun r_1 h hr_1 => ?_
  refine tr ?_
  intros
  refine cS (lazarettoref08_Check_ok hr_1) ?_
  refine fv h F ?_ ?_ <;> intro h _ F
  refine tr ?_
  intros
  refine fi h F ?_ ?_ <;> intro h _ F
  cases h; exact fin
  refine bi h fun e_4 h he_4 => ?_
  refine tt ?_
  refine lX he_4 (fun | (n_2, i_3), _ => ⟨[(1, .one (.ref 0 0 0 0)), (3, .one (.int .i64 n_2)), (4, .one (.int .i64 (i_3 : Int)))], [.cells 0 6 [[.sl (p.Lattice.Names.map eS), .sl (p.Lattice.Below.map (eA2 eI)), .sl (p.Sites.map e_api_Site), .sl (p.Vars.map e_api_Var), .sl (p.Blocks.map e_api_Block), .sl (p.Tasks.map e_api_Task)]]]⟩) (fun | (.inl e_9), _ => ⟨[], []⟩ | (.inr n_10), _ => ⟨[(3, .one (.int .i64 n_10))], [.cells 0 6 [[.sl (p.Lattice.Names.map eS), .sl (p.Lattice.Below.map (eA2 eI)), .sl (p.Sites.map e_api_Site), .sl (p.Vars.map e_api_Var), .sl (p.Blocks.map e_api_Block), .sl (p.Tasks.map e_api_Task)]]]⟩) (fun | (.inl _) => none | (.inr _) => some 0) ?_ ?_
  intro i5 b5 hi5
  rcases e_4 with e_case | n_10
  cases hi5
  obtain rfl := Option.some.inj hi5
  obtain ⟨⟩ := b5
  dsimp only at h ⊢
  cases h; exact fin
  intro af5 m5 s5 a5 o5 hf5 ho5 ih5
  obtain ⟨n_2, i_3⟩ := s5
  obtain ⟨⟩ := a5
  dsimp only [lazarettoref14_caps_L1] at hf5 ⊢
  refine tr ?_
  intros
  refine fl hf5 F ?_ ?_ <;> intro hf5 _ F
  refine bx hf5 F fun x_6 hf5 hx_6 F => ?_
  refine bi hf5 fun r_7 hf5 hr_7 => ?_
  refine tr ?_
  intros
  refine cS (lazarettoref14_loops_ok hr_7) ?_
  refine bi hf5 fun r_8 hf5 hr_8 => ?_
  refine tr ?_
  intros
  refine cS (lazarettoref14_Sum_ok hr_8) ?_
  refine fi hf5 F ?_ ?_ <;> intro hf5 _ F
  cases hf5
  obtain rfl := sr ho5
  try dsimp only at h
  cases h
  exact fin
  cases hf5
  refine tt ?_
  refine wn i_3 F fun F => ?_
  exact bk ih5 ho5 ()
  cases hf5
  refine tt ?_
  exact xt ho5 af5 ()
  cases h; exact fin
theorem lazarettoref01_Leq_ok {l : api_Lattice} {a : Int} {b : Int} {r : Bool} (h : lazarettoref01_Leq l a b = some r) :
    Pu Tryz.prog 24 [.agg (e_api_Lattice l), .one (.int .i64 a), .one (.int .i64 b)] (.one (.bool r)) := by
  have F := trivial; have R := trivial
  refine pA Tryz.func24 ?_
  simp only [Tryz.f24]
  unfold lazarettoref01_Leq at h
  refine bi h fun r_1 h hr_1 => ?_
  refine tr ?_
  intros
  refine cS (lazarettoref01_Is_ok hr_1) ?_
  refine fv h F ?_ ?_ <;> intro h _ F
  refine bi h fun r_2 h hr_2 => ?_
  refine tr ?_
  intros
  refine cS (lazarettoref01_Is_ok hr_2) ?_
  refine fv h F ?_ ?_ <;> intro h _ F
  refine nd h F fun h F => ?_
  have R := And.intro (show List.replicate l.Names.length [.bool false] = List.map eB (List.replicate l.Names.length false) by simp [go_sem]) R
  refine by_ h F fun x_4 h hx_4 F => ?_
  refine ln F fun F => ?_
  have R := And.intro (show (List.map eB (List.replicate l.Names.length false)).set a.toNat [.bool true] = List.map eB ((List.replicate l.Names.length false).set a.toNat true) by simp [go_sem, List.map_set]) R
  refine bi h fun e_7 h he_7 => ?_
  refine tr ?_
  intros
  refine lX he_7 (fun | (above_5, more_6), _ => ⟨[(2, .one (.int .i64 b)), (3, .one (.ref 0 0 0 0)), (7, .one (.msl 1 0 0 above_5.length)), (8, .one (.bool more_6))], [.cells 0 2 [[.sl (l.Names.map eS), .sl (l.Below.map (eA2 eI))]], .cells 0 1 (above_5.map eB)]⟩) (fun | e_7, _ => ⟨[(2, .one (.int .i64 b)), (7, .one (.msl 1 0 0 e_7.length))], [.cells 0 2 [[.sl (l.Names.map eS), .sl (l.Below.map (eA2 eI))]], .cells 0 1 (e_7.map eB)]⟩) (fun _ => some 0) ?_ ?_
  intro i8 b8 hi8
  obtain rfl := Option.some.inj hi8
  obtain ⟨⟩ := b8
  dsimp only at h ⊢
  refine by_ h F fun x_22 h hx_22 F => ?_
  cases h; exact fin
  intro af8 m8 s8 a8 o8 hf8 ho8 ih8
  obtain ⟨above_5, more_6⟩ := s8
  obtain ⟨⟩ := a8
  dsimp only [lazarettoref01_Leq_L1] at hf8 ⊢
  refine fv hf8 F ?_ ?_ <;> intro hf8 _ F
  refine bi hf8 fun e_12 hf8 he_12 => ?_
  refine tt ?_
  refine lX he_12 (fun | (above_9, more_10, i_11), _ => ⟨[(2, .one (.int .i64 b)), (3, .one (.ref 0 0 0 0)), (7, .one (.msl 1 0 0 above_9.length)), (8, .one (.bool more_10)), (9, .one (.int .i64 (i_11 : Int)))], [.cells 0 2 [[.sl (l.Names.map eS), .sl (l.Below.map (eA2 eI))]], .cells 0 1 (above_9.map eB)]⟩) (fun | (above_19, more_20), _ => ⟨[(2, .one (.int .i64 b)), (3, .one (.ref 0 0 0 0)), (7, .one (.msl 1 0 0 above_19.length)), (8, .one (.bool more_20))], [.cells 0 2 [[.sl (l.Names.map eS), .sl (l.Below.map (eA2 eI))]], .cells 0 1 (above_19.map eB)]⟩) (fun _ => some 2) ?_ ?_
  intro i13 b13 hi13
  obtain rfl := Option.some.inj hi13
  obtain ⟨above_19, more_20⟩ := e_12
  obtain ⟨⟩ := b13
  dsimp only at hf8 ⊢
  cases hf8
  refine tt ?_
  exact bk ih8 ho8 ()
  intro af13 m13 s13 a13 o13 hf13 ho13 ih13
  obtain ⟨above_9, more_10, i_11⟩ := s13
  obtain ⟨⟩ := a13
  dsimp only [lazarettoref01_Leq_L2] at hf13 ⊢
  refine tr ?_
  intros
  refine fl hf13 F ?_ ?_ <;> intro hf13 _ F
  refine bx hf13 F fun x_14 hf13 hx_14 F => ?_
  refine bi hf13 fun r_15 hf13 hr_15 => ?_
  refine tr ?_
  intros
  refine cS (lazarettoref01_Is_ok hr_15) ?_
  refine fv hf13 F ?_ ?_ <;> intro hf13 _ F
  refine bi hf13 fun r_16 hf13 hr_16 => ?_
  refine tr ?_
  intros
  refine cS (lazarettoref01_Is_ok hr_16) ?_
  refine fv hf13 F ?_ ?_ <;> intro hf13 _ F
  refine by_ hf13 F fun x_17 hf13 hx_17 F => ?_
  refine tr ?_
  intros
  refine fv hf13 F ?_ ?_ <;> intro hf13 _ F
  refine by_ hf13 F fun x_18 hf13 hx_18 F => ?_
  refine tr ?_
  intros
  refine fv hf13 F ?_ ?_ <;> intro hf13 _ F
  cases hf13
  refine tt ?_
  refine wn i_11 F fun F => ?_
  exact bk ih13 ho13 ()
  have R := And.intro (show (List.map eB above_9).set x_14.a1.toNat [.bool true] = List.map eB (above_9.set x_14.a1.toNat true) by simp [go_sem, List.map_set]) R
  cases hf13
  refine tr ?_
  intros
  refine wn i_11 F fun F => ?_
  exact bk ih13 ho13 ()
  cases hf13
  refine tt ?_
  refine wn i_11 F fun F => ?_
  exact bk ih13 ho13 ()
  cases hf13
  refine tt ?_
  refine wn i_11 F fun F => ?_
  exact bk ih13 ho13 ()
  cases hf13
  refine tt ?_
  refine wn i_11 F fun F => ?_
  exact bk ih13 ho13 ()
  cases hf13
  refine tt ?_
  exact xt ho13 af13 ()
  cases hf8
  refine tt ?_
  exact xt ho8 af8 ()
  cases h; exact fin
  cases h; exact fin
theorem lazarettoref01_Join_ok {l : api_Lattice} {a : Int} {b : Int} {r : Int} (h : lazarettoref01_Join l a b = some r) :
    Pu Tryz.prog 89 [.agg (e_api_Lattice l), .one (.int .i64 a), .one (.int .i64 b)] (.one (.int .i64 r)) := by
  have F := trivial; have R := trivial
  refine pA Tryz.func89 ?_
  simp only [Tryz.f89]
  unfold lazarettoref01_Join at h
  refine bi h fun e_2 h he_2 => ?_
  refine tt ?_
  refine lX he_2 (fun | c_1, _ => ⟨[(1, .one (.int .i64 a)), (2, .one (.int .i64 b)), (3, .one (.ref 0 0 0 0)), (7, .one (.int .i64 (c_1 : Int)))], [.cells 0 2 [[.sl (l.Names.map eS), .sl (l.Below.map (eA2 eI))]]]⟩) (fun | (.inl e_22), _ => ⟨[], []⟩ | (.inr ()), _ => ⟨[], [.cells 0 2 [[.sl (l.Names.map eS), .sl (l.Below.map (eA2 eI))]]]⟩) (fun | (.inl _) => none | (.inr _) => some 0) ?_ ?_
  intro i3 b3 hi3
  rcases e_2 with e_case | ⟨⟩
  cases hi3
  obtain rfl := Option.some.inj hi3
  obtain ⟨⟩ := b3
  dsimp only at h ⊢
  cases h; exact fin
  intro af3 m3 c_1 a3 o3 hf3 ho3 ih3
  obtain ⟨⟩ := a3
  dsimp only [lazarettoref01_Join_L1] at hf3 ⊢
  refine tr ?_
  intros
  refine fl hf3 F ?_ ?_ <;> intro hf3 _ F
  refine bi hf3 fun r_4 hf3 hr_4 => ?_
  refine tr ?_
  intros
  refine cS (lazarettoref01_Leq_ok hr_4) ?_
  refine fv hf3 F ?_ ?_ <;> intro hf3 _ F
  refine bi hf3 fun r_5 hf3 hr_5 => ?_
  refine tr ?_
  intros
  refine cS (lazarettoref01_Leq_ok hr_5) ?_
  refine bi hf3 fun e_8 hf3 he_8 => ?_
  refine tt ?_
  refine lX he_8 (fun | (ok_6, d_7), _ => ⟨[(1, .one (.int .i64 a)), (2, .one (.int .i64 b)), (3, .one (.ref 0 0 0 0)), (7, .one (.int .i64 (c_1 : Int))), (8, .one (.bool ok_6)), (9, .one (.int .i64 (d_7 : Int)))], [.cells 0 2 [[.sl (l.Names.map eS), .sl (l.Below.map (eA2 eI))]]]⟩) (fun | e_8, _ => ⟨[(1, .one (.int .i64 a)), (2, .one (.int .i64 b)), (3, .one (.ref 0 0 0 0)), (7, .one (.int .i64 (c_1 : Int))), (8, .one (.bool e_8))], [.cells 0 2 [[.sl (l.Names.map eS), .sl (l.Below.map (eA2 eI))]]]⟩) (fun _ => some 2) ?_ ?_
  intro i9 b9 hi9
  obtain rfl := Option.some.inj hi9
  obtain ⟨⟩ := b9
  dsimp only at hf3 ⊢
  refine fv hf3 F ?_ ?_ <;> intro hf3 _ F
  cases hf3
  obtain rfl := sr ho3
  try dsimp only at h
  cases h
  exact fin
  cases hf3
  refine tt ?_
  refine wn c_1 F fun F => ?_
  exact bk ih3 ho3 ()
  intro af9 m9 s9 a9 o9 hf9 ho9 ih9
  obtain ⟨ok_6, d_7⟩ := s9
  obtain ⟨⟩ := a9
  dsimp only [lazarettoref01_Join_L2] at hf9 ⊢
  refine tr ?_
  intros
  refine fl hf9 F ?_ ?_ <;> intro hf9 _ F
  refine fv hf9 F ?_ ?_ <;> intro hf9 _ F
  refine bi hf9 fun r_10 hf9 hr_10 => ?_
  refine tr ?_
  intros
  refine cS (lazarettoref01_Leq_ok hr_10) ?_
  refine fv hf9 F ?_ ?_ <;> intro hf9 _ F
  refine bi hf9 fun r_11 hf9 hr_11 => ?_
  refine tr ?_
  intros
  refine cS (lazarettoref01_Leq_ok hr_11) ?_
  refine fv hf9 F ?_ ?_ <;> intro hf9 _ F
  refine bi hf9 fun r_12 hf9 hr_12 => ?_
  refine tr ?_
  intros
  refine cS (lazarettoref01_Leq_ok hr_12) ?_
  cases hf9
  refine tt ?_
  refine wn d_7 F fun F => ?_
  exact bk ih9 ho9 ()
  cases hf9
  refine tt ?_
  refine wn d_7 F fun F => ?_
  exact bk ih9 ho9 ()
  cases hf9
  refine tt ?_
  refine wn d_7 F fun F => ?_
  exact bk ih9 ho9 ()
  cases hf9
  refine tt ?_
  exact xt ho9 af9 ()
  cases hf9
  refine tt ?_
  exact xt ho9 af9 ()
  refine bi hf3 fun e_16 hf3 he_16 => ?_
  refine tt ?_
  refine lX he_16 (fun | (ok_14, d_15), _ => ⟨[(1, .one (.int .i64 a)), (2, .one (.int .i64 b)), (3, .one (.ref 0 0 0 0)), (7, .one (.int .i64 (c_1 : Int))), (8, .one (.bool ok_14)), (9, .one (.int .i64 (d_15 : Int)))], [.cells 0 2 [[.sl (l.Names.map eS), .sl (l.Below.map (eA2 eI))]]]⟩) (fun | e_16, _ => ⟨[(1, .one (.int .i64 a)), (2, .one (.int .i64 b)), (3, .one (.ref 0 0 0 0)), (7, .one (.int .i64 (c_1 : Int))), (8, .one (.bool e_16))], [.cells 0 2 [[.sl (l.Names.map eS), .sl (l.Below.map (eA2 eI))]]]⟩) (fun _ => some 2) ?_ ?_
  intro i17 b17 hi17
  obtain rfl := Option.some.inj hi17
  obtain ⟨⟩ := b17
  dsimp only at hf3 ⊢
  refine fv hf3 F ?_ ?_ <;> intro hf3 _ F
  cases hf3
  obtain rfl := sr ho3
  try dsimp only at h
  cases h
  exact fin
  cases hf3
  refine tt ?_
  refine wn c_1 F fun F => ?_
  exact bk ih3 ho3 ()
  intro af17 m17 s17 a17 o17 hf17 ho17 ih17
  obtain ⟨ok_14, d_15⟩ := s17
  obtain ⟨⟩ := a17
  dsimp only [lazarettoref01_Join_L3] at hf17 ⊢
  refine tr ?_
  intros
  refine fl hf17 F ?_ ?_ <;> intro hf17 _ F
  refine fv hf17 F ?_ ?_ <;> intro hf17 _ F
  refine bi hf17 fun r_18 hf17 hr_18 => ?_
  refine tr ?_
  intros
  refine cS (lazarettoref01_Leq_ok hr_18) ?_
  refine fv hf17 F ?_ ?_ <;> intro hf17 _ F
  refine bi hf17 fun r_19 hf17 hr_19 => ?_
  refine tr ?_
  intros
  refine cS (lazarettoref01_Leq_ok hr_19) ?_
  refine fv hf17 F ?_ ?_ <;> intro hf17 _ F
  refine bi hf17 fun r_20 hf17 hr_20 => ?_
  refine tr ?_
  intros
  refine cS (lazarettoref01_Leq_ok hr_20) ?_
  cases hf17
  refine tt ?_
  refine wn d_15 F fun F => ?_
  exact bk ih17 ho17 ()
  cases hf17
  refine tt ?_
  refine wn d_15 F fun F => ?_
  exact bk ih17 ho17 ()
  cases hf17
  refine tt ?_
  refine wn d_15 F fun F => ?_
  exact bk ih17 ho17 ()
  cases hf17
  refine tt ?_
  exact xt ho17 af17 ()
  cases hf17
  refine tt ?_
  exact xt ho17 af17 ()
  cases hf3
  refine tt ?_
  exact xt ho3 af3 ()
theorem lazarettoref01_Meet_ok {l : api_Lattice} {a : Int} {b : Int} {r : Int} (h : lazarettoref01_Meet l a b = some r) :
    Pu Tryz.prog 112 [.agg (e_api_Lattice l), .one (.int .i64 a), .one (.int .i64 b)] (.one (.int .i64 r)) := by
  have F := trivial; have R := trivial
  refine pA Tryz.func112 ?_
  simp only [Tryz.f112]
  unfold lazarettoref01_Meet at h
  refine bi h fun e_2 h he_2 => ?_
  refine tt ?_
  refine lX he_2 (fun | c_1, _ => ⟨[(1, .one (.int .i64 a)), (2, .one (.int .i64 b)), (3, .one (.ref 0 0 0 0)), (7, .one (.int .i64 (c_1 : Int)))], [.cells 0 2 [[.sl (l.Names.map eS), .sl (l.Below.map (eA2 eI))]]]⟩) (fun | (.inl e_22), _ => ⟨[], []⟩ | (.inr ()), _ => ⟨[], [.cells 0 2 [[.sl (l.Names.map eS), .sl (l.Below.map (eA2 eI))]]]⟩) (fun | (.inl _) => none | (.inr _) => some 0) ?_ ?_
  intro i3 b3 hi3
  rcases e_2 with e_case | ⟨⟩
  cases hi3
  obtain rfl := Option.some.inj hi3
  obtain ⟨⟩ := b3
  dsimp only at h ⊢
  cases h; exact fin
  intro af3 m3 c_1 a3 o3 hf3 ho3 ih3
  obtain ⟨⟩ := a3
  dsimp only [lazarettoref01_Meet_L1] at hf3 ⊢
  refine tr ?_
  intros
  refine fl hf3 F ?_ ?_ <;> intro hf3 _ F
  refine bi hf3 fun r_4 hf3 hr_4 => ?_
  refine tr ?_
  intros
  refine cS (lazarettoref01_Leq_ok hr_4) ?_
  refine fv hf3 F ?_ ?_ <;> intro hf3 _ F
  refine bi hf3 fun r_5 hf3 hr_5 => ?_
  refine tr ?_
  intros
  refine cS (lazarettoref01_Leq_ok hr_5) ?_
  refine bi hf3 fun e_8 hf3 he_8 => ?_
  refine tt ?_
  refine lX he_8 (fun | (ok_6, d_7), _ => ⟨[(1, .one (.int .i64 a)), (2, .one (.int .i64 b)), (3, .one (.ref 0 0 0 0)), (7, .one (.int .i64 (c_1 : Int))), (8, .one (.bool ok_6)), (9, .one (.int .i64 (d_7 : Int)))], [.cells 0 2 [[.sl (l.Names.map eS), .sl (l.Below.map (eA2 eI))]]]⟩) (fun | e_8, _ => ⟨[(1, .one (.int .i64 a)), (2, .one (.int .i64 b)), (3, .one (.ref 0 0 0 0)), (7, .one (.int .i64 (c_1 : Int))), (8, .one (.bool e_8))], [.cells 0 2 [[.sl (l.Names.map eS), .sl (l.Below.map (eA2 eI))]]]⟩) (fun _ => some 2) ?_ ?_
  intro i9 b9 hi9
  obtain rfl := Option.some.inj hi9
  obtain ⟨⟩ := b9
  dsimp only at hf3 ⊢
  refine fv hf3 F ?_ ?_ <;> intro hf3 _ F
  cases hf3
  obtain rfl := sr ho3
  try dsimp only at h
  cases h
  exact fin
  cases hf3
  refine tt ?_
  refine wn c_1 F fun F => ?_
  exact bk ih3 ho3 ()
  intro af9 m9 s9 a9 o9 hf9 ho9 ih9
  obtain ⟨ok_6, d_7⟩ := s9
  obtain ⟨⟩ := a9
  dsimp only [lazarettoref01_Meet_L2] at hf9 ⊢
  refine tr ?_
  intros
  refine fl hf9 F ?_ ?_ <;> intro hf9 _ F
  refine fv hf9 F ?_ ?_ <;> intro hf9 _ F
  refine bi hf9 fun r_10 hf9 hr_10 => ?_
  refine tr ?_
  intros
  refine cS (lazarettoref01_Leq_ok hr_10) ?_
  refine fv hf9 F ?_ ?_ <;> intro hf9 _ F
  refine bi hf9 fun r_11 hf9 hr_11 => ?_
  refine tr ?_
  intros
  refine cS (lazarettoref01_Leq_ok hr_11) ?_
  refine fv hf9 F ?_ ?_ <;> intro hf9 _ F
  refine bi hf9 fun r_12 hf9 hr_12 => ?_
  refine tr ?_
  intros
  refine cS (lazarettoref01_Leq_ok hr_12) ?_
  cases hf9
  refine tt ?_
  refine wn d_7 F fun F => ?_
  exact bk ih9 ho9 ()
  cases hf9
  refine tt ?_
  refine wn d_7 F fun F => ?_
  exact bk ih9 ho9 ()
  cases hf9
  refine tt ?_
  refine wn d_7 F fun F => ?_
  exact bk ih9 ho9 ()
  cases hf9
  refine tt ?_
  exact xt ho9 af9 ()
  cases hf9
  refine tt ?_
  exact xt ho9 af9 ()
  refine bi hf3 fun e_16 hf3 he_16 => ?_
  refine tt ?_
  refine lX he_16 (fun | (ok_14, d_15), _ => ⟨[(1, .one (.int .i64 a)), (2, .one (.int .i64 b)), (3, .one (.ref 0 0 0 0)), (7, .one (.int .i64 (c_1 : Int))), (8, .one (.bool ok_14)), (9, .one (.int .i64 (d_15 : Int)))], [.cells 0 2 [[.sl (l.Names.map eS), .sl (l.Below.map (eA2 eI))]]]⟩) (fun | e_16, _ => ⟨[(1, .one (.int .i64 a)), (2, .one (.int .i64 b)), (3, .one (.ref 0 0 0 0)), (7, .one (.int .i64 (c_1 : Int))), (8, .one (.bool e_16))], [.cells 0 2 [[.sl (l.Names.map eS), .sl (l.Below.map (eA2 eI))]]]⟩) (fun _ => some 2) ?_ ?_
  intro i17 b17 hi17
  obtain rfl := Option.some.inj hi17
  obtain ⟨⟩ := b17
  dsimp only at hf3 ⊢
  refine fv hf3 F ?_ ?_ <;> intro hf3 _ F
  cases hf3
  obtain rfl := sr ho3
  try dsimp only at h
  cases h
  exact fin
  cases hf3
  refine tt ?_
  refine wn c_1 F fun F => ?_
  exact bk ih3 ho3 ()
  intro af17 m17 s17 a17 o17 hf17 ho17 ih17
  obtain ⟨ok_14, d_15⟩ := s17
  obtain ⟨⟩ := a17
  dsimp only [lazarettoref01_Meet_L3] at hf17 ⊢
  refine tr ?_
  intros
  refine fl hf17 F ?_ ?_ <;> intro hf17 _ F
  refine fv hf17 F ?_ ?_ <;> intro hf17 _ F
  refine bi hf17 fun r_18 hf17 hr_18 => ?_
  refine tr ?_
  intros
  refine cS (lazarettoref01_Leq_ok hr_18) ?_
  refine fv hf17 F ?_ ?_ <;> intro hf17 _ F
  refine bi hf17 fun r_19 hf17 hr_19 => ?_
  refine tr ?_
  intros
  refine cS (lazarettoref01_Leq_ok hr_19) ?_
  refine fv hf17 F ?_ ?_ <;> intro hf17 _ F
  refine bi hf17 fun r_20 hf17 hr_20 => ?_
  refine tr ?_
  intros
  refine cS (lazarettoref01_Leq_ok hr_20) ?_
  cases hf17
  refine tt ?_
  refine wn d_15 F fun F => ?_
  exact bk ih17 ho17 ()
  cases hf17
  refine tt ?_
  refine wn d_15 F fun F => ?_
  exact bk ih17 ho17 ()
  cases hf17
  refine tt ?_
  refine wn d_15 F fun F => ?_
  exact bk ih17 ho17 ()
  cases hf17
  refine tt ?_
  exact xt ho17 af17 ()
  cases hf17
  refine tt ?_
  exact xt ho17 af17 ()
  cases hf3
  refine tt ?_
  exact xt ho3 af3 ()
theorem lazarettoref01_Check_ok {l : api_Lattice} {r : Int} (h : lazarettoref01_Check l = some r) :
    Pu Tryz.prog 78 [.agg (e_api_Lattice l)] (.one (.int .i64 r)) := by
  have F := trivial; have R := trivial
  refine pA Tryz.func78 ?_
  simp only [Tryz.f78]
  unfold lazarettoref01_Check at h
  refine tr ?_
  intros
  refine fi h F ?_ ?_ <;> intro h _ F
  cases h; exact fin
  refine fi h F ?_ ?_ <;> intro h _ F
  cases h; exact fin
  refine bi h fun e_2 h he_2 => ?_
  refine tt ?_
  refine lX he_2 (fun | i_1, _ => ⟨[(1, .one (.ref 0 0 0 0)), (3, .one (.int .i64 (l.Names.length : Int))), (4, .one (.int .i64 (i_1 : Int)))], [.cells 0 2 [[.sl (l.Names.map eS), .sl (l.Below.map (eA2 eI))]]]⟩) (fun | (.inl e_7), _ => ⟨[], []⟩ | (.inr ()), _ => ⟨[(1, .one (.ref 0 0 0 0)), (3, .one (.int .i64 (l.Names.length : Int)))], [.cells 0 2 [[.sl (l.Names.map eS), .sl (l.Below.map (eA2 eI))]]]⟩) (fun | (.inl _) => none | (.inr _) => some 0) ?_ ?_
  intro i3 b3 hi3
  rcases e_2 with e_case | ⟨⟩
  cases hi3
  obtain rfl := Option.some.inj hi3
  obtain ⟨⟩ := b3
  dsimp only at h ⊢
  refine bi h fun e_9 h he_9 => ?_
  refine tt ?_
  refine lX he_9 (fun | a_8, _ => ⟨[(1, .one (.ref 0 0 0 0)), (3, .one (.int .i64 (l.Names.length : Int))), (5, .one (.int .i64 (a_8 : Int)))], [.cells 0 2 [[.sl (l.Names.map eS), .sl (l.Below.map (eA2 eI))]]]⟩) (fun | (.inl e_23), _ => ⟨[], []⟩ | (.inr ()), _ => ⟨[], [.cells 0 2 [[.sl (l.Names.map eS), .sl (l.Below.map (eA2 eI))]]]⟩) (fun | (.inl _) => none | (.inr _) => some 2) ?_ ?_
  intro i10 b10 hi10
  rcases e_9 with e_case | ⟨⟩
  cases hi10
  obtain rfl := Option.some.inj hi10
  obtain ⟨⟩ := b10
  dsimp only at h ⊢
  cases h; exact fin
  intro af10 m10 a_8 a10 o10 hf10 ho10 ih10
  obtain ⟨⟩ := a10
  dsimp only [lazarettoref01_Check_L2] at hf10 ⊢
  refine fl hf10 F ?_ ?_ <;> intro hf10 _ F
  refine bx hf10 F fun x_11 hf10 hx_11 F => ?_
  refine tr ?_
  intros
  refine fi hf10 F ?_ ?_ <;> intro hf10 _ F
  cases hf10
  obtain rfl := sr ho10
  try dsimp only at h
  cases h
  exact fin
  refine bi hf10 fun e_13 hf10 he_13 => ?_
  refine tt ?_
  refine lX he_13 (fun | b_12, _ => ⟨[(1, .one (.ref 0 0 0 0)), (3, .one (.int .i64 (l.Names.length : Int))), (5, .one (.int .i64 (a_8 : Int))), (6, .one (.int .i64 (b_12 : Int)))], [.cells 0 2 [[.sl (l.Names.map eS), .sl (l.Below.map (eA2 eI))]]]⟩) (fun | (.inl e_22), _ => ⟨[], []⟩ | (.inr ()), _ => ⟨[(1, .one (.ref 0 0 0 0)), (3, .one (.int .i64 (l.Names.length : Int))), (5, .one (.int .i64 (a_8 : Int)))], [.cells 0 2 [[.sl (l.Names.map eS), .sl (l.Below.map (eA2 eI))]]]⟩) (fun | (.inl _) => none | (.inr _) => some 4) ?_ ?_
  intro i14 b14 hi14
  rcases e_13 with e_case | ⟨⟩
  cases hi14
  obtain rfl := Option.some.inj hi14
  obtain ⟨⟩ := b14
  dsimp only at hf10 ⊢
  cases hf10
  refine tt ?_
  refine wn a_8 F fun F => ?_
  exact bk ih10 ho10 ()
  intro af14 m14 b_12 a14 o14 hf14 ho14 ih14
  obtain ⟨⟩ := a14
  dsimp only [lazarettoref01_Check_L3] at hf14 ⊢
  refine fl hf14 F ?_ ?_ <;> intro hf14 _ F
  refine bx hf14 F fun x_15 hf14 hx_15 F => ?_
  refine tr ?_
  intros
  refine fi hf14 F ?_ ?_ <;> intro hf14 _ F
  cases hf14
  obtain rfl := sr ho14
  try dsimp only at hf10
  cases hf10
  obtain rfl := sr ho10
  try dsimp only at h
  cases h
  exact fin
  refine bi hf14 fun r_16 hf14 hr_16 => ?_
  refine tr ?_
  intros
  refine cD (lazarettoref01_Leq_ok hr_16) ?_
  refine tr ?_
  intros
  refine fv hf14 F ?_ ?_ <;> intro hf14 _ F
  refine bi hf14 fun r_17 hf14 hr_17 => ?_
  refine tr ?_
  intros
  refine cD (lazarettoref01_Leq_ok hr_17) ?_
  refine tr ?_
  intros
  refine fv hf14 F ?_ ?_ <;> intro hf14 _ F
  cases hf14
  obtain rfl := sr ho14
  try dsimp only at hf10
  cases hf10
  obtain rfl := sr ho10
  try dsimp only at h
  cases h
  exact fin
  refine bi hf14 fun r_18 hf14 hr_18 => ?_
  refine tr ?_
  intros
  refine cD (lazarettoref01_Join_ok hr_18) ?_
  refine tr ?_
  intros
  refine fi hf14 F ?_ ?_ <;> intro hf14 _ F
  cases hf14
  obtain rfl := sr ho14
  try dsimp only at hf10
  cases hf10
  obtain rfl := sr ho10
  try dsimp only at h
  cases h
  exact fin
  refine bi hf14 fun r_19 hf14 hr_19 => ?_
  refine tr ?_
  intros
  refine cD (lazarettoref01_Meet_ok hr_19) ?_
  refine tr ?_
  intros
  refine fi hf14 F ?_ ?_ <;> intro hf14 _ F
  cases hf14
  obtain rfl := sr ho14
  try dsimp only at hf10
  cases hf10
  obtain rfl := sr ho10
  try dsimp only at h
  cases h
  exact fin
  cases hf14
  refine tt ?_
  refine wn b_12 F fun F => ?_
  exact bk ih14 ho14 ()
  refine bi hf14 fun r_20 hf14 hr_20 => ?_
  refine tr ?_
  intros
  refine cD (lazarettoref01_Join_ok hr_20) ?_
  refine tr ?_
  intros
  refine fi hf14 F ?_ ?_ <;> intro hf14 _ F
  cases hf14
  obtain rfl := sr ho14
  try dsimp only at hf10
  cases hf10
  obtain rfl := sr ho10
  try dsimp only at h
  cases h
  exact fin
  refine bi hf14 fun r_21 hf14 hr_21 => ?_
  refine tr ?_
  intros
  refine cD (lazarettoref01_Meet_ok hr_21) ?_
  refine tr ?_
  intros
  refine fi hf14 F ?_ ?_ <;> intro hf14 _ F
  cases hf14
  obtain rfl := sr ho14
  try dsimp only at hf10
  cases hf10
  obtain rfl := sr ho10
  try dsimp only at h
  cases h
  exact fin
  cases hf14
  refine tt ?_
  refine wn b_12 F fun F => ?_
  exact bk ih14 ho14 ()
  cases hf14
  refine tt ?_
  exact xt ho14 af14 ()
  cases hf10
  refine tt ?_
  exact xt ho10 af10 ()
  intro af3 m3 i_1 a3 o3 hf3 ho3 ih3
  obtain ⟨⟩ := a3
  dsimp only [lazarettoref01_Check_L1] at hf3 ⊢
  refine tr ?_
  intros
  refine fl hf3 F ?_ ?_ <;> intro hf3 _ F
  refine bx hf3 F fun x_4 hf3 hx_4 F => ?_
  refine bi hf3 fun r_5 hf3 hr_5 => ?_
  refine tr ?_
  intros
  refine cD (lazarettoref01_Is_ok hr_5) ?_
  refine tr ?_
  intros
  refine fv hf3 F ?_ ?_ <;> intro hf3 _ F
  refine bi hf3 fun r_6 hf3 hr_6 => ?_
  refine tr ?_
  intros
  refine cD (lazarettoref01_Is_ok hr_6) ?_
  refine tr ?_
  intros
  refine fv hf3 F ?_ ?_ <;> intro hf3 _ F
  cases hf3
  refine tt ?_
  refine wn i_1 F fun F => ?_
  exact bk ih3 ho3 ()
  cases hf3
  obtain rfl := sr ho3
  try dsimp only at h
  cases h
  exact fin
  cases hf3
  obtain rfl := sr ho3
  try dsimp only at h
  cases h
  exact fin
  cases hf3
  refine tt ?_
  exact xt ho3 af3 ()
theorem lazarettoref10_Var_ok {p : api_Program} {name : Str} {r : Int} (h : lazarettoref10_Var p name = some r) :
    Pu Tryz.prog 44 [.agg (e_api_Program p), .one (.str name)] (.one (.int .i64 r)) := by
  have F := trivial; have R := trivial
  refine pA Tryz.func44 ?_
  simp only [Tryz.f44]
  unfold lazarettoref10_Var at h
  refine bi h fun e_2 h he_2 => ?_
  refine tt ?_
  refine lX he_2 (fun | i_1, _ => ⟨[(1, .one (.str name)), (2, .one (.ref 0 0 0 0)), (5, .one (.int .i64 (i_1 : Int)))], [.cells 0 6 [[.sl (p.Lattice.Names.map eS), .sl (p.Lattice.Below.map (eA2 eI)), .sl (p.Sites.map e_api_Site), .sl (p.Vars.map e_api_Var), .sl (p.Blocks.map e_api_Block), .sl (p.Tasks.map e_api_Task)]]]⟩) (fun | (.inl e_5), _ => ⟨[], []⟩ | (.inr ()), _ => ⟨[], [.cells 0 6 [[.sl (p.Lattice.Names.map eS), .sl (p.Lattice.Below.map (eA2 eI)), .sl (p.Sites.map e_api_Site), .sl (p.Vars.map e_api_Var), .sl (p.Blocks.map e_api_Block), .sl (p.Tasks.map e_api_Task)]]]⟩) (fun | (.inl _) => none | (.inr _) => some 0) ?_ ?_
  intro i3 b3 hi3
  rcases e_2 with e_case | ⟨⟩
  cases hi3
  obtain rfl := Option.some.inj hi3
  obtain ⟨⟩ := b3
  dsimp only at h ⊢
  cases h; exact fin
  intro af3 m3 i_1 a3 o3 hf3 ho3 ih3
  obtain ⟨⟩ := a3
  dsimp only [lazarettoref10_Var_L1] at hf3 ⊢
  refine tr ?_
  intros
  refine fl hf3 F ?_ ?_ <;> intro hf3 _ F
  refine bx hf3 F fun x_4 hf3 hx_4 F => ?_
  refine tr ?_
  intros
  refine fi hf3 F ?_ ?_ <;> intro hf3 _ F
  cases hf3
  obtain rfl := sr ho3
  try dsimp only at h
  cases h
  exact fin
  cases hf3
  refine tt ?_
  refine wn i_1 F fun F => ?_
  exact bk ih3 ho3 ()
  cases hf3
  refine tt ?_
  exact xt ho3 af3 ()
theorem lazarettoref10_Block_ok {p : api_Program} {name : Str} {r : Int} (h : lazarettoref10_Block p name = some r) :
    Pu Tryz.prog 45 [.agg (e_api_Program p), .one (.str name)] (.one (.int .i64 r)) := by
  have F := trivial; have R := trivial
  refine pA Tryz.func45 ?_
  simp only [Tryz.f45]
  unfold lazarettoref10_Block at h
  refine bi h fun e_2 h he_2 => ?_
  refine tt ?_
  refine lX he_2 (fun | i_1, _ => ⟨[(1, .one (.str name)), (2, .one (.ref 0 0 0 0)), (5, .one (.int .i64 (i_1 : Int)))], [.cells 0 6 [[.sl (p.Lattice.Names.map eS), .sl (p.Lattice.Below.map (eA2 eI)), .sl (p.Sites.map e_api_Site), .sl (p.Vars.map e_api_Var), .sl (p.Blocks.map e_api_Block), .sl (p.Tasks.map e_api_Task)]]]⟩) (fun | (.inl e_5), _ => ⟨[], []⟩ | (.inr ()), _ => ⟨[], [.cells 0 6 [[.sl (p.Lattice.Names.map eS), .sl (p.Lattice.Below.map (eA2 eI)), .sl (p.Sites.map e_api_Site), .sl (p.Vars.map e_api_Var), .sl (p.Blocks.map e_api_Block), .sl (p.Tasks.map e_api_Task)]]]⟩) (fun | (.inl _) => none | (.inr _) => some 0) ?_ ?_
  intro i3 b3 hi3
  rcases e_2 with e_case | ⟨⟩
  cases hi3
  obtain rfl := Option.some.inj hi3
  obtain ⟨⟩ := b3
  dsimp only at h ⊢
  cases h; exact fin
  intro af3 m3 i_1 a3 o3 hf3 ho3 ih3
  obtain ⟨⟩ := a3
  dsimp only [lazarettoref10_Block_L1] at hf3 ⊢
  refine tr ?_
  intros
  refine fl hf3 F ?_ ?_ <;> intro hf3 _ F
  refine bx hf3 F fun x_4 hf3 hx_4 F => ?_
  refine tr ?_
  intros
  refine fi hf3 F ?_ ?_ <;> intro hf3 _ F
  cases hf3
  obtain rfl := sr ho3
  try dsimp only at h
  cases h
  exact fin
  cases hf3
  refine tt ?_
  refine wn i_1 F fun F => ?_
  exact bk ih3 ho3 ()
  cases hf3
  refine tt ?_
  exact xt ho3 af3 ()
theorem lazarettoref10_Site_ok {p : api_Program} {name : Str} {r : Int} (h : lazarettoref10_Site p name = some r) :
    Pu Tryz.prog 47 [.agg (e_api_Program p), .one (.str name)] (.one (.int .i64 r)) := by
  have F := trivial; have R := trivial
  refine pA Tryz.func47 ?_
  simp only [Tryz.f47]
  unfold lazarettoref10_Site at h
  refine bi h fun e_2 h he_2 => ?_
  refine tt ?_
  refine lX he_2 (fun | i_1, _ => ⟨[(1, .one (.str name)), (2, .one (.ref 0 0 0 0)), (5, .one (.int .i64 (i_1 : Int)))], [.cells 0 6 [[.sl (p.Lattice.Names.map eS), .sl (p.Lattice.Below.map (eA2 eI)), .sl (p.Sites.map e_api_Site), .sl (p.Vars.map e_api_Var), .sl (p.Blocks.map e_api_Block), .sl (p.Tasks.map e_api_Task)]]]⟩) (fun | (.inl e_5), _ => ⟨[], []⟩ | (.inr ()), _ => ⟨[], [.cells 0 6 [[.sl (p.Lattice.Names.map eS), .sl (p.Lattice.Below.map (eA2 eI)), .sl (p.Sites.map e_api_Site), .sl (p.Vars.map e_api_Var), .sl (p.Blocks.map e_api_Block), .sl (p.Tasks.map e_api_Task)]]]⟩) (fun | (.inl _) => none | (.inr _) => some 0) ?_ ?_
  intro i3 b3 hi3
  rcases e_2 with e_case | ⟨⟩
  cases hi3
  obtain rfl := Option.some.inj hi3
  obtain ⟨⟩ := b3
  dsimp only at h ⊢
  cases h; exact fin
  intro af3 m3 i_1 a3 o3 hf3 ho3 ih3
  obtain ⟨⟩ := a3
  dsimp only [lazarettoref10_Site_L1] at hf3 ⊢
  refine tr ?_
  intros
  refine fl hf3 F ?_ ?_ <;> intro hf3 _ F
  refine bx hf3 F fun x_4 hf3 hx_4 F => ?_
  refine tr ?_
  intros
  refine fi hf3 F ?_ ?_ <;> intro hf3 _ F
  cases hf3
  obtain rfl := sr ho3
  try dsimp only at h
  cases h
  exact fin
  cases hf3
  refine tt ?_
  refine wn i_1 F fun F => ?_
  exact bk ih3 ho3 ()
  cases hf3
  refine tt ?_
  exact xt ho3 af3 ()
theorem lazarettoref10_term_b_ok {lazarettoref10_term_r : api_Program → api_Expr → Option Bool} {lazarettoref10_terms_r : api_Program → (List api_Expr) → Option Bool} {p : api_Program} {e : api_Expr} {r : Bool}
    (lazarettoref10_term_r_ok : ∀ (x0 : api_Program) (x1 : api_Expr) (r : Bool), lazarettoref10_term_r x0 x1 = some r → Pu Tryz.prog 150 [.agg (e_api_Program x0), .agg (e_api_Expr x1)] (.one (.bool r)))
    (lazarettoref10_terms_r_ok : ∀ (x0 : api_Program) (x1 : List api_Expr) (r : Bool), lazarettoref10_terms_r x0 x1 = some r → Pu Tryz.prog 151 [.agg (e_api_Program x0), .one (.sl (x1.map e_api_Expr))] (.one (.bool r))) (h : lazarettoref10_term_b lazarettoref10_term_r lazarettoref10_terms_r p e = some r) :
    Pu Tryz.prog 150 [.agg (e_api_Program p), .agg (e_api_Expr e)] (.one (.bool r)) := by
  have F := trivial; have R := trivial
  refine pA Tryz.func150 ?_
  simp only [Tryz.f150]
  unfold lazarettoref10_term_b at h
  refine tt ?_
  refine fi h F ?_ ?_ <;> intro h _ F
  refine bi h fun r_1 h hr_1 => ?_
  refine tr ?_
  intros
  refine cS (lazarettoref10_Var_ok hr_1) ?_
  refine fi h F ?_ ?_ <;> intro h _ F
  cases h; exact fin
  refine bi h fun r_2 h hr_2 => ?_
  refine tr ?_
  intros
  refine cS (lazarettoref10_terms_r_ok _ _ _ hr_2) ?_
  cases h; exact fin
  refine fi h F ?_ ?_ <;> intro h _ F
  refine bi h fun r_3 h hr_3 => ?_
  refine tr ?_
  intros
  refine cS (lazarettoref10_Var_ok hr_3) ?_
  refine fi h F ?_ ?_ <;> intro h _ F
  cases h; exact fin
  refine bi h fun r_4 h hr_4 => ?_
  refine tr ?_
  intros
  refine cS (lazarettoref10_terms_r_ok _ _ _ hr_4) ?_
  cases h; exact fin
  refine fi h F ?_ ?_ <;> intro h _ F
  refine bi h fun r_5 h hr_5 => ?_
  refine tr ?_
  intros
  refine cS (lazarettoref10_Block_ok hr_5) ?_
  refine fi h F ?_ ?_ <;> intro h _ F
  cases h; exact fin
  refine bi h fun r_6 h hr_6 => ?_
  refine tr ?_
  intros
  refine cS (lazarettoref10_terms_r_ok _ _ _ hr_6) ?_
  cases h; exact fin
  refine fi h F ?_ ?_ <;> intro h _ F
  refine bi h fun r_7 h hr_7 => ?_
  refine tr ?_
  intros
  refine cS (lazarettoref10_Site_ok hr_7) ?_
  refine fi h F ?_ ?_ <;> intro h _ F
  cases h; exact fin
  refine bi h fun r_8 h hr_8 => ?_
  refine tr ?_
  intros
  refine cS (lazarettoref10_terms_r_ok _ _ _ hr_8) ?_
  cases h; exact fin
  refine bi h fun r_9 h hr_9 => ?_
  refine tr ?_
  intros
  refine cS (lazarettoref10_terms_r_ok _ _ _ hr_9) ?_
  cases h; exact fin
theorem lazarettoref10_terms_b_ok {lazarettoref10_term_r : api_Program → api_Expr → Option Bool} {lazarettoref10_terms_r : api_Program → (List api_Expr) → Option Bool} {p : api_Program} {l : List api_Expr} {r : Bool}
    (lazarettoref10_term_r_ok : ∀ (x0 : api_Program) (x1 : api_Expr) (r : Bool), lazarettoref10_term_r x0 x1 = some r → Pu Tryz.prog 150 [.agg (e_api_Program x0), .agg (e_api_Expr x1)] (.one (.bool r)))
    (lazarettoref10_terms_r_ok : ∀ (x0 : api_Program) (x1 : List api_Expr) (r : Bool), lazarettoref10_terms_r x0 x1 = some r → Pu Tryz.prog 151 [.agg (e_api_Program x0), .one (.sl (x1.map e_api_Expr))] (.one (.bool r))) (h : lazarettoref10_terms_b lazarettoref10_term_r lazarettoref10_terms_r p l = some r) :
    Pu Tryz.prog 151 [.agg (e_api_Program p), .one (.sl (l.map e_api_Expr))] (.one (.bool r)) := by
  have F := trivial; have R := trivial
  refine pA Tryz.func151 ?_
  simp only [Tryz.f151]
  unfold lazarettoref10_terms_b at h
  refine bi h fun e_2 h he_2 => ?_
  refine tt ?_
  refine lX he_2 (fun | i_1, _ => ⟨[(1, .one (.sl (l.map e_api_Expr))), (2, .one (.ref 0 0 0 0)), (5, .one (.int .i64 (i_1 : Int)))], [.cells 0 6 [[.sl (p.Lattice.Names.map eS), .sl (p.Lattice.Below.map (eA2 eI)), .sl (p.Sites.map e_api_Site), .sl (p.Vars.map e_api_Var), .sl (p.Blocks.map e_api_Block), .sl (p.Tasks.map e_api_Task)]]]⟩) (fun | (.inl e_6), _ => ⟨[], []⟩ | (.inr ()), _ => ⟨[], [.cells 0 6 [[.sl (p.Lattice.Names.map eS), .sl (p.Lattice.Below.map (eA2 eI)), .sl (p.Sites.map e_api_Site), .sl (p.Vars.map e_api_Var), .sl (p.Blocks.map e_api_Block), .sl (p.Tasks.map e_api_Task)]]]⟩) (fun | (.inl _) => none | (.inr _) => some 0) ?_ ?_
  intro i3 b3 hi3
  rcases e_2 with e_case | ⟨⟩
  cases hi3
  obtain rfl := Option.some.inj hi3
  obtain ⟨⟩ := b3
  dsimp only at h ⊢
  cases h; exact fin
  intro af3 m3 i_1 a3 o3 hf3 ho3 ih3
  obtain ⟨⟩ := a3
  dsimp only [lazarettoref10_terms_L1] at hf3 ⊢
  refine tr ?_
  intros
  refine fl hf3 F ?_ ?_ <;> intro hf3 _ F
  refine bx hf3 F fun x_4 hf3 hx_4 F => ?_
  refine bi hf3 fun r_5 hf3 hr_5 => ?_
  refine tr ?_
  intros
  refine cD (lazarettoref10_term_r_ok _ _ _ hr_5) ?_
  refine tr ?_
  intros
  refine fv hf3 F ?_ ?_ <;> intro hf3 _ F
  cases hf3
  refine tt ?_
  refine wn i_1 F fun F => ?_
  exact bk ih3 ho3 ()
  cases hf3
  obtain rfl := sr ho3
  try dsimp only at h
  cases h
  exact fin
  cases hf3
  refine tt ?_
  exact xt ho3 af3 ()
theorem lazarettoref10_term_g_ok (n : Nat) : (∀ (x0 : api_Program) (x1 : api_Expr) (r : Bool), (lazarettoref10_term_g n).1 x0 x1 = some r → Pu Tryz.prog 150 [.agg (e_api_Program x0), .agg (e_api_Expr x1)] (.one (.bool r))) ∧ (∀ (x0 : api_Program) (x1 : List api_Expr) (r : Bool), (lazarettoref10_term_g n).2 x0 x1 = some r → Pu Tryz.prog 151 [.agg (e_api_Program x0), .one (.sl (x1.map e_api_Expr))] (.one (.bool r))) := by
  induction n with
  | zero => exact ⟨fun _ _ r h => (by cases h), fun _ _ r h => (by cases h)⟩
  | succ n ih =>
    obtain ⟨ih0, ih1⟩ := ih
    exact ⟨fun _ _ r h => lazarettoref10_term_b_ok ih0 ih1 h, fun _ _ r h => lazarettoref10_terms_b_ok ih0 ih1 h⟩
theorem lazarettoref10_term_ok {p : api_Program} {e : api_Expr} {r : Bool} (h : lazarettoref10_term p e = some r) : Pu Tryz.prog 150 [.agg (e_api_Program p), .agg (e_api_Expr e)] (.one (.bool r)) := (lazarettoref10_term_g_ok 1000000).1 _ _ _ h
theorem lazarettoref10_terms_ok {p : api_Program} {l : List api_Expr} {r : Bool} (h : lazarettoref10_terms p l = some r) : Pu Tryz.prog 151 [.agg (e_api_Program p), .one (.sl (l.map e_api_Expr))] (.one (.bool r)) := (lazarettoref10_term_g_ok 1000000).2 _ _ _ h
end Go.Lz
end
