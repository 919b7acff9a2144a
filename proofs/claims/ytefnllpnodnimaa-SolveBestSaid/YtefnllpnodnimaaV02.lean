/- V02 -/
import Derived.Test.YtefnllpnodnimaaV01
namespace Go.Lz
set_option linter.unusedVariables false
set_option linter.unusedSimpArgs false
open Go.Proofs
attribute [-go_sem] q_cond g_b gd_b
set_option maxRecDepth 100000
set_option maxHeartbeats 4000000
noncomputable section
def lazarettolaw02_few (l : api_Lattice) (n : Int) (rules : List (A2 Int)) : Option Bool :=
  if (l.Names.length : Int) ≤ 12 then (if (l.Below.length : Int) ≤ 100 then (if n ≤ 60 then (some (decide ((rules.length : Int) ≤ 200))) else (some false)) else (some false)) else (some false)
def lazarettoref01_Join_L3 (l : api_Lattice) (a : Int) (b : Int) (c_1 : Nat) : (Bool × Nat) → Option ((Bool × Nat) ⊕ (Bool))
  | (ok_14, d_15) => if (d_15 : Int) < (l.Names.length : Int) then (if ok_14 = true then ((lazarettoref01_Leq l a (d_15 : Int)).bind fun r_18 => if r_18 = true then ((lazarettoref01_Leq l b (d_15 : Int)).bind fun r_19 => if r_19 = true then ((lazarettoref01_Leq l (c_1 : Int) (d_15 : Int)).bind fun r_20 => some (.inl (r_20, (d_15 + 1)))) else (some (.inl (true, (d_15 + 1))))) else (some (.inl (true, (d_15 + 1))))) else (some (.inr (ok_14)))) else (some (.inr (ok_14)))
def lazarettoref01_Join_L2 (l : api_Lattice) (a : Int) (b : Int) (c_1 : Nat) : (Bool × Nat) → Option ((Bool × Nat) ⊕ (Bool))
  | (ok_6, d_7) => if (d_7 : Int) < (l.Names.length : Int) then (if ok_6 = true then ((lazarettoref01_Leq l a (d_7 : Int)).bind fun r_10 => if r_10 = true then ((lazarettoref01_Leq l b (d_7 : Int)).bind fun r_11 => if r_11 = true then ((lazarettoref01_Leq l (c_1 : Int) (d_7 : Int)).bind fun r_12 => some (.inl (r_12, (d_7 + 1)))) else (some (.inl (true, (d_7 + 1))))) else (some (.inl (true, (d_7 + 1))))) else (some (.inr (ok_6)))) else (some (.inr (ok_6)))
def lazarettoref01_Join_L1 (l : api_Lattice) (a : Int) (b : Int) : Nat → Option ((Nat) ⊕ (Int ⊕ Unit))
  | c_1 => if (c_1 : Int) < (l.Names.length : Int) then ((lazarettoref01_Leq l a (c_1 : Int)).bind fun r_4 => if r_4 = true then ((lazarettoref01_Leq l b (c_1 : Int)).bind fun r_5 => (loop (lazarettoref01_Join_L2 l a b c_1) (r_5, 0)).bind (fun e_8 => if e_8 = true then (some (.inr (.inl ((c_1 : Int))))) else (some (.inl (c_1 + 1))))) else ((loop (lazarettoref01_Join_L3 l a b c_1) (false, 0)).bind (fun e_16 => if e_16 = true then (some (.inr (.inl ((c_1 : Int))))) else (some (.inl (c_1 + 1)))))) else (some (.inr (.inr (()))))
def lazarettoref01_Join (l : api_Lattice) (a : Int) (b : Int) : Option Int :=
  (loop (lazarettoref01_Join_L1 l a b) 0).bind (fun e__ => match e__ with | (.inl e_22) => some e_22 | (.inr ()) => some (-1))
def lazarettoref01_Meet_L3 (l : api_Lattice) (a : Int) (b : Int) (c_1 : Nat) : (Bool × Nat) → Option ((Bool × Nat) ⊕ (Bool))
  | (ok_14, d_15) => if (d_15 : Int) < (l.Names.length : Int) then (if ok_14 = true then ((lazarettoref01_Leq l (d_15 : Int) a).bind fun r_18 => if r_18 = true then ((lazarettoref01_Leq l (d_15 : Int) b).bind fun r_19 => if r_19 = true then ((lazarettoref01_Leq l (d_15 : Int) (c_1 : Int)).bind fun r_20 => some (.inl (r_20, (d_15 + 1)))) else (some (.inl (true, (d_15 + 1))))) else (some (.inl (true, (d_15 + 1))))) else (some (.inr (ok_14)))) else (some (.inr (ok_14)))
def lazarettoref01_Meet_L2 (l : api_Lattice) (a : Int) (b : Int) (c_1 : Nat) : (Bool × Nat) → Option ((Bool × Nat) ⊕ (Bool))
  | (ok_6, d_7) => if (d_7 : Int) < (l.Names.length : Int) then (if ok_6 = true then ((lazarettoref01_Leq l (d_7 : Int) a).bind fun r_10 => if r_10 = true then ((lazarettoref01_Leq l (d_7 : Int) b).bind fun r_11 => if r_11 = true then ((lazarettoref01_Leq l (d_7 : Int) (c_1 : Int)).bind fun r_12 => some (.inl (r_12, (d_7 + 1)))) else (some (.inl (true, (d_7 + 1))))) else (some (.inl (true, (d_7 + 1))))) else (some (.inr (ok_6)))) else (some (.inr (ok_6)))
def lazarettoref01_Meet_L1 (l : api_Lattice) (a : Int) (b : Int) : Nat → Option ((Nat) ⊕ (Int ⊕ Unit))
  | c_1 => if (c_1 : Int) < (l.Names.length : Int) then ((lazarettoref01_Leq l (c_1 : Int) a).bind fun r_4 => if r_4 = true then ((lazarettoref01_Leq l (c_1 : Int) b).bind fun r_5 => (loop (lazarettoref01_Meet_L2 l a b c_1) (r_5, 0)).bind (fun e_8 => if e_8 = true then (some (.inr (.inl ((c_1 : Int))))) else (some (.inl (c_1 + 1))))) else ((loop (lazarettoref01_Meet_L3 l a b c_1) (false, 0)).bind (fun e_16 => if e_16 = true then (some (.inr (.inl ((c_1 : Int))))) else (some (.inl (c_1 + 1)))))) else (some (.inr (.inr (()))))
def lazarettoref01_Meet (l : api_Lattice) (a : Int) (b : Int) : Option Int :=
  (loop (lazarettoref01_Meet_L1 l a b) 0).bind (fun e__ => match e__ with | (.inl e_22) => some e_22 | (.inr ()) => some (-1))
def lazarettoref01_Check_L3 (l : api_Lattice) (a_8 : Nat) (x_11 : Str) : Nat → Option ((Nat) ⊕ (Int ⊕ Unit))
  | b_12 => if (b_12 : Int) < (a_8 : Int) then ((l.Names[b_12]?).bind fun x_15 => if x_11 = x_15 then (some (.inr (.inl (4)))) else ((lazarettoref01_Leq l (a_8 : Int) (b_12 : Int)).bind fun r_16 => if r_16 = true then ((lazarettoref01_Leq l (b_12 : Int) (a_8 : Int)).bind fun r_17 => if r_17 = true then (some (.inr (.inl (4)))) else ((lazarettoref01_Join l (a_8 : Int) (b_12 : Int)).bind fun r_18 => if r_18 < 0 then (some (.inr (.inl (4)))) else ((lazarettoref01_Meet l (a_8 : Int) (b_12 : Int)).bind fun r_19 => if r_19 < 0 then (some (.inr (.inl (4)))) else (some (.inl (b_12 + 1)))))) else ((lazarettoref01_Join l (a_8 : Int) (b_12 : Int)).bind fun r_20 => if r_20 < 0 then (some (.inr (.inl (4)))) else ((lazarettoref01_Meet l (a_8 : Int) (b_12 : Int)).bind fun r_21 => if r_21 < 0 then (some (.inr (.inl (4)))) else (some (.inl (b_12 + 1))))))) else (some (.inr (.inr (()))))
def lazarettoref01_Check_L2 (l : api_Lattice) : Nat → Option ((Nat) ⊕ (Int ⊕ Unit))
  | a_8 => if (a_8 : Int) < (l.Names.length : Int) then ((l.Names[a_8]?).bind fun x_11 => if x_11 = [] then (some (.inr (.inl (4)))) else ((loop (lazarettoref01_Check_L3 l a_8 x_11) 0).bind (fun e__ => match e__ with | (.inl e_22) => some (.inr (.inl (e_22))) | (.inr ()) => some (.inl (a_8 + 1))))) else (some (.inr (.inr (()))))
def lazarettoref01_Check_L1 (l : api_Lattice) : Nat → Option ((Nat) ⊕ (Int ⊕ Unit))
  | i_1 => if (i_1 : Int) < (l.Below.length : Int) then ((l.Below[i_1]?).bind fun x_4 => (lazarettoref01_Is l x_4.a0).bind fun r_5 => if r_5 = true then ((lazarettoref01_Is l x_4.a1).bind fun r_6 => if r_6 = true then (some (.inl (i_1 + 1))) else (some (.inr (.inl (4))))) else (some (.inr (.inl (4))))) else (some (.inr (.inr (()))))
def lazarettoref01_Check (l : api_Lattice) : Option Int :=
  if (l.Names.length : Int) < 1 then (some 3) else (if 8 < (l.Names.length : Int) then (some 3) else ((loop (lazarettoref01_Check_L1 l) 0).bind (fun e__ => match e__ with | (.inl e_7) => some e_7 | (.inr ()) => (loop (lazarettoref01_Check_L2 l) 0).bind (fun e__ => match e__ with | (.inl e_23) => some e_23 | (.inr ()) => some 0))))
def lattice_best_L2 (l : api_Lattice) (of : (Int → Option Bool)) (ahead : (Int → Int → Option Bool)) (x_1 : Nat) : Nat → Option ((Nat) ⊕ (Unit ⊕ Unit))
  | x_5 => if (x_5 : Int) < (l.Names.length : Int) then ((of (x_5 : Int)).bind fun r_8 => if r_8 = true then ((ahead (x_1 : Int) (x_5 : Int)).bind fun r_9 => if r_9 = true then (some (.inl (x_5 + 1))) else (some (.inr (.inl (()))))) else (some (.inl (x_5 + 1)))) else (some (.inr (.inr (()))))
def lattice_best_L1 (l : api_Lattice) (of : (Int → Option Bool)) (ahead : (Int → Int → Option Bool)) : Nat → Option ((Nat) ⊕ (Int ⊕ Unit))
  | x_1 => if (x_1 : Int) < (l.Names.length : Int) then ((of (x_1 : Int)).bind fun r_4 => if r_4 = true then ((loop (lattice_best_L2 l of ahead x_1) 0).bind (fun e__ => match e__ with | (.inl ()) => some (.inl (x_1 + 1)) | (.inr ()) => some (.inr (.inl ((x_1 : Int)))))) else (some (.inl (x_1 + 1)))) else (some (.inr (.inr (()))))
def lattice_best (l : api_Lattice) (of : (Int → Option Bool)) (ahead : (Int → Int → Option Bool)) : Option Int :=
  (loop (lattice_best_L1 l of ahead) 0).bind (fun e__ => match e__ with | (.inl e_10) => some e_10 | (.inr ()) => some (-1))
def lattice_all (p0 : Int) : Option Bool :=
  some true
def lattice_Bottom_1 (c0 : api_Lattice) (c : Int) (d : Int) : Option Bool :=
  (lattice_Leq c0 c d).bind fun r_1 => some r_1
def lattice_Bottom (l : api_Lattice) : Option Int :=
  (lattice_best l lattice_all (lattice_Bottom_1 l)).bind fun r_1 => some r_1
def lattice_Join_1 (c0 : List Bool) (c1 : List Bool) (c : Int) : Option Bool :=
  (idx c0 c).bind fun x_1 => if x_1 = true then ((idx c1 c).bind fun x_2 => some x_2) else (some false)
def lattice_Join_2 (c0 : api_Lattice) (c : Int) (d : Int) : Option Bool :=
  (lattice_Leq c0 c d).bind fun r_1 => some r_1
def lattice_Join (l : api_Lattice) (a : Int) (b : Int) : Option Int :=
  (lattice_is l a).bind fun r_1 => if r_1 = true then ((lattice_is l b).bind fun r_2 => if r_2 = true then ((lattice_above l a).bind fun r_3 => (lattice_above l b).bind fun r_4 => (lattice_best l (lattice_Join_1 r_3 r_4) (lattice_Join_2 l)).bind fun r_5 => some r_5) else (some (-1))) else (some (-1))
def solve_All_L1 (l : api_Lattice) (set_ : List Int) : (Int × Nat) → Option ((Int × Nat) ⊕ (Int ⊕ Int))
  | (a_2, x_3) => if (x_3 : Int) < (set_.length : Int) then ((set_[x_3]?).bind fun x_6 => if a_2 < 0 then (some (.inr (.inl ((-1))))) else (if x_6 < 0 then (some (.inr (.inl ((-1))))) else (if (l.Names.length : Int) ≤ x_6 then (some (.inr (.inl ((-1))))) else ((lattice_Join l a_2 x_6).bind fun r_7 => some (.inl (r_7, (x_3 + 1))))))) else (some (.inr (.inr (a_2))))
def solve_All (l : api_Lattice) (set_ : List Int) : Option Int :=
  (lattice_Bottom l).bind fun r_1 => (loop (solve_All_L1 l set_) (r_1, 0)).bind (fun e__ => match e__ with | (.inl e_8) => some e_8 | (.inr a_9) => some a_9)
def lazarettoref02_Ints_L1 (a : List Int) (b : List Int) : Nat → Option ((Nat) ⊕ (Bool ⊕ Unit))
  | i_1 => if (i_1 : Int) < (a.length : Int) then ((a[i_1]?).bind fun x_4 => (b[i_1]?).bind fun x_5 => if x_4 = x_5 then (some (.inl (i_1 + 1))) else (some (.inr (.inl (false))))) else (some (.inr (.inr (()))))
def lazarettoref02_Ints (a : List Int) (b : List Int) : Option Bool :=
  if (a.length : Int) = (b.length : Int) then ((loop (lazarettoref02_Ints_L1 a b) 0).bind (fun e__ => match e__ with | (.inl e_6) => some e_6 | (.inr ()) => some true)) else (some false)
def solve_keep_L1 (l : api_Lattice) (so : (Int → Option Bool)) : ((List Int) × Nat) → Option (((List Int) × Nat) ⊕ (List Int))
  | (out_2, x_4) => if (x_4 : Int) < (l.Names.length : Int) then ((so (x_4 : Int)).bind fun r_7 => if r_7 = true then (need ((out_2.length + 1) * 8 ≤ 140737488355328) (some (.inl ((out_2 ++ [(x_4 : Int)]), (x_4 + 1))))) else (some (.inl (out_2, (x_4 + 1))))) else (some (.inr (out_2)))
def solve_keep (l : api_Lattice) (so : (Int → Option Bool)) : Option (List Int) :=
  (loop (solve_keep_L1 l so) ([], 0)).bind (fun e_5 => some e_5)
def solve_Up_1 (c0 : api_Lattice) (c1 : Int) (c : Int) : Option Bool :=
  (lattice_Leq c0 c1 c).bind fun r_1 => some r_1
def solve_Up (l : api_Lattice) (a : Int) : Option (List Int) :=
  (solve_keep l (solve_Up_1 l a)).bind fun r_1 => some r_1
def solve_Down_1 (c0 : api_Lattice) (c1 : Int) (c : Int) : Option Bool :=
  (lattice_Leq c0 c c1).bind fun r_1 => some r_1
def solve_Down (l : api_Lattice) (a : Int) : Option (List Int) :=
  (solve_keep l (solve_Down_1 l a)).bind fun r_1 => some r_1
def solve_row_int_at (r_ : solve_row_int) (i : Int) : Option (Int × Bool) :=
  if i < 0 then (some (0, false)) else (if (r_.l.length : Int) ≤ i then (some (0, false)) else ((idx r_.l i).bind fun x_1 => some (x_1, true)))
def solve_Holds_L1 (l : api_Lattice) (labels : List Int) (rules : List (A2 Int)) : Nat → Option ((Nat) ⊕ (Bool ⊕ Unit))
  | x_1 => if (x_1 : Int) < (rules.length : Int) then ((rules[x_1]?).bind fun x_4 => (solve_row_int_at (⟨labels⟩ : solve_row_int) x_4.a0).bind fun r_5 => (solve_row_int_at (⟨labels⟩ : solve_row_int) x_4.a1).bind fun r_6 => if r_5.2 = true then (if r_6.2 = true then ((lattice_Leq l r_5.1 r_6.1).bind fun r_7 => if r_7 = true then (some (.inl (x_1 + 1))) else (some (.inr (.inl (false))))) else (some (.inr (.inl (false))))) else (some (.inr (.inl (false))))) else (some (.inr (.inr (()))))
def solve_Holds (l : api_Lattice) (labels : List Int) (rules : List (A2 Int)) : Option Bool :=
  (loop (solve_Holds_L1 l labels rules) 0).bind (fun e__ => match e__ with | (.inl e_8) => some e_8 | (.inr ()) => some true)
def solve_Least_L4 (l : api_Lattice) (fixed : List Int) (rules : List (A2 Int)) : ((List Int) × Bool × Nat) → Option (((List Int) × Bool × Nat) ⊕ (((List Int) × Bool) ⊕ ((List Int) × Bool)))
  | (out_23, again_24, x_25) => if (x_25 : Int) < (rules.length : Int) then ((rules[x_25]?).bind fun x_28 => (idx fixed x_28.a1).bind fun x_29 => if x_29 = (-1) then ((idx out_23 x_28.a0).bind fun x_30 => (idx out_23 x_28.a1).bind fun x_31 => (lattice_Leq l x_30 x_31).bind fun r_32 => if r_32 = true then (some (.inl (out_23, again_24, (x_25 + 1)))) else ((lattice_Join l x_30 x_31).bind fun r_33 => (idx (out_23.set x_28.a1.toNat r_33) x_28.a1).bind fun x_34 => if 0 ≤ x_34 then (some (.inl ((out_23.set x_28.a1.toNat r_33), (decide (0 ≤ x_34)), (x_25 + 1)))) else (some (.inr (.inl (([], false))))))) else (some (.inl (out_23, again_24, (x_25 + 1))))) else (some (.inr (.inr ((out_23, again_24)))))
def solve_Least_L3 (l : api_Lattice) (fixed : List Int) (rules : List (A2 Int)) : ((List Int) × Bool) → Option (((List Int) × Bool) ⊕ (((List Int) × Bool) ⊕ (List Int)))
  | (out_19, again_20) => if again_20 = true then ((loop (solve_Least_L4 l fixed rules) (out_19, false, 0)).bind (fun e__ => match e__ with | (.inl e_35) => some (.inr (.inl (e_35))) | (.inr (out_36, again_37)) => some (.inl (out_36, again_37)))) else (some (.inr (.inr (out_19))))
def solve_Least_L2 (rules : List (A2 Int)) (out_11 : List Int) : Nat → Option ((Nat) ⊕ (((List Int) × Bool) ⊕ Unit))
  | x_12 => if (x_12 : Int) < (rules.length : Int) then ((rules[x_12]?).bind fun x_15 => (solve_row_int_at (⟨out_11⟩ : solve_row_int) x_15.a0).bind fun r_16 => (solve_row_int_at (⟨out_11⟩ : solve_row_int) x_15.a1).bind fun r_17 => if r_16.2 = true then (if r_17.2 = true then (some (.inl (x_12 + 1))) else (some (.inr (.inl (([], false)))))) else (some (.inr (.inl (([], false)))))) else (some (.inr (.inr (()))))
def solve_Least_L1 (l : api_Lattice) (fixed : List Int) (r_1 : Int) : ((List Int) × Nat) → Option (((List Int) × Nat) ⊕ (((List Int) × Bool) ⊕ (List Int)))
  | (out_3, x_4) => if (x_4 : Int) < (fixed.length : Int) then ((fixed[x_4]?).bind fun x_7 => (out_3[x_4]?).bind fun x_8 => if x_7 = (-1) then (((out_3.set x_4 x_7)[x_4]?).bind fun x_9 => some (.inl (((out_3.set x_4 x_7).set x_4 r_1), (x_4 + 1)))) else (if x_7 < 0 then (some (.inr (.inl (([], false))))) else (if (l.Names.length : Int) ≤ x_7 then (some (.inr (.inl (([], false))))) else (some (.inl ((out_3.set x_4 x_7), (x_4 + 1))))))) else (some (.inr (.inr (out_3))))
def solve_Least (l : api_Lattice) (fixed : List Int) (rules : List (A2 Int)) : Option ((List Int) × Bool) :=
  (lattice_Bottom l).bind fun r_1 => if r_1 < 0 then (some ([], false)) else (need (0 ≤ (fixed.length : Int) ∧ 8 * (fixed.length : Int) ≤ 140737488355328) ((loop (solve_Least_L1 l fixed r_1) ((List.replicate fixed.length 0), 0)).bind (fun e__ => match e__ with | (.inl e_10) => some e_10 | (.inr out_11) => (loop (solve_Least_L2 rules out_11) 0).bind (fun e__ => match e__ with | (.inl e_18) => some e_18 | (.inr ()) => (loop (solve_Least_L3 l fixed rules) (out_11, true)).bind (fun e__ => match e__ with | (.inl e_38) => some e_38 | (.inr out_39) => (solve_Holds l out_39 rules).bind fun r_40 => if r_40 = true then (some (out_39, true)) else (some ([], false)))))))
def lazarettolaw02_awake : Option Bool :=
  (solve_Least (⟨[([108, 111, 119] : Str), ([104, 105, 103, 104] : Str)], [(⟨0, 1⟩ : A2 Int)]⟩ : api_Lattice) [1, (-1), (-1)] [(⟨0, 1⟩ : A2 Int), (⟨1, 2⟩ : A2 Int)]).bind fun r_1 => (solve_Least (⟨[([108, 111, 119] : Str), ([104, 105, 103, 104] : Str)], [(⟨0, 1⟩ : A2 Int)]⟩ : api_Lattice) [1, 0] [(⟨0, 1⟩ : A2 Int)]).bind fun r_2 => if r_1.2 = true then (if r_2.2 = true then (some false) else ((lazarettoref02_Ints r_1.1 [1, 1, 1]).bind fun r_3 => if r_3 = true then ((solve_All (⟨[([108, 111, 119] : Str), ([104, 105, 103, 104] : Str)], [(⟨0, 1⟩ : A2 Int)]⟩ : api_Lattice) [0, 1]).bind fun r_4 => if r_4 = 1 then ((solve_All (⟨[([108, 111, 119] : Str), ([104, 105, 103, 104] : Str)], [(⟨0, 1⟩ : A2 Int)]⟩ : api_Lattice) []).bind fun r_5 => if r_5 = 0 then ((solve_Up (⟨[([108, 111, 119] : Str), ([104, 105, 103, 104] : Str)], [(⟨0, 1⟩ : A2 Int)]⟩ : api_Lattice) 0).bind fun r_6 => if (r_6.length : Int) = 2 then ((solve_Down (⟨[([108, 111, 119] : Str), ([104, 105, 103, 104] : Str)], [(⟨0, 1⟩ : A2 Int)]⟩ : api_Lattice) 0).bind fun r_7 => if (r_7.length : Int) = 1 then ((solve_Holds (⟨[([108, 111, 119] : Str), ([104, 105, 103, 104] : Str)], [(⟨0, 1⟩ : A2 Int)]⟩ : api_Lattice) r_1.1 [(⟨0, 1⟩ : A2 Int)]).bind fun r_8 => some r_8) else (some false)) else (some false)) else (some false)) else (some false)) else (some false))) else (some false)
def lazarettoref01_Bottom_L2 (l : api_Lattice) (c_1 : Nat) : (Bool × Nat) → Option ((Bool × Nat) ⊕ (Bool))
  | (ok_4, d_5) => if (d_5 : Int) < (l.Names.length : Int) then (if ok_4 = true then ((lazarettoref01_Leq l (c_1 : Int) (d_5 : Int)).bind fun r_8 => some (.inl (r_8, (d_5 + 1)))) else (some (.inr (ok_4)))) else (some (.inr (ok_4)))
def lazarettoref01_Bottom_L1 (l : api_Lattice) : Nat → Option ((Nat) ⊕ (Int ⊕ Unit))
  | c_1 => if (c_1 : Int) < (l.Names.length : Int) then ((loop (lazarettoref01_Bottom_L2 l c_1) (true, 0)).bind (fun e_6 => if e_6 = true then (some (.inr (.inl ((c_1 : Int))))) else (some (.inl (c_1 + 1))))) else (some (.inr (.inr (()))))
def lazarettoref01_Bottom (l : api_Lattice) : Option Int :=
  (loop (lazarettoref01_Bottom_L1 l) 0).bind (fun e__ => match e__ with | (.inl e_10) => some e_10 | (.inr ()) => some (-1))
def lazarettoref02_All_L1 (l : api_Lattice) (set_ : List Int) : (Int × Nat) → Option ((Int × Nat) ⊕ (Int ⊕ Int))
  | (a_2, i_3) => if (i_3 : Int) < (set_.length : Int) then (if a_2 < 0 then (some (.inr (.inl ((-1))))) else ((set_[i_3]?).bind fun x_6 => (lazarettoref01_Is l x_6).bind fun r_7 => if r_7 = true then ((lazarettoref01_Join l a_2 x_6).bind fun r_8 => some (.inl (r_8, (i_3 + 1)))) else (some (.inr (.inl ((-1))))))) else (some (.inr (.inr (a_2))))
def lazarettoref02_All (l : api_Lattice) (set_ : List Int) : Option Int :=
  (lazarettoref01_Bottom l).bind fun r_1 => (loop (lazarettoref02_All_L1 l set_) (r_1, 0)).bind (fun e__ => match e__ with | (.inl e_9) => some e_9 | (.inr a_10) => some a_10)
def lazarettoref02_Up_L1 (l : api_Lattice) (a : Int) : ((List Int) × Nat) → Option (((List Int) × Nat) ⊕ (List Int))
  | (out_2, c_4) => if (c_4 : Int) < (l.Names.length : Int) then ((lazarettoref01_Leq l a (c_4 : Int)).bind fun r_7 => if r_7 = true then (need ((out_2.length + 1) * 8 ≤ 140737488355328) (some (.inl ((out_2 ++ [(c_4 : Int)]), (c_4 + 1))))) else (some (.inl (out_2, (c_4 + 1))))) else (some (.inr (out_2)))
def lazarettoref02_Up (l : api_Lattice) (a : Int) : Option (List Int) :=
  (loop (lazarettoref02_Up_L1 l a) ([], 0)).bind (fun e_5 => some e_5)
def lazarettoref02_Down_L1 (l : api_Lattice) (a : Int) : ((List Int) × Nat) → Option (((List Int) × Nat) ⊕ (List Int))
  | (out_2, c_4) => if (c_4 : Int) < (l.Names.length : Int) then ((lazarettoref01_Leq l (c_4 : Int) a).bind fun r_7 => if r_7 = true then (need ((out_2.length + 1) * 8 ≤ 140737488355328) (some (.inl ((out_2 ++ [(c_4 : Int)]), (c_4 + 1))))) else (some (.inl (out_2, (c_4 + 1))))) else (some (.inr (out_2)))
def lazarettoref02_Down (l : api_Lattice) (a : Int) : Option (List Int) :=
  (loop (lazarettoref02_Down_L1 l a) ([], 0)).bind (fun e_5 => some e_5)
def lazarettolaw02_SolveSets (l : api_Lattice) (set_ : List Int) (a : Int) : Option Bool :=
  (lazarettolaw02_few l (set_.length : Int) []).bind fun r_1 => if r_1 = true then ((lazarettoref01_Check l).bind fun r_2 => if r_2 = 0 then ((solve_All l set_).bind fun r_3 => (lazarettoref02_All l set_).bind fun r_4 => if r_3 = r_4 then ((solve_Up l a).bind fun r_5 => (lazarettoref02_Up l a).bind fun r_6 => (lazarettoref02_Ints r_5 r_6).bind fun r_7 => if r_7 = true then ((solve_Down l a).bind fun r_8 => (lazarettoref02_Down l a).bind fun r_9 => (lazarettoref02_Ints r_8 r_9).bind fun r_10 => if r_10 = true then ((lazarettolaw02_awake).bind fun r_11 => some r_11) else (some false)) else (some false)) else (some false)) else ((lazarettolaw02_awake).bind fun r_12 => some r_12)) else ((lazarettolaw02_awake).bind fun r_13 => some r_13)
def lazarettoref02_Holds_L1 (l : api_Lattice) (labels : List Int) (rules : List (A2 Int)) : Nat → Option ((Nat) ⊕ (Bool ⊕ Unit))
  | i_1 => if (i_1 : Int) < (rules.length : Int) then ((rules[i_1]?).bind fun x_4 => if x_4.a0 < 0 then (some (.inr (.inl (false)))) else (if (labels.length : Int) ≤ x_4.a0 then (some (.inr (.inl (false)))) else (if x_4.a1 < 0 then (some (.inr (.inl (false)))) else (if (labels.length : Int) ≤ x_4.a1 then (some (.inr (.inl (false)))) else ((idx labels x_4.a0).bind fun x_5 => (idx labels x_4.a1).bind fun x_6 => (lazarettoref01_Leq l x_5 x_6).bind fun r_7 => if r_7 = true then (some (.inl (i_1 + 1))) else (some (.inr (.inl (false))))))))) else (some (.inr (.inr (()))))
def lazarettoref02_Holds (l : api_Lattice) (labels : List Int) (rules : List (A2 Int)) : Option Bool :=
  (loop (lazarettoref02_Holds_L1 l labels rules) 0).bind (fun e__ => match e__ with | (.inl e_8) => some e_8 | (.inr ()) => some true)
def lazarettoref02_Least_L4 (l : api_Lattice) (fixed : List Int) (rules : List (A2 Int)) : ((List Int) × Bool × Nat) → Option (((List Int) × Bool × Nat) ⊕ (((List Int) × Bool) ⊕ ((List Int) × Bool)))
  | (out_24, more_25, i_26) => if (i_26 : Int) < (rules.length : Int) then ((rules[i_26]?).bind fun x_29 => (idx out_24 x_29.a0).bind fun x_30 => (idx out_24 x_29.a1).bind fun x_31 => (lazarettoref01_Leq l x_30 x_31).bind fun r_32 => if r_32 = true then (some (.inl (out_24, more_25, (i_26 + 1)))) else ((idx fixed x_29.a1).bind fun x_33 => if x_33 = (-1) then ((lazarettoref01_Join l x_30 x_31).bind fun r_34 => if r_34 < 0 then (some (.inr (.inl (([], false))))) else (some (.inl ((out_24.set x_29.a1.toNat r_34), true, (i_26 + 1))))) else (some (.inl (out_24, more_25, (i_26 + 1)))))) else (some (.inr (.inr ((out_24, more_25)))))
def lazarettoref02_Least_L3 (l : api_Lattice) (fixed : List Int) (rules : List (A2 Int)) : ((List Int) × Bool) → Option (((List Int) × Bool) ⊕ (((List Int) × Bool) ⊕ (List Int)))
  | (out_20, more_21) => if more_21 = true then ((loop (lazarettoref02_Least_L4 l fixed rules) (out_20, false, 0)).bind (fun e__ => match e__ with | (.inl e_35) => some (.inr (.inl (e_35))) | (.inr (out_36, more_37)) => some (.inl (out_36, more_37)))) else (some (.inr (.inr (out_20))))
def lazarettoref02_Least_L2 (rules : List (A2 Int)) (out_14 : List Int) : Nat → Option ((Nat) ⊕ (((List Int) × Bool) ⊕ Unit))
  | i_15 => if (i_15 : Int) < (rules.length : Int) then ((rules[i_15]?).bind fun x_18 => if x_18.a0 < 0 then (some (.inr (.inl (([], false))))) else (if (out_14.length : Int) ≤ x_18.a0 then (some (.inr (.inl (([], false))))) else (if x_18.a1 < 0 then (some (.inr (.inl (([], false))))) else (if (out_14.length : Int) ≤ x_18.a1 then (some (.inr (.inl (([], false))))) else (some (.inl (i_15 + 1))))))) else (some (.inr (.inr (()))))
def lazarettoref02_Least_L1 (l : api_Lattice) (fixed : List Int) (r_1 : Int) : ((List Int) × Nat) → Option (((List Int) × Nat) ⊕ (((List Int) × Bool) ⊕ (List Int)))
  | (out_3, i_5) => if (i_5 : Int) < (fixed.length : Int) then ((fixed[i_5]?).bind fun x_8 => if x_8 = (-1) then ((lazarettoref01_Is l r_1).bind fun r_9 => if r_9 = true then (need ((out_3.length + 1) * 8 ≤ 140737488355328) (some (.inl ((out_3 ++ [r_1]), (i_5 + 1))))) else (some (.inr (.inl (([], false)))))) else ((lazarettoref01_Is l x_8).bind fun r_11 => if r_11 = true then (need ((out_3.length + 1) * 8 ≤ 140737488355328) (some (.inl ((out_3 ++ [x_8]), (i_5 + 1))))) else (some (.inr (.inl (([], false))))))) else (some (.inr (.inr (out_3))))
def lazarettoref02_Least (l : api_Lattice) (fixed : List Int) (rules : List (A2 Int)) : Option ((List Int) × Bool) :=
  (lazarettoref01_Bottom l).bind fun r_1 => if r_1 < 0 then (some ([], false)) else ((loop (lazarettoref02_Least_L1 l fixed r_1) ([], 0)).bind (fun e__ => match e__ with | (.inl e_13) => some e_13 | (.inr out_14) => (loop (lazarettoref02_Least_L2 rules out_14) 0).bind (fun e__ => match e__ with | (.inl e_19) => some e_19 | (.inr ()) => (loop (lazarettoref02_Least_L3 l fixed rules) (out_14, true)).bind (fun e__ => match e__ with | (.inl e_38) => some e_38 | (.inr out_39) => (lazarettoref02_Holds l out_39 rules).bind fun r_40 => if r_40 = true then (some (out_39, true)) else (some ([], false))))))
def lazarettolaw02_SolveLeast (l : api_Lattice) (fixed : List Int) (rules : List (A2 Int)) : Option Bool :=
  (lazarettolaw02_few l (fixed.length : Int) rules).bind fun r_1 => if r_1 = true then ((lazarettoref01_Check l).bind fun r_2 => if r_2 = 0 then ((solve_Least l fixed rules).bind fun r_3 => (lazarettoref02_Least l fixed rules).bind fun r_4 => (lazarettoref02_Ints r_3.1 r_4.1).bind fun r_5 => if r_5 = true then (if (r_3.2 == r_4.2) = true then ((lazarettolaw02_awake).bind fun r_6 => some r_6) else (some false)) else (some false)) else ((lazarettolaw02_awake).bind fun r_7 => some r_7)) else ((lazarettolaw02_awake).bind fun r_8 => some r_8)
def lazarettolaw02_SolveIs_L1 (fixed : List Int) (r_3 : (List Int) × Bool) : Nat → Option ((Nat) ⊕ (Bool ⊕ Unit))
  | i_5 => if (i_5 : Int) < (r_3.1.length : Int) then ((fixed[i_5]?).bind fun x_8 => if x_8 = (-1) then (some (.inl (i_5 + 1))) else ((r_3.1[i_5]?).bind fun x_9 => if x_8 = x_9 then (some (.inl (i_5 + 1))) else (some (.inr (.inl (false)))))) else (some (.inr (.inr (()))))
def lazarettolaw02_SolveIs (l : api_Lattice) (fixed : List Int) (rules : List (A2 Int)) : Option Bool :=
  (lazarettolaw02_few l (fixed.length : Int) rules).bind fun r_1 => if r_1 = true then ((lazarettoref01_Check l).bind fun r_2 => if r_2 = 0 then ((solve_Least l fixed rules).bind fun r_3 => if r_3.2 = true then (if (r_3.1.length : Int) = (fixed.length : Int) then ((solve_Holds l r_3.1 rules).bind fun r_4 => if r_4 = true then ((loop (lazarettolaw02_SolveIs_L1 fixed r_3) 0).bind (fun e__ => match e__ with | (.inl e_10) => some e_10 | (.inr ()) => (lazarettolaw02_awake).bind fun r_11 => some r_11)) else (some false)) else (some false)) else (if (r_3.1.length : Int) = 0 then ((lazarettolaw02_awake).bind fun r_12 => some r_12) else (some false))) else ((lazarettolaw02_awake).bind fun r_13 => some r_13)) else ((lazarettolaw02_awake).bind fun r_14 => some r_14)
def lazarettolaw02_SolveBest_L2 (l : api_Lattice) (labels : List Int) (r_17 : (List Int) × Bool) : Nat → Option ((Nat) ⊕ (Bool ⊕ Unit))
  | i_18 => if (i_18 : Int) < (r_17.1.length : Int) then ((r_17.1[i_18]?).bind fun x_21 => (labels[i_18]?).bind fun x_22 => (lazarettoref01_Leq l x_21 x_22).bind fun r_23 => if r_23 = true then (some (.inl (i_18 + 1))) else (some (.inr (.inl (false))))) else (some (.inr (.inr (()))))
def lazarettolaw02_SolveBest_L1 (l : api_Lattice) (labels : List Int) : ((List Int) × Nat) → Option (((List Int) × Nat) ⊕ (Bool ⊕ (List Int)))
  | (fixed_5, i_7) => if (i_7 : Int) < (labels.length : Int) then ((labels[i_7]?).bind fun x_10 => (lazarettoref01_Is l x_10).bind fun r_11 => if r_11 = true then (if ((i_7 : Int).tmod 3) = 0 then (need ((fixed_5.length + 1) * 8 ≤ 140737488355328) (some (.inl ((fixed_5 ++ [x_10]), (i_7 + 1))))) else (need ((fixed_5.length + 1) * 8 ≤ 140737488355328) (some (.inl ((fixed_5 ++ [(-1)]), (i_7 + 1)))))) else ((lazarettolaw02_awake).bind fun r_14 => some (.inr (.inl (r_14))))) else (some (.inr (.inr (fixed_5))))
def lazarettolaw02_SolveBest (l : api_Lattice) (labels : List Int) (rules : List (A2 Int)) : Option Bool :=
  (lazarettolaw02_few l (labels.length : Int) rules).bind fun r_1 => if r_1 = true then ((lazarettoref01_Check l).bind fun r_2 => if r_2 = 0 then ((lazarettoref02_Holds l labels rules).bind fun r_3 => if r_3 = true then ((loop (lazarettolaw02_SolveBest_L1 l labels) ([], 0)).bind (fun e__ => match e__ with | (.inl e_15) => some e_15 | (.inr fixed_16) => (solve_Least l fixed_16 rules).bind fun r_17 => if r_17.2 = true then (if (r_17.1.length : Int) = (labels.length : Int) then ((loop (lazarettolaw02_SolveBest_L2 l labels r_17) 0).bind (fun e__ => match e__ with | (.inl e_24) => some e_24 | (.inr ()) => (lazarettolaw02_awake).bind fun r_25 => some r_25)) else (some false)) else (some false))) else ((lazarettolaw02_awake).bind fun r_26 => some r_26)) else ((lazarettolaw02_awake).bind fun r_27 => some r_27)) else ((lazarettolaw02_awake).bind fun r_28 => some r_28)
end
theorem lazarettolaw02_few_ok {l : api_Lattice} {n : Int} {rules : List (A2 Int)} {r : Bool} (h : lazarettolaw02_few l n rules = some r) :
    Pu Try.prog 31 [.agg (e_api_Lattice l), .one (.int .i64 n), .one (.sl (rules.map (eA2 eI)))] (.one (.bool r)) := by
  have F := trivial; have R := trivial
  refine pA Try.func31 ?_
  simp only [Try.f31]
  unfold lazarettolaw02_few at h
  refine tt ?_
  repeat (first | (with_reducible intro _) | refine ⟨ss, ?_⟩)
  refine fi h F (fun h _ F => ?_) (fun h _ F => ?_)
  refine tt ?_
  repeat (first | (with_reducible intro _) | refine ⟨ss, ?_⟩)
  refine fi h F (fun h _ F => ?_) (fun h _ F => ?_)
  refine fi h F (fun h _ F => ?_) (fun h _ F => ?_)
  cases h; exact fin
  cases h; exact fin
  cases h; exact fin
  cases h; exact fin
theorem lazarettoref01_Join_ok {l : api_Lattice} {a : Int} {b : Int} {r : Int} (h : lazarettoref01_Join l a b = some r) :
    Pu Try.prog 70 [.agg (e_api_Lattice l), .one (.int .i64 a), .one (.int .i64 b)] (.one (.int .i64 r)) := by
  have F := trivial; have R := trivial
  refine pA Try.func70 ?_
  simp only [Try.f70]
  unfold lazarettoref01_Join at h
  refine bi h fun e_2 h he_2 => ?_
  refine tt ?_
  refine lE (fun (s__ : Nat) (a__ : Unit) => match s__, a__ with | c_1, _ => ⟨[(1, .one (.int .i64 a)), (2, .one (.int .i64 b)), (3, .one (.ref 0 0 0 0)), (7, .one (.int .i64 (c_1 : Int)))], [.cells 0 2 [[.sl (l.Names.map eS), .sl (l.Below.map (eA2 eI))]]]⟩) (fun (e__ : Int ⊕ Unit) (b__ : Unit) => match e__, b__ with | (.inl e_22), _ => ⟨[], []⟩ | (.inr ()), _ => ⟨[], [.cells 0 2 [[.sl (l.Names.map eS), .sl (l.Below.map (eA2 eI))]]]⟩) (fun (e__ : Int ⊕ Unit) => match e__ with | (.inl _) => none | (.inr _) => some 0) () he_2 ?_ ?_
  intro i3 b3 hi3
  rcases e_2 with e_case | ⟨⟩
  cases hi3
  obtain rfl := Option.some.inj hi3
  obtain ⟨⟩ := b3
  dsimp only at h ⊢
  cases h; exact fin
  intro af3 m3 c_1 a3 o3 hf3 ho3 ih3
  obtain ⟨⟩ := a3
  dsimp only [lazarettoref01_Join_L1] at hf3 ⊢
  refine tt ?_
  repeat (first | (with_reducible intro _) | refine ⟨ss, ?_⟩)
  refine fl hf3 F (fun hf3 _ F => ?_) (fun hf3 _ F => ?_)
  refine bi hf3 fun r_4 hf3 hr_4 => ?_
  refine tt ?_
  repeat (first | (with_reducible intro _) | refine ⟨ss, ?_⟩)
  refine cS (lazarettoref01_Leq_ok hr_4) ?_
  refine fv hf3 F (fun hf3 _ F => ?_) (fun hf3 _ F => ?_)
  refine bi hf3 fun r_5 hf3 hr_5 => ?_
  refine tt ?_
  repeat (first | (with_reducible intro _) | refine ⟨ss, ?_⟩)
  refine cS (lazarettoref01_Leq_ok hr_5) ?_
  refine bi hf3 fun e_8 hf3 he_8 => ?_
  refine tt ?_
  refine lE (fun (s__ : Bool × Nat) (a__ : Unit) => match s__, a__ with | (ok_6, d_7), _ => ⟨[(1, .one (.int .i64 a)), (2, .one (.int .i64 b)), (3, .one (.ref 0 0 0 0)), (7, .one (.int .i64 (c_1 : Int))), (8, .one (.bool ok_6)), (9, .one (.int .i64 (d_7 : Int)))], [.cells 0 2 [[.sl (l.Names.map eS), .sl (l.Below.map (eA2 eI))]]]⟩) (fun (e__ : Bool) (b__ : Unit) => match e__, b__ with | e_8, _ => ⟨[(1, .one (.int .i64 a)), (2, .one (.int .i64 b)), (3, .one (.ref 0 0 0 0)), (7, .one (.int .i64 (c_1 : Int))), (8, .one (.bool e_8))], [.cells 0 2 [[.sl (l.Names.map eS), .sl (l.Below.map (eA2 eI))]]]⟩) (fun (_ : Bool) => some 2) () he_8 ?_ ?_
  intro i9 b9 hi9
  obtain rfl := Option.some.inj hi9
  obtain ⟨⟩ := b9
  dsimp only at hf3 ⊢
  refine fv hf3 F (fun hf3 _ F => ?_) (fun hf3 _ F => ?_)
  cases hf3
  obtain rfl := sr ho3
  try dsimp only at h
  cases h
  exact fin
  cases hf3
  refine tt ?_
  refine wn c_1 F fun F => ?_
  exact bk ih3 ho3 ()
  intro af9 m9 s9 a9 o9 hf9 ho9 ih9
  obtain ⟨ok_6, d_7⟩ := s9
  obtain ⟨⟩ := a9
  dsimp only [lazarettoref01_Join_L2] at hf9 ⊢
  refine tt ?_
  repeat (first | (with_reducible intro _) | refine ⟨ss, ?_⟩)
  refine fl hf9 F (fun hf9 _ F => ?_) (fun hf9 _ F => ?_)
  refine fv hf9 F (fun hf9 _ F => ?_) (fun hf9 _ F => ?_)
  refine bi hf9 fun r_10 hf9 hr_10 => ?_
  refine tt ?_
  repeat (first | (with_reducible intro _) | refine ⟨ss, ?_⟩)
  refine cS (lazarettoref01_Leq_ok hr_10) ?_
  refine fv hf9 F (fun hf9 _ F => ?_) (fun hf9 _ F => ?_)
  refine bi hf9 fun r_11 hf9 hr_11 => ?_
  refine tt ?_
  repeat (first | (with_reducible intro _) | refine ⟨ss, ?_⟩)
  refine cS (lazarettoref01_Leq_ok hr_11) ?_
  refine fv hf9 F (fun hf9 _ F => ?_) (fun hf9 _ F => ?_)
  refine bi hf9 fun r_12 hf9 hr_12 => ?_
  refine tt ?_
  repeat (first | (with_reducible intro _) | refine ⟨ss, ?_⟩)
  refine cS (lazarettoref01_Leq_ok hr_12) ?_
  cases hf9
  refine tt ?_
  refine wn d_7 F fun F => ?_
  exact bk ih9 ho9 ()
  cases hf9
  refine tt ?_
  refine wn d_7 F fun F => ?_
  exact bk ih9 ho9 ()
  cases hf9
  refine tt ?_
  refine wn d_7 F fun F => ?_
  exact bk ih9 ho9 ()
  cases hf9
  refine tt ?_
  exact xt ho9 af9 ()
  cases hf9
  refine tt ?_
  exact xt ho9 af9 ()
  refine bi hf3 fun e_16 hf3 he_16 => ?_
  refine tt ?_
  refine lE (fun (s__ : Bool × Nat) (a__ : Unit) => match s__, a__ with | (ok_14, d_15), _ => ⟨[(1, .one (.int .i64 a)), (2, .one (.int .i64 b)), (3, .one (.ref 0 0 0 0)), (7, .one (.int .i64 (c_1 : Int))), (8, .one (.bool ok_14)), (9, .one (.int .i64 (d_15 : Int)))], [.cells 0 2 [[.sl (l.Names.map eS), .sl (l.Below.map (eA2 eI))]]]⟩) (fun (e__ : Bool) (b__ : Unit) => match e__, b__ with | e_16, _ => ⟨[(1, .one (.int .i64 a)), (2, .one (.int .i64 b)), (3, .one (.ref 0 0 0 0)), (7, .one (.int .i64 (c_1 : Int))), (8, .one (.bool e_16))], [.cells 0 2 [[.sl (l.Names.map eS), .sl (l.Below.map (eA2 eI))]]]⟩) (fun (_ : Bool) => some 2) () he_16 ?_ ?_
  intro i17 b17 hi17
  obtain rfl := Option.some.inj hi17
  obtain ⟨⟩ := b17
  dsimp only at hf3 ⊢
  refine fv hf3 F (fun hf3 _ F => ?_) (fun hf3 _ F => ?_)
  cases hf3
  obtain rfl := sr ho3
  try dsimp only at h
  cases h
  exact fin
  cases hf3
  refine tt ?_
  refine wn c_1 F fun F => ?_
  exact bk ih3 ho3 ()
  intro af17 m17 s17 a17 o17 hf17 ho17 ih17
  obtain ⟨ok_14, d_15⟩ := s17
  obtain ⟨⟩ := a17
  dsimp only [lazarettoref01_Join_L3] at hf17 ⊢
  refine tt ?_
  repeat (first | (with_reducible intro _) | refine ⟨ss, ?_⟩)
  refine fl hf17 F (fun hf17 _ F => ?_) (fun hf17 _ F => ?_)
  refine fv hf17 F (fun hf17 _ F => ?_) (fun hf17 _ F => ?_)
  refine bi hf17 fun r_18 hf17 hr_18 => ?_
  refine tt ?_
  repeat (first | (with_reducible intro _) | refine ⟨ss, ?_⟩)
  refine cS (lazarettoref01_Leq_ok hr_18) ?_
  refine fv hf17 F (fun hf17 _ F => ?_) (fun hf17 _ F => ?_)
  refine bi hf17 fun r_19 hf17 hr_19 => ?_
  refine tt ?_
  repeat (first | (with_reducible intro _) | refine ⟨ss, ?_⟩)
  refine cS (lazarettoref01_Leq_ok hr_19) ?_
  refine fv hf17 F (fun hf17 _ F => ?_) (fun hf17 _ F => ?_)
  refine bi hf17 fun r_20 hf17 hr_20 => ?_
  refine tt ?_
  repeat (first | (with_reducible intro _) | refine ⟨ss, ?_⟩)
  refine cS (lazarettoref01_Leq_ok hr_20) ?_
  cases hf17
  refine tt ?_
  refine wn d_15 F fun F => ?_
  exact bk ih17 ho17 ()
  cases hf17
  refine tt ?_
  refine wn d_15 F fun F => ?_
  exact bk ih17 ho17 ()
  cases hf17
  refine tt ?_
  refine wn d_15 F fun F => ?_
  exact bk ih17 ho17 ()
  cases hf17
  refine tt ?_
  exact xt ho17 af17 ()
  cases hf17
  refine tt ?_
  exact xt ho17 af17 ()
  cases hf3
  refine tt ?_
  exact xt ho3 af3 ()
theorem lazarettoref01_Meet_ok {l : api_Lattice} {a : Int} {b : Int} {r : Int} (h : lazarettoref01_Meet l a b = some r) :
    Pu Try.prog 71 [.agg (e_api_Lattice l), .one (.int .i64 a), .one (.int .i64 b)] (.one (.int .i64 r)) := by
  have F := trivial; have R := trivial
  refine pA Try.func71 ?_
  simp only [Try.f71]
  unfold lazarettoref01_Meet at h
  refine bi h fun e_2 h he_2 => ?_
  refine tt ?_
  refine lE (fun (s__ : Nat) (a__ : Unit) => match s__, a__ with | c_1, _ => ⟨[(1, .one (.int .i64 a)), (2, .one (.int .i64 b)), (3, .one (.ref 0 0 0 0)), (7, .one (.int .i64 (c_1 : Int)))], [.cells 0 2 [[.sl (l.Names.map eS), .sl (l.Below.map (eA2 eI))]]]⟩) (fun (e__ : Int ⊕ Unit) (b__ : Unit) => match e__, b__ with | (.inl e_22), _ => ⟨[], []⟩ | (.inr ()), _ => ⟨[], [.cells 0 2 [[.sl (l.Names.map eS), .sl (l.Below.map (eA2 eI))]]]⟩) (fun (e__ : Int ⊕ Unit) => match e__ with | (.inl _) => none | (.inr _) => some 0) () he_2 ?_ ?_
  intro i3 b3 hi3
  rcases e_2 with e_case | ⟨⟩
  cases hi3
  obtain rfl := Option.some.inj hi3
  obtain ⟨⟩ := b3
  dsimp only at h ⊢
  cases h; exact fin
  intro af3 m3 c_1 a3 o3 hf3 ho3 ih3
  obtain ⟨⟩ := a3
  dsimp only [lazarettoref01_Meet_L1] at hf3 ⊢
  refine tt ?_
  repeat (first | (with_reducible intro _) | refine ⟨ss, ?_⟩)
  refine fl hf3 F (fun hf3 _ F => ?_) (fun hf3 _ F => ?_)
  refine bi hf3 fun r_4 hf3 hr_4 => ?_
  refine tt ?_
  repeat (first | (with_reducible intro _) | refine ⟨ss, ?_⟩)
  refine cS (lazarettoref01_Leq_ok hr_4) ?_
  refine fv hf3 F (fun hf3 _ F => ?_) (fun hf3 _ F => ?_)
  refine bi hf3 fun r_5 hf3 hr_5 => ?_
  refine tt ?_
  repeat (first | (with_reducible intro _) | refine ⟨ss, ?_⟩)
  refine cS (lazarettoref01_Leq_ok hr_5) ?_
  refine bi hf3 fun e_8 hf3 he_8 => ?_
  refine tt ?_
  refine lE (fun (s__ : Bool × Nat) (a__ : Unit) => match s__, a__ with | (ok_6, d_7), _ => ⟨[(1, .one (.int .i64 a)), (2, .one (.int .i64 b)), (3, .one (.ref 0 0 0 0)), (7, .one (.int .i64 (c_1 : Int))), (8, .one (.bool ok_6)), (9, .one (.int .i64 (d_7 : Int)))], [.cells 0 2 [[.sl (l.Names.map eS), .sl (l.Below.map (eA2 eI))]]]⟩) (fun (e__ : Bool) (b__ : Unit) => match e__, b__ with | e_8, _ => ⟨[(1, .one (.int .i64 a)), (2, .one (.int .i64 b)), (3, .one (.ref 0 0 0 0)), (7, .one (.int .i64 (c_1 : Int))), (8, .one (.bool e_8))], [.cells 0 2 [[.sl (l.Names.map eS), .sl (l.Below.map (eA2 eI))]]]⟩) (fun (_ : Bool) => some 2) () he_8 ?_ ?_
  intro i9 b9 hi9
  obtain rfl := Option.some.inj hi9
  obtain ⟨⟩ := b9
  dsimp only at hf3 ⊢
  refine fv hf3 F (fun hf3 _ F => ?_) (fun hf3 _ F => ?_)
  cases hf3
  obtain rfl := sr ho3
  try dsimp only at h
  cases h
  exact fin
  cases hf3
  refine tt ?_
  refine wn c_1 F fun F => ?_
  exact bk ih3 ho3 ()
  intro af9 m9 s9 a9 o9 hf9 ho9 ih9
  obtain ⟨ok_6, d_7⟩ := s9
  obtain ⟨⟩ := a9
  dsimp only [lazarettoref01_Meet_L2] at hf9 ⊢
  refine tt ?_
  repeat (first | (with_reducible intro _) | refine ⟨ss, ?_⟩)
  refine fl hf9 F (fun hf9 _ F => ?_) (fun hf9 _ F => ?_)
  refine fv hf9 F (fun hf9 _ F => ?_) (fun hf9 _ F => ?_)
  refine bi hf9 fun r_10 hf9 hr_10 => ?_
  refine tt ?_
  repeat (first | (with_reducible intro _) | refine ⟨ss, ?_⟩)
  refine cS (lazarettoref01_Leq_ok hr_10) ?_
  refine fv hf9 F (fun hf9 _ F => ?_) (fun hf9 _ F => ?_)
  refine bi hf9 fun r_11 hf9 hr_11 => ?_
  refine tt ?_
  repeat (first | (with_reducible intro _) | refine ⟨ss, ?_⟩)
  refine cS (lazarettoref01_Leq_ok hr_11) ?_
  refine fv hf9 F (fun hf9 _ F => ?_) (fun hf9 _ F => ?_)
  refine bi hf9 fun r_12 hf9 hr_12 => ?_
  refine tt ?_
  repeat (first | (with_reducible intro _) | refine ⟨ss, ?_⟩)
  refine cS (lazarettoref01_Leq_ok hr_12) ?_
  cases hf9
  refine tt ?_
  refine wn d_7 F fun F => ?_
  exact bk ih9 ho9 ()
  cases hf9
  refine tt ?_
  refine wn d_7 F fun F => ?_
  exact bk ih9 ho9 ()
  cases hf9
  refine tt ?_
  refine wn d_7 F fun F => ?_
  exact bk ih9 ho9 ()
  cases hf9
  refine tt ?_
  exact xt ho9 af9 ()
  cases hf9
  refine tt ?_
  exact xt ho9 af9 ()
  refine bi hf3 fun e_16 hf3 he_16 => ?_
  refine tt ?_
  refine lE (fun (s__ : Bool × Nat) (a__ : Unit) => match s__, a__ with | (ok_14, d_15), _ => ⟨[(1, .one (.int .i64 a)), (2, .one (.int .i64 b)), (3, .one (.ref 0 0 0 0)), (7, .one (.int .i64 (c_1 : Int))), (8, .one (.bool ok_14)), (9, .one (.int .i64 (d_15 : Int)))], [.cells 0 2 [[.sl (l.Names.map eS), .sl (l.Below.map (eA2 eI))]]]⟩) (fun (e__ : Bool) (b__ : Unit) => match e__, b__ with | e_16, _ => ⟨[(1, .one (.int .i64 a)), (2, .one (.int .i64 b)), (3, .one (.ref 0 0 0 0)), (7, .one (.int .i64 (c_1 : Int))), (8, .one (.bool e_16))], [.cells 0 2 [[.sl (l.Names.map eS), .sl (l.Below.map (eA2 eI))]]]⟩) (fun (_ : Bool) => some 2) () he_16 ?_ ?_
  intro i17 b17 hi17
  obtain rfl := Option.some.inj hi17
  obtain ⟨⟩ := b17
  dsimp only at hf3 ⊢
  refine fv hf3 F (fun hf3 _ F => ?_) (fun hf3 _ F => ?_)
  cases hf3
  obtain rfl := sr ho3
  try dsimp only at h
  cases h
  exact fin
  cases hf3
  refine tt ?_
  refine wn c_1 F fun F => ?_
  exact bk ih3 ho3 ()
  intro af17 m17 s17 a17 o17 hf17 ho17 ih17
  obtain ⟨ok_14, d_15⟩ := s17
  obtain ⟨⟩ := a17
  dsimp only [lazarettoref01_Meet_L3] at hf17 ⊢
  refine tt ?_
  repeat (first | (with_reducible intro _) | refine ⟨ss, ?_⟩)
  refine fl hf17 F (fun hf17 _ F => ?_) (fun hf17 _ F => ?_)
  refine fv hf17 F (fun hf17 _ F => ?_) (fun hf17 _ F => ?_)
  refine bi hf17 fun r_18 hf17 hr_18 => ?_
  refine tt ?_
  repeat (first | (with_reducible intro _) | refine ⟨ss, ?_⟩)
  refine cS (lazarettoref01_Leq_ok hr_18) ?_
  refine fv hf17 F (fun hf17 _ F => ?_) (fun hf17 _ F => ?_)
  refine bi hf17 fun r_19 hf17 hr_19 => ?_
  refine tt ?_
  repeat (first | (with_reducible intro _) | refine ⟨ss, ?_⟩)
  refine cS (lazarettoref01_Leq_ok hr_19) ?_
  refine fv hf17 F (fun hf17 _ F => ?_) (fun hf17 _ F => ?_)
  refine bi hf17 fun r_20 hf17 hr_20 => ?_
  refine tt ?_
  repeat (first | (with_reducible intro _) | refine ⟨ss, ?_⟩)
  refine cS (lazarettoref01_Leq_ok hr_20) ?_
  cases hf17
  refine tt ?_
  refine wn d_15 F fun F => ?_
  exact bk ih17 ho17 ()
  cases hf17
  refine tt ?_
  refine wn d_15 F fun F => ?_
  exact bk ih17 ho17 ()
  cases hf17
  refine tt ?_
  refine wn d_15 F fun F => ?_
  exact bk ih17 ho17 ()
  cases hf17
  refine tt ?_
  exact xt ho17 af17 ()
  cases hf17
  refine tt ?_
  exact xt ho17 af17 ()
  cases hf3
  refine tt ?_
  exact xt ho3 af3 ()
theorem lazarettoref01_Check_ok {l : api_Lattice} {r : Int} (h : lazarettoref01_Check l = some r) :
    Pu Try.prog 32 [.agg (e_api_Lattice l)] (.one (.int .i64 r)) := by
  have F := trivial; have R := trivial
  refine pA Try.func32 ?_
  simp only [Try.f32]
  unfold lazarettoref01_Check at h
  refine tt ?_
  repeat (first | (with_reducible intro _) | refine ⟨ss, ?_⟩)
  refine fi h F (fun h _ F => ?_) (fun h _ F => ?_)
  cases h; exact fin
  refine fi h F (fun h _ F => ?_) (fun h _ F => ?_)
  cases h; exact fin
  refine bi h fun e_2 h he_2 => ?_
  refine tt ?_
  refine lE (fun (s__ : Nat) (a__ : Unit) => match s__, a__ with | i_1, _ => ⟨[(1, .one (.ref 0 0 0 0)), (3, .one (.int .i64 (l.Names.length : Int))), (4, .one (.int .i64 (i_1 : Int)))], [.cells 0 2 [[.sl (l.Names.map eS), .sl (l.Below.map (eA2 eI))]]]⟩) (fun (e__ : Int ⊕ Unit) (b__ : Unit) => match e__, b__ with | (.inl e_7), _ => ⟨[], []⟩ | (.inr ()), _ => ⟨[(1, .one (.ref 0 0 0 0)), (3, .one (.int .i64 (l.Names.length : Int)))], [.cells 0 2 [[.sl (l.Names.map eS), .sl (l.Below.map (eA2 eI))]]]⟩) (fun (e__ : Int ⊕ Unit) => match e__ with | (.inl _) => none | (.inr _) => some 0) () he_2 ?_ ?_
  intro i3 b3 hi3
  rcases e_2 with e_case | ⟨⟩
  cases hi3
  obtain rfl := Option.some.inj hi3
  obtain ⟨⟩ := b3
  dsimp only at h ⊢
  refine bi h fun e_9 h he_9 => ?_
  refine tt ?_
  refine lE (fun (s__ : Nat) (a__ : Unit) => match s__, a__ with | a_8, _ => ⟨[(1, .one (.ref 0 0 0 0)), (3, .one (.int .i64 (l.Names.length : Int))), (5, .one (.int .i64 (a_8 : Int)))], [.cells 0 2 [[.sl (l.Names.map eS), .sl (l.Below.map (eA2 eI))]]]⟩) (fun (e__ : Int ⊕ Unit) (b__ : Unit) => match e__, b__ with | (.inl e_23), _ => ⟨[], []⟩ | (.inr ()), _ => ⟨[], [.cells 0 2 [[.sl (l.Names.map eS), .sl (l.Below.map (eA2 eI))]]]⟩) (fun (e__ : Int ⊕ Unit) => match e__ with | (.inl _) => none | (.inr _) => some 2) () he_9 ?_ ?_
  intro i10 b10 hi10
  rcases e_9 with e_case | ⟨⟩
  cases hi10
  obtain rfl := Option.some.inj hi10
  obtain ⟨⟩ := b10
  dsimp only at h ⊢
  cases h; exact fin
  intro af10 m10 a_8 a10 o10 hf10 ho10 ih10
  obtain ⟨⟩ := a10
  dsimp only [lazarettoref01_Check_L2] at hf10 ⊢
  refine fl hf10 F (fun hf10 _ F => ?_) (fun hf10 _ F => ?_)
  refine bx hf10 F fun x_11 hf10 hx_11 F => ?_
  refine tt ?_
  repeat (first | (with_reducible intro _) | refine ⟨ss, ?_⟩)
  refine fi hf10 F (fun hf10 _ F => ?_) (fun hf10 _ F => ?_)
  cases hf10
  obtain rfl := sr ho10
  try dsimp only at h
  cases h
  exact fin
  refine bi hf10 fun e_13 hf10 he_13 => ?_
  refine tt ?_
  refine lE (fun (s__ : Nat) (a__ : Unit) => match s__, a__ with | b_12, _ => ⟨[(1, .one (.ref 0 0 0 0)), (3, .one (.int .i64 (l.Names.length : Int))), (5, .one (.int .i64 (a_8 : Int))), (6, .one (.int .i64 (b_12 : Int)))], [.cells 0 2 [[.sl (l.Names.map eS), .sl (l.Below.map (eA2 eI))]]]⟩) (fun (e__ : Int ⊕ Unit) (b__ : Unit) => match e__, b__ with | (.inl e_22), _ => ⟨[], []⟩ | (.inr ()), _ => ⟨[(1, .one (.ref 0 0 0 0)), (3, .one (.int .i64 (l.Names.length : Int))), (5, .one (.int .i64 (a_8 : Int)))], [.cells 0 2 [[.sl (l.Names.map eS), .sl (l.Below.map (eA2 eI))]]]⟩) (fun (e__ : Int ⊕ Unit) => match e__ with | (.inl _) => none | (.inr _) => some 4) () he_13 ?_ ?_
  intro i14 b14 hi14
  rcases e_13 with e_case | ⟨⟩
  cases hi14
  obtain rfl := Option.some.inj hi14
  obtain ⟨⟩ := b14
  dsimp only at hf10 ⊢
  cases hf10
  refine tt ?_
  refine wn a_8 F fun F => ?_
  exact bk ih10 ho10 ()
  intro af14 m14 b_12 a14 o14 hf14 ho14 ih14
  obtain ⟨⟩ := a14
  dsimp only [lazarettoref01_Check_L3] at hf14 ⊢
  refine fl hf14 F (fun hf14 _ F => ?_) (fun hf14 _ F => ?_)
  refine bx hf14 F fun x_15 hf14 hx_15 F => ?_
  refine tt ?_
  repeat (first | (with_reducible intro _) | refine ⟨ss, ?_⟩)
  refine fi hf14 F (fun hf14 _ F => ?_) (fun hf14 _ F => ?_)
  cases hf14
  obtain rfl := sr ho14
  try dsimp only at hf10
  cases hf10
  obtain rfl := sr ho10
  try dsimp only at h
  cases h
  exact fin
  refine bi hf14 fun r_16 hf14 hr_16 => ?_
  refine tt ?_
  repeat (first | (with_reducible intro _) | refine ⟨ss, ?_⟩)
  refine cD (lazarettoref01_Leq_ok hr_16) ?_
  refine tt ?_
  repeat (first | (with_reducible intro _) | refine ⟨ss, ?_⟩)
  refine fv hf14 F (fun hf14 _ F => ?_) (fun hf14 _ F => ?_)
  refine bi hf14 fun r_17 hf14 hr_17 => ?_
  refine tt ?_
  repeat (first | (with_reducible intro _) | refine ⟨ss, ?_⟩)
  refine cD (lazarettoref01_Leq_ok hr_17) ?_
  refine tt ?_
  repeat (first | (with_reducible intro _) | refine ⟨ss, ?_⟩)
  refine fv hf14 F (fun hf14 _ F => ?_) (fun hf14 _ F => ?_)
  cases hf14
  obtain rfl := sr ho14
  try dsimp only at hf10
  cases hf10
  obtain rfl := sr ho10
  try dsimp only at h
  cases h
  exact fin
  refine bi hf14 fun r_18 hf14 hr_18 => ?_
  refine tt ?_
  repeat (first | (with_reducible intro _) | refine ⟨ss, ?_⟩)
  refine cD (lazarettoref01_Join_ok hr_18) ?_
  refine tt ?_
  repeat (first | (with_reducible intro _) | refine ⟨ss, ?_⟩)
  refine fi hf14 F (fun hf14 _ F => ?_) (fun hf14 _ F => ?_)
  cases hf14
  obtain rfl := sr ho14
  try dsimp only at hf10
  cases hf10
  obtain rfl := sr ho10
  try dsimp only at h
  cases h
  exact fin
  refine bi hf14 fun r_19 hf14 hr_19 => ?_
  refine tt ?_
  repeat (first | (with_reducible intro _) | refine ⟨ss, ?_⟩)
  refine cD (lazarettoref01_Meet_ok hr_19) ?_
  refine tt ?_
  repeat (first | (with_reducible intro _) | refine ⟨ss, ?_⟩)
  refine fi hf14 F (fun hf14 _ F => ?_) (fun hf14 _ F => ?_)
  cases hf14
  obtain rfl := sr ho14
  try dsimp only at hf10
  cases hf10
  obtain rfl := sr ho10
  try dsimp only at h
  cases h
  exact fin
  cases hf14
  refine tt ?_
  refine wn b_12 F fun F => ?_
  exact bk ih14 ho14 ()
  refine bi hf14 fun r_20 hf14 hr_20 => ?_
  refine tt ?_
  repeat (first | (with_reducible intro _) | refine ⟨ss, ?_⟩)
  refine cD (lazarettoref01_Join_ok hr_20) ?_
  refine tt ?_
  repeat (first | (with_reducible intro _) | refine ⟨ss, ?_⟩)
  refine fi hf14 F (fun hf14 _ F => ?_) (fun hf14 _ F => ?_)
  cases hf14
  obtain rfl := sr ho14
  try dsimp only at hf10
  cases hf10
  obtain rfl := sr ho10
  try dsimp only at h
  cases h
  exact fin
  refine bi hf14 fun r_21 hf14 hr_21 => ?_
  refine tt ?_
  repeat (first | (with_reducible intro _) | refine ⟨ss, ?_⟩)
  refine cD (lazarettoref01_Meet_ok hr_21) ?_
  refine tt ?_
  repeat (first | (with_reducible intro _) | refine ⟨ss, ?_⟩)
  refine fi hf14 F (fun hf14 _ F => ?_) (fun hf14 _ F => ?_)
  cases hf14
  obtain rfl := sr ho14
  try dsimp only at hf10
  cases hf10
  obtain rfl := sr ho10
  try dsimp only at h
  cases h
  exact fin
  cases hf14
  refine tt ?_
  refine wn b_12 F fun F => ?_
  exact bk ih14 ho14 ()
  cases hf14
  refine tt ?_
  exact xt ho14 af14 ()
  cases hf10
  refine tt ?_
  exact xt ho10 af10 ()
  intro af3 m3 i_1 a3 o3 hf3 ho3 ih3
  obtain ⟨⟩ := a3
  dsimp only [lazarettoref01_Check_L1] at hf3 ⊢
  refine tt ?_
  repeat (first | (with_reducible intro _) | refine ⟨ss, ?_⟩)
  refine fl hf3 F (fun hf3 _ F => ?_) (fun hf3 _ F => ?_)
  refine bx hf3 F fun x_4 hf3 hx_4 F => ?_
  refine bi hf3 fun r_5 hf3 hr_5 => ?_
  refine tt ?_
  repeat (first | (with_reducible intro _) | refine ⟨ss, ?_⟩)
  refine cD (lazarettoref01_Is_ok hr_5) ?_
  refine tt ?_
  repeat (first | (with_reducible intro _) | refine ⟨ss, ?_⟩)
  refine fv hf3 F (fun hf3 _ F => ?_) (fun hf3 _ F => ?_)
  refine bi hf3 fun r_6 hf3 hr_6 => ?_
  refine tt ?_
  repeat (first | (with_reducible intro _) | refine ⟨ss, ?_⟩)
  refine cD (lazarettoref01_Is_ok hr_6) ?_
  refine tt ?_
  repeat (first | (with_reducible intro _) | refine ⟨ss, ?_⟩)
  refine fv hf3 F (fun hf3 _ F => ?_) (fun hf3 _ F => ?_)
  cases hf3
  refine tt ?_
  refine wn i_1 F fun F => ?_
  exact bk ih3 ho3 ()
  cases hf3
  obtain rfl := sr ho3
  try dsimp only at h
  cases h
  exact fin
  cases hf3
  obtain rfl := sr ho3
  try dsimp only at h
  cases h
  exact fin
  cases hf3
  refine tt ?_
  exact xt ho3 af3 ()
theorem lattice_best_ok {l : api_Lattice} {of : (Int → Option Bool)} {ahead : (Int → Int → Option Bool)} {r : Int}
    {of_f : FuncId} {of_c : List C} (of_cl : Clo of_c) (of_ok : ∀ (x0 : Int) (r : Bool), of x0 = some r → Pu Try.prog of_f ([.one (.int .i64 x0)] ++ of_c.map V.one) (.one (.bool r)))
    {ahead_f : FuncId} {ahead_c : List C} (ahead_cl : Clo ahead_c) (ahead_ok : ∀ (x0 : Int) (x1 : Int) (r : Bool), ahead x0 x1 = some r → Pu Try.prog ahead_f ([.one (.int .i64 x0), .one (.int .i64 x1)] ++ ahead_c.map V.one) (.one (.bool r))) (h : lattice_best l of ahead = some r) :
    Pu Try.prog 92 [.agg (e_api_Lattice l), .one (.fn of_f of_c), .one (.fn ahead_f ahead_c)] (.one (.int .i64 r)) := by
  have F := trivial; have R := trivial
  refine pA Try.func92 ?_
  simp only [Try.f92]
  unfold lattice_best at h
  have F := And.intro of_cl.all F
  have F := And.intro ahead_cl.all F
  refine bi h fun e_2 h he_2 => ?_
  refine tt ?_
  repeat (first | (with_reducible intro _) | refine ⟨ss, ?_⟩)
  refine lE (fun (s__ : Nat) (a__ : Unit) => match s__, a__ with | x_1, _ => ⟨[(1, .one (.fn of_f of_c)), (2, .one (.fn ahead_f ahead_c)), (3, .one (.ref 0 0 0 0)), (11, .one (.int .i64 (l.Names.length : Int))), (12, .one (.int .i64 (x_1 : Int)))], [.cells 0 2 [[.sl (l.Names.map eS), .sl (l.Below.map (eA2 eI))]]]⟩) (fun (e__ : Int ⊕ Unit) (b__ : Unit) => match e__, b__ with | (.inl e_10), _ => ⟨[], []⟩ | (.inr ()), _ => ⟨[], [.cells 0 2 [[.sl (l.Names.map eS), .sl (l.Below.map (eA2 eI))]]]⟩) (fun (e__ : Int ⊕ Unit) => match e__ with | (.inl _) => none | (.inr _) => some 0) () he_2 ?_ ?_
  intro i3 b3 hi3
  rcases e_2 with e_case | ⟨⟩
  cases hi3
  obtain rfl := Option.some.inj hi3
  obtain ⟨⟩ := b3
  dsimp only at h ⊢
  cases h; exact fin
  intro af3 m3 x_1 a3 o3 hf3 ho3 ih3
  obtain ⟨⟩ := a3
  dsimp only [lattice_best_L1] at hf3 ⊢
  refine fl hf3 F (fun hf3 _ F => ?_) (fun hf3 _ F => ?_)
  refine bi hf3 fun r_4 hf3 hr_4 => ?_
  refine tt ?_
  repeat (first | (with_reducible intro _) | refine ⟨ss, ?_⟩)
  refine cS (of_ok _ _ hr_4) ?_
  refine fv hf3 F (fun hf3 _ F => ?_) (fun hf3 _ F => ?_)
  refine bi hf3 fun e_6 hf3 he_6 => ?_
  refine tt ?_
  repeat (first | (with_reducible intro _) | refine ⟨ss, ?_⟩)
  refine lE (fun (s__ : Nat) (a__ : Unit) => match s__, a__ with | x_5, _ => ⟨[(1, .one (.fn of_f of_c)), (2, .one (.fn ahead_f ahead_c)), (3, .one (.ref 0 0 0 0)), (7, .one (.int .i64 (x_1 : Int))), (11, .one (.int .i64 (l.Names.length : Int))), (12, .one (.int .i64 (x_1 : Int))), (21, .one (.int .i64 (l.Names.length : Int))), (22, .one (.int .i64 (x_5 : Int)))], [.cells 0 2 [[.sl (l.Names.map eS), .sl (l.Below.map (eA2 eI))]]]⟩) (fun (e__ : Unit ⊕ Unit) (b__ : Unit) => match e__, b__ with | (.inl ()), _ => ⟨[(1, .one (.fn of_f of_c)), (2, .one (.fn ahead_f ahead_c)), (3, .one (.ref 0 0 0 0)), (11, .one (.int .i64 (l.Names.length : Int))), (12, .one (.int .i64 (x_1 : Int)))], [.cells 0 2 [[.sl (l.Names.map eS), .sl (l.Below.map (eA2 eI))]]]⟩ | (.inr ()), _ => ⟨[(7, .one (.int .i64 (x_1 : Int)))], [.cells 0 2 [[.sl (l.Names.map eS), .sl (l.Below.map (eA2 eI))]]]⟩) (fun (e__ : Unit ⊕ Unit) => match e__ with | (.inl _) => some 1 | (.inr _) => some 2) () he_6 ?_ ?_
  intro i7 b7 hi7
  rcases e_6 with ⟨⟩ | ⟨⟩
  obtain rfl := Option.some.inj hi7
  obtain ⟨⟩ := b7
  dsimp only at hf3 ⊢
  cases hf3
  refine tt ?_
  refine wn x_1 F fun F => ?_
  exact bk ih3 ho3 ()
  obtain rfl := Option.some.inj hi7
  obtain ⟨⟩ := b7
  dsimp only at hf3 ⊢
  cases hf3
  obtain rfl := sr ho3
  try dsimp only at h
  cases h
  exact fin
  intro af7 m7 x_5 a7 o7 hf7 ho7 ih7
  obtain ⟨⟩ := a7
  dsimp only [lattice_best_L2] at hf7 ⊢
  refine fl hf7 F (fun hf7 _ F => ?_) (fun hf7 _ F => ?_)
  refine bi hf7 fun r_8 hf7 hr_8 => ?_
  refine tt ?_
  repeat (first | (with_reducible intro _) | refine ⟨ss, ?_⟩)
  refine cS (of_ok _ _ hr_8) ?_
  refine fv hf7 F (fun hf7 _ F => ?_) (fun hf7 _ F => ?_)
  refine bi hf7 fun r_9 hf7 hr_9 => ?_
  refine tt ?_
  repeat (first | (with_reducible intro _) | refine ⟨ss, ?_⟩)
  refine cS (ahead_ok _ _ _ hr_9) ?_
  refine fv hf7 F (fun hf7 _ F => ?_) (fun hf7 _ F => ?_)
  cases hf7
  refine tt ?_
  refine wn x_5 F fun F => ?_
  exact bk ih7 ho7 ()
  cases hf7
  refine tt ?_
  exact xt ho7 af7 ()
  cases hf7
  refine tt ?_
  refine wn x_5 F fun F => ?_
  exact bk ih7 ho7 ()
  cases hf7
  refine tt ?_
  exact xt ho7 af7 ()
  cases hf3
  refine tt ?_
  refine wn x_1 F fun F => ?_
  exact bk ih3 ho3 ()
  cases hf3
  refine tt ?_
  exact xt ho3 af3 ()
theorem lattice_all_ok {p0 : Int} {r : Bool} (h : lattice_all p0 = some r) :
    Pu Try.prog 93 [.one (.int .i64 p0)] (.one (.bool r)) := by
  have F := trivial; have R := trivial
  refine pA Try.func93 ?_
  simp only [Try.f93]
  unfold lattice_all at h
  cases h; exact fin
theorem lattice_Bottom_1_ok {c0 : api_Lattice} {c : Int} {d : Int} {r : Bool} (h : lattice_Bottom_1 c0 c d = some r) :
    Pu Try.prog 94 [.one (.int .i64 c), .one (.int .i64 d), .one (.iptr (e_api_Lattice c0) 0)] (.one (.bool r)) := by
  have F := trivial; have R := trivial
  refine pA Try.func94 ?_
  simp only [Try.f94]
  unfold lattice_Bottom_1 at h
  refine bi h fun r_1 h hr_1 => ?_
  refine tt ?_
  repeat (first | (with_reducible intro _) | refine ⟨ss, ?_⟩)
  refine cS (lattice_Leq_ok hr_1) ?_
  cases h; exact fin
theorem lattice_Bottom_ok {l : api_Lattice} {r : Int} (h : lattice_Bottom l = some r) :
    Pu Try.prog 72 [.agg (e_api_Lattice l)] (.one (.int .i64 r)) := by
  have F := trivial; have R := trivial
  refine pA Try.func72 ?_
  simp only [Try.f72]
  unfold lattice_Bottom at h
  refine bi h fun r_1 h hr_1 => ?_
  refine tt ?_
  repeat (first | (with_reducible intro _) | refine ⟨ss, ?_⟩)
  refine cS (lattice_best_ok (of_f := 93) (of_c := []) clo (fun _ r h => lattice_all_ok h) (ahead_f := 94) (ahead_c := [.iptr [.sl (l.Names.map eS), .sl (l.Below.map (eA2 eI))] 0]) clo (fun _ _ r h => lattice_Bottom_1_ok h) hr_1) ?_
  cases h; exact fin
theorem lattice_Join_1_ok {c0 : List Bool} {c1 : List Bool} {c : Int} {r : Bool} (h : lattice_Join_1 c0 c1 c = some r) :
    Pu Try.prog 97 [.one (.int .i64 c), .one (.iptr ((eL eB) c0) 0), .one (.iptr ((eL eB) c1) 0)] (.one (.bool r)) := by
  have F := trivial; have R := trivial
  refine pA Try.func97 ?_
  simp only [Try.f97]
  unfold lattice_Join_1 at h
  refine by_ h F fun x_1 h hx_1 F => ?_
  refine tt ?_
  repeat (first | (with_reducible intro _) | refine ⟨ss, ?_⟩)
  refine fv h F (fun h _ F => ?_) (fun h _ F => ?_)
  refine by_ h F fun x_2 h hx_2 F => ?_
  cases h; exact fin
  cases h; exact fin
theorem lattice_Join_2_ok {c0 : api_Lattice} {c : Int} {d : Int} {r : Bool} (h : lattice_Join_2 c0 c d = some r) :
    Pu Try.prog 98 [.one (.int .i64 c), .one (.int .i64 d), .one (.iptr (e_api_Lattice c0) 0)] (.one (.bool r)) := by
  have F := trivial; have R := trivial
  refine pA Try.func98 ?_
  simp only [Try.f98]
  unfold lattice_Join_2 at h
  refine bi h fun r_1 h hr_1 => ?_
  refine tt ?_
  repeat (first | (with_reducible intro _) | refine ⟨ss, ?_⟩)
  refine cS (lattice_Leq_ok hr_1) ?_
  cases h; exact fin
theorem lattice_Join_ok {l : api_Lattice} {a : Int} {b : Int} {r : Int} (h : lattice_Join l a b = some r) :
    Pu Try.prog 73 [.agg (e_api_Lattice l), .one (.int .i64 a), .one (.int .i64 b)] (.one (.int .i64 r)) := by
  have F := trivial; have R := trivial
  refine pA Try.func73 ?_
  simp only [Try.f73]
  unfold lattice_Join at h
  refine bi h fun r_1 h hr_1 => ?_
  refine tt ?_
  repeat (first | (with_reducible intro _) | refine ⟨ss, ?_⟩)
  refine cS (lattice_is_ok hr_1) ?_
  refine fv h F (fun h _ F => ?_) (fun h _ F => ?_)
  refine bi h fun r_2 h hr_2 => ?_
  refine tt ?_
  repeat (first | (with_reducible intro _) | refine ⟨ss, ?_⟩)
  refine cS (lattice_is_ok hr_2) ?_
  refine fv h F (fun h _ F => ?_) (fun h _ F => ?_)
  refine bi h fun r_3 h hr_3 => ?_
  refine tt ?_
  repeat (first | (with_reducible intro _) | refine ⟨ss, ?_⟩)
  refine cD (lattice_above_ok hr_3) ?_
  refine bi h fun r_4 h hr_4 => ?_
  refine tt ?_
  repeat (first | (with_reducible intro _) | refine ⟨ss, ?_⟩)
  refine cD (lattice_above_ok hr_4) ?_
  refine bi h fun r_5 h hr_5 => ?_
  refine tt ?_
  repeat (first | (with_reducible intro _) | refine ⟨ss, ?_⟩)
  refine cS (lattice_best_ok (of_f := 97) (of_c := [.iptr [.sl (r_3.map eB)] 0, .iptr [.sl (r_4.map eB)] 0]) clo (fun _ r h => lattice_Join_1_ok h) (ahead_f := 98) (ahead_c := [.iptr [.sl (l.Names.map eS), .sl (l.Below.map (eA2 eI))] 0]) clo (fun _ _ r h => lattice_Join_2_ok h) hr_5) ?_
  cases h; exact fin
  cases h; exact fin
  cases h; exact fin
theorem solve_All_ok {l : api_Lattice} {set_ : List Int} {r : Int} (h : solve_All l set_ = some r) :
    Pu Try.prog 34 [.agg (e_api_Lattice l), .one (.sl (set_.map eI))] (.one (.int .i64 r)) := by
  have F := trivial; have R := trivial
  refine pA Try.func34 ?_
  simp only [Try.f34]
  unfold solve_All at h
  refine bi h fun r_1 h hr_1 => ?_
  refine tt ?_
  repeat (first | (with_reducible intro _) | refine ⟨ss, ?_⟩)
  refine cS (lattice_Bottom_ok hr_1) ?_
  refine bi h fun e_4 h he_4 => ?_
  refine tt ?_
  repeat (first | (with_reducible intro _) | refine ⟨ss, ?_⟩)
  refine lE (fun (s__ : Int × Nat) (a__ : Unit) => match s__, a__ with | (a_2, x_3), _ => ⟨[(2, .one (.ref 0 0 0 0)), (5, .one (.int .i64 a_2)), (10, .one (.sl (set_.map eI))), (11, .one (.int .i64 (set_.length : Int))), (12, .one (.int .i64 (x_3 : Int)))], [.cells 0 2 [[.sl (l.Names.map eS), .sl (l.Below.map (eA2 eI))]]]⟩) (fun (e__ : Int ⊕ Int) (b__ : Unit) => match e__, b__ with | (.inl e_8), _ => ⟨[], []⟩ | (.inr a_9), _ => ⟨[(5, .one (.int .i64 a_9))], [.cells 0 2 [[.sl (l.Names.map eS), .sl (l.Below.map (eA2 eI))]]]⟩) (fun (e__ : Int ⊕ Int) => match e__ with | (.inl _) => none | (.inr _) => some 0) () he_4 ?_ ?_
  intro i5 b5 hi5
  rcases e_4 with e_case | a_9
  cases hi5
  obtain rfl := Option.some.inj hi5
  obtain ⟨⟩ := b5
  dsimp only at h ⊢
  cases h; exact fin
  intro af5 m5 s5 a5 o5 hf5 ho5 ih5
  obtain ⟨a_2, x_3⟩ := s5
  obtain ⟨⟩ := a5
  dsimp only [solve_All_L1] at hf5 ⊢
  refine fl hf5 F (fun hf5 _ F => ?_) (fun hf5 _ F => ?_)
  refine bx hf5 F fun x_6 hf5 hx_6 F => ?_
  refine tt ?_
  repeat (first | (with_reducible intro _) | refine ⟨ss, ?_⟩)
  refine fi hf5 F (fun hf5 _ F => ?_) (fun hf5 _ F => ?_)
  cases hf5
  obtain rfl := sr ho5
  try dsimp only at h
  cases h
  exact fin
  refine fi hf5 F (fun hf5 _ F => ?_) (fun hf5 _ F => ?_)
  cases hf5
  obtain rfl := sr ho5
  try dsimp only at h
  cases h
  exact fin
  refine tt ?_
  repeat (first | (with_reducible intro _) | refine ⟨ss, ?_⟩)
  refine fi hf5 F (fun hf5 _ F => ?_) (fun hf5 _ F => ?_)
  cases hf5
  obtain rfl := sr ho5
  try dsimp only at h
  cases h
  exact fin
  refine bi hf5 fun r_7 hf5 hr_7 => ?_
  refine tt ?_
  repeat (first | (with_reducible intro _) | refine ⟨ss, ?_⟩)
  refine cS (lattice_Join_ok hr_7) ?_
  cases hf5
  refine tt ?_
  refine wn x_3 F fun F => ?_
  exact bk ih5 ho5 ()
  cases hf5
  refine tt ?_
  exact xt ho5 af5 ()
theorem lazarettoref02_Ints_ok {a : List Int} {b : List Int} {r : Bool} (h : lazarettoref02_Ints a b = some r) :
    Pu Try.prog 36 [.one (.sl (a.map eI)), .one (.sl (b.map eI))] (.one (.bool r)) := by
  have F := trivial; have R := trivial
  refine pA Try.func36 ?_
  simp only [Try.f36]
  unfold lazarettoref02_Ints at h
  refine tt ?_
  repeat (first | (with_reducible intro _) | refine ⟨ss, ?_⟩)
  refine fi h F (fun h _ F => ?_) (fun h _ F => ?_)
  refine bi h fun e_2 h he_2 => ?_
  refine tt ?_
  refine lE (fun (s__ : Nat) (a__ : Unit) => match s__, a__ with | i_1, _ => ⟨[(0, .one (.sl (a.map eI))), (1, .one (.sl (b.map eI))), (5, .one (.int .i64 (i_1 : Int)))], []⟩) (fun (e__ : Bool ⊕ Unit) (b__ : Unit) => match e__, b__ with | (.inl e_6), _ => ⟨[], []⟩ | (.inr ()), _ => ⟨[], []⟩) (fun (e__ : Bool ⊕ Unit) => match e__ with | (.inl _) => none | (.inr _) => some 0) () he_2 ?_ ?_
  intro i3 b3 hi3
  rcases e_2 with e_case | ⟨⟩
  cases hi3
  obtain rfl := Option.some.inj hi3
  obtain ⟨⟩ := b3
  dsimp only at h ⊢
  cases h; exact fin
  intro af3 m3 i_1 a3 o3 hf3 ho3 ih3
  obtain ⟨⟩ := a3
  dsimp only [lazarettoref02_Ints_L1] at hf3 ⊢
  refine tt ?_
  repeat (first | (with_reducible intro _) | refine ⟨ss, ?_⟩)
  refine fl hf3 F (fun hf3 _ F => ?_) (fun hf3 _ F => ?_)
  refine bx hf3 F fun x_4 hf3 hx_4 F => ?_
  refine bx hf3 F fun x_5 hf3 hx_5 F => ?_
  refine tt ?_
  repeat (first | (with_reducible intro _) | refine ⟨ss, ?_⟩)
  refine fi hf3 F (fun hf3 _ F => ?_) (fun hf3 _ F => ?_)
  cases hf3
  refine tt ?_
  refine wn i_1 F fun F => ?_
  exact bk ih3 ho3 ()
  cases hf3
  obtain rfl := sr ho3
  try dsimp only at h
  cases h
  exact fin
  cases hf3
  refine tt ?_
  exact xt ho3 af3 ()
  cases h; exact fin
theorem solve_keep_ok {l : api_Lattice} {so : (Int → Option Bool)} {r : List Int}
    {so_f : FuncId} {so_c : List C} (so_cl : Clo so_c) (so_ok : ∀ (x0 : Int) (r : Bool), so x0 = some r → Pu Try.prog so_f ([.one (.int .i64 x0)] ++ so_c.map V.one) (.one (.bool r))) (h : solve_keep l so = some r) :
    Pu Try.prog 75 [.agg (e_api_Lattice l), .one (.fn so_f so_c)] (.one (.sl (r.map eI))) := by
  have F := trivial; have R := trivial
  refine pA Try.func75 ?_
  simp only [Try.f75]
  unfold solve_keep at h
  have F := And.intro so_cl.all F
  refine bi h fun e_5 h he_5 => ?_
  refine tt ?_
  repeat (first | (with_reducible intro _) | refine ⟨ss, ?_⟩)
  refine seed_L 5 1 (by simp [go_sem]) ?_
  refine lE (fun (s__ : (List Int) × Nat) (a__ : Nat) => match s__, a__ with | (out_2, x_4), v_1 => ⟨[(1, .one (.fn so_f so_c)), (5, .one (.msl 1 v_1 0 out_2.length)), (9, .one (.int .i64 (l.Names.length : Int))), (10, .one (.int .i64 (x_4 : Int)))], [.cells 0 2 [[.sl (l.Names.map eS), .sl (l.Below.map (eA2 eI))]], .cells v_1 1 (out_2.map eI)]⟩) (fun (e__ : List Int) (b__ : Nat) => match e__, b__ with | e_5, b6 => ⟨[(5, .one (.msl 1 b6 0 e_5.length))], [.cells 0 2 [[.sl (l.Names.map eS), .sl (l.Below.map (eA2 eI))]], .cells b6 1 (e_5.map eI)]⟩) (fun (_ : List Int) => some 0) 0 he_5 ?_ ?_
  intro i6 b6 hi6
  obtain rfl := Option.some.inj hi6
  dsimp only at h ⊢
  cases h; exact fin
  intro af6 m6 s6 v_1 o6 hf6 ho6 ih6
  obtain ⟨out_2, x_4⟩ := s6
  dsimp only [solve_keep_L1] at hf6 ⊢
  refine fl hf6 F (fun hf6 _ F => ?_) (fun hf6 _ F => ?_)
  refine bi hf6 fun r_7 hf6 hr_7 => ?_
  refine tt ?_
  repeat (first | (with_reducible intro _) | refine ⟨ss, ?_⟩)
  refine cS (so_ok _ _ hr_7) ?_
  refine fv hf6 F (fun hf6 _ F => ?_) (fun hf6 _ F => ?_)
  refine nd hf6 F fun hf6 F => ?_
  cases hf6
  refine tt ?_
  repeat (first | (with_reducible intro _) | refine ⟨ss, ?_⟩)
  refine wn x_4 F fun F => ?_
  exact bk ih6 ho6 (v_1 + 1)
  cases hf6
  refine tt ?_
  refine wn x_4 F fun F => ?_
  exact bk ih6 ho6 v_1
  cases hf6
  refine tt ?_
  exact xt ho6 af6 v_1
theorem solve_Up_1_ok {c0 : api_Lattice} {c1 : Int} {c : Int} {r : Bool} (h : solve_Up_1 c0 c1 c = some r) :
    Pu Try.prog 76 [.one (.int .i64 c), .one (.iptr (e_api_Lattice c0) 0), .one (.iptr (eI c1) 0)] (.one (.bool r)) := by
  have F := trivial; have R := trivial
  refine pA Try.func76 ?_
  simp only [Try.f76]
  unfold solve_Up_1 at h
  refine bi h fun r_1 h hr_1 => ?_
  refine tt ?_
  repeat (first | (with_reducible intro _) | refine ⟨ss, ?_⟩)
  refine cS (lattice_Leq_ok hr_1) ?_
  cases h; exact fin
theorem solve_Up_ok {l : api_Lattice} {a : Int} {r : List Int} (h : solve_Up l a = some r) :
    Pu Try.prog 37 [.agg (e_api_Lattice l), .one (.int .i64 a)] (.one (.sl (r.map eI))) := by
  have F := trivial; have R := trivial
  refine pA Try.func37 ?_
  simp only [Try.f37]
  unfold solve_Up at h
  refine bi h fun r_1 h hr_1 => ?_
  refine tt ?_
  repeat (first | (with_reducible intro _) | refine ⟨ss, ?_⟩)
  refine cF [0, 1] (solve_keep_ok (so_f := 76) (so_c := [.iptr [.sl (l.Names.map eS), .sl (l.Below.map (eA2 eI))] 0, .iptr [.int .i64 a] 0]) clo (fun _ r h => solve_Up_1_ok h) hr_1) ?_
  cases h; exact fin
theorem solve_Down_1_ok {c0 : api_Lattice} {c1 : Int} {c : Int} {r : Bool} (h : solve_Down_1 c0 c1 c = some r) :
    Pu Try.prog 78 [.one (.int .i64 c), .one (.iptr (e_api_Lattice c0) 0), .one (.iptr (eI c1) 0)] (.one (.bool r)) := by
  have F := trivial; have R := trivial
  refine pA Try.func78 ?_
  simp only [Try.f78]
  unfold solve_Down_1 at h
  refine bi h fun r_1 h hr_1 => ?_
  refine tt ?_
  repeat (first | (with_reducible intro _) | refine ⟨ss, ?_⟩)
  refine cS (lattice_Leq_ok hr_1) ?_
  cases h; exact fin
theorem solve_Down_ok {l : api_Lattice} {a : Int} {r : List Int} (h : solve_Down l a = some r) :
    Pu Try.prog 39 [.agg (e_api_Lattice l), .one (.int .i64 a)] (.one (.sl (r.map eI))) := by
  have F := trivial; have R := trivial
  refine pA Try.func39 ?_
  simp only [Try.f39]
  unfold solve_Down at h
  refine bi h fun r_1 h hr_1 => ?_
  refine tt ?_
  repeat (first | (with_reducible intro _) | refine ⟨ss, ?_⟩)
  refine cF [0, 1] (solve_keep_ok (so_f := 78) (so_c := [.iptr [.sl (l.Names.map eS), .sl (l.Below.map (eA2 eI))] 0, .iptr [.int .i64 a] 0]) clo (fun _ r h => solve_Down_1_ok h) hr_1) ?_
  cases h; exact fin
theorem solve_row_int_at_ok {r_ : solve_row_int} {i : Int} {r : Int × Bool} (h : solve_row_int_at r_ i = some r) :
    Pu Try.prog 79 [.agg (e_solve_row_int r_), .one (.int .i64 i)] (.tup [.one (.int .i64 r.1), .one (.bool r.2)]) := by
  have F := trivial; have R := trivial
  refine pA Try.func79 ?_
  simp only [Try.f79]
  unfold solve_row_int_at at h
  refine fi h F (fun h _ F => ?_) (fun h _ F => ?_)
  cases h; exact fin
  refine tt ?_
  repeat (first | (with_reducible intro _) | refine ⟨ss, ?_⟩)
  refine fi h F (fun h _ F => ?_) (fun h _ F => ?_)
  cases h; exact fin
  refine by_ h F fun x_1 h hx_1 F => ?_
  cases h; exact fin
theorem solve_Holds_ok {l : api_Lattice} {labels : List Int} {rules : List (A2 Int)} {r : Bool} (h : solve_Holds l labels rules = some r) :
    Pu Try.prog 43 [.agg (e_api_Lattice l), .one (.sl (labels.map eI)), .one (.sl (rules.map (eA2 eI)))] (.one (.bool r)) := by
  have F := trivial; have R := trivial
  refine pA Try.func43 ?_
  simp only [Try.f43]
  unfold solve_Holds at h
  refine bi h fun e_2 h he_2 => ?_
  refine tt ?_
  repeat (first | (with_reducible intro _) | refine ⟨ss, ?_⟩)
  refine lE (fun (s__ : Nat) (a__ : Unit) => match s__, a__ with | x_1, _ => ⟨[(3, .one (.ref 0 0 0 0)), (7, .one (.ref 1 0 0 0)), (16, .one (.sl (rules.map (eA2 eI)))), (17, .one (.int .i64 (rules.length : Int))), (18, .one (.int .i64 (x_1 : Int)))], [.cells 0 2 [[.sl (l.Names.map eS), .sl (l.Below.map (eA2 eI))]], .cells 0 1 [[.sl (labels.map eI)]]]⟩) (fun (e__ : Bool ⊕ Unit) (b__ : Unit) => match e__, b__ with | (.inl e_8), _ => ⟨[], []⟩ | (.inr ()), _ => ⟨[], [.cells 0 2 [[.sl (l.Names.map eS), .sl (l.Below.map (eA2 eI))]], .cells 0 1 [[.sl (labels.map eI)]]]⟩) (fun (e__ : Bool ⊕ Unit) => match e__ with | (.inl _) => none | (.inr _) => some 0) () he_2 ?_ ?_
  intro i3 b3 hi3
  rcases e_2 with e_case | ⟨⟩
  cases hi3
  obtain rfl := Option.some.inj hi3
  obtain ⟨⟩ := b3
  dsimp only at h ⊢
  cases h; exact fin
  intro af3 m3 x_1 a3 o3 hf3 ho3 ih3
  obtain ⟨⟩ := a3
  dsimp only [solve_Holds_L1] at hf3 ⊢
  refine fl hf3 F (fun hf3 _ F => ?_) (fun hf3 _ F => ?_)
  refine bx hf3 F fun x_4 hf3 hx_4 F => ?_
  refine bi hf3 fun r_5 hf3 hr_5 => ?_
  refine tt ?_
  repeat (first | (with_reducible intro _) | refine ⟨ss, ?_⟩)
  refine cS (solve_row_int_at_ok hr_5) ?_
  refine bi hf3 fun r_6 hf3 hr_6 => ?_
  refine tt ?_
  repeat (first | (with_reducible intro _) | refine ⟨ss, ?_⟩)
  refine cS (solve_row_int_at_ok hr_6) ?_
  refine tt ?_
  refine fv hf3 F (fun hf3 _ F => ?_) (fun hf3 _ F => ?_)
  refine fv hf3 F (fun hf3 _ F => ?_) (fun hf3 _ F => ?_)
  refine bi hf3 fun r_7 hf3 hr_7 => ?_
  refine tt ?_
  repeat (first | (with_reducible intro _) | refine ⟨ss, ?_⟩)
  refine cS (lattice_Leq_ok hr_7) ?_
  refine fv hf3 F (fun hf3 _ F => ?_) (fun hf3 _ F => ?_)
  cases hf3
  refine tt ?_
  refine wn x_1 F fun F => ?_
  exact bk ih3 ho3 ()
  cases hf3
  obtain rfl := sr ho3
  try dsimp only at h
  cases h
  exact fin
  cases hf3
  obtain rfl := sr ho3
  try dsimp only at h
  cases h
  exact fin
  cases hf3
  obtain rfl := sr ho3
  try dsimp only at h
  cases h
  exact fin
  cases hf3
  refine tt ?_
  exact xt ho3 af3 ()
theorem solve_Least_ok {l : api_Lattice} {fixed : List Int} {rules : List (A2 Int)} {r : (List Int) × Bool} (h : solve_Least l fixed rules = some r) :
    Pu Try.prog 41 [.agg (e_api_Lattice l), .one (.sl (fixed.map eI)), .one (.sl (rules.map (eA2 eI)))] (.tup [.one (.sl (r.1.map eI)), .one (.bool r.2)]) := by
  have F := trivial; have R := trivial
  refine pA Try.func41 ?_
  simp only [Try.f41]
  unfold solve_Least at h
  refine bi h fun r_1 h hr_1 => ?_
  refine tt ?_
  repeat (first | (with_reducible intro _) | refine ⟨ss, ?_⟩)
  refine cS (lattice_Bottom_ok hr_1) ?_
  refine fi h F (fun h _ F => ?_) (fun h _ F => ?_)
  cases h; exact fin
  refine nd h F fun h F => ?_
  have R := And.intro (show List.replicate fixed.length [.int .i64 0] = List.map eI (List.replicate fixed.length 0) by simp [go_sem]) R
  refine bi h fun e_5 h he_5 => ?_
  refine tt ?_
  repeat (first | (with_reducible intro _) | refine ⟨ss, ?_⟩)
  refine lE (fun (s__ : (List Int) × Nat) (a__ : Unit) => match s__, a__ with | (out_3, x_4), _ => ⟨[(1, .one (.sl (fixed.map eI))), (2, .one (.sl (rules.map (eA2 eI)))), (3, .one (.ref 0 0 0 0)), (8, .one (.int .i64 r_1)), (9, .one (.msl 1 0 0 out_3.length)), (31, .one (.sl (fixed.map eI))), (32, .one (.int .i64 (fixed.length : Int))), (33, .one (.int .i64 (x_4 : Int)))], [.cells 0 2 [[.sl (l.Names.map eS), .sl (l.Below.map (eA2 eI))]], .cells 0 1 (out_3.map eI)]⟩) (fun (e__ : ((List Int) × Bool) ⊕ (List Int)) (b__ : Unit) => match e__, b__ with | (.inl e_10), _ => ⟨[], []⟩ | (.inr out_11), _ => ⟨[(1, .one (.sl (fixed.map eI))), (2, .one (.sl (rules.map (eA2 eI)))), (3, .one (.ref 0 0 0 0)), (9, .one (.msl 1 0 0 out_11.length))], [.cells 0 2 [[.sl (l.Names.map eS), .sl (l.Below.map (eA2 eI))]], .cells 0 1 (out_11.map eI)]⟩) (fun (e__ : ((List Int) × Bool) ⊕ (List Int)) => match e__ with | (.inl _) => none | (.inr _) => some 0) () he_5 ?_ ?_
  intro i6 b6 hi6
  rcases e_5 with e_case | out_11
  cases hi6
  obtain rfl := Option.some.inj hi6
  obtain ⟨⟩ := b6
  dsimp only at h ⊢
  refine bi h fun e_13 h he_13 => ?_
  refine tt ?_
  repeat (first | (with_reducible intro _) | refine ⟨ss, ?_⟩)
  refine lE (fun (s__ : Nat) (a__ : Unit) => match s__, a__ with | x_12, _ => ⟨[(1, .one (.sl (fixed.map eI))), (2, .one (.sl (rules.map (eA2 eI)))), (3, .one (.ref 0 0 0 0)), (9, .one (.msl 1 0 0 out_11.length)), (12, .one (.ref 2 0 0 0)), (60, .one (.sl (rules.map (eA2 eI)))), (61, .one (.int .i64 (rules.length : Int))), (62, .one (.int .i64 (x_12 : Int)))], [.cells 0 2 [[.sl (l.Names.map eS), .sl (l.Below.map (eA2 eI))]], .cells 0 1 (out_11.map eI), .cells 0 1 [[.msl 1 0 0 out_11.length]]]⟩) (fun (e__ : ((List Int) × Bool) ⊕ Unit) (b__ : Unit) => match e__, b__ with | (.inl e_18), _ => ⟨[], []⟩ | (.inr ()), _ => ⟨[(1, .one (.sl (fixed.map eI))), (2, .one (.sl (rules.map (eA2 eI)))), (3, .one (.ref 0 0 0 0)), (9, .one (.msl 1 0 0 out_11.length))], [.cells 0 2 [[.sl (l.Names.map eS), .sl (l.Below.map (eA2 eI))]], .cells 0 1 (out_11.map eI), .cells 0 1 [[.msl 1 0 0 out_11.length]]]⟩) (fun (e__ : ((List Int) × Bool) ⊕ Unit) => match e__ with | (.inl _) => none | (.inr _) => some 2) () he_13 ?_ ?_
  intro i14 b14 hi14
  rcases e_13 with e_case | ⟨⟩
  cases hi14
  obtain rfl := Option.some.inj hi14
  obtain ⟨⟩ := b14
  dsimp only at h ⊢
  refine bi h fun e_21 h he_21 => ?_
  refine tt ?_
  refine lE (fun (s__ : (List Int) × Bool) (a__ : Unit) => match s__, a__ with | (out_19, again_20), _ => ⟨[(1, .one (.sl (fixed.map eI))), (2, .one (.sl (rules.map (eA2 eI)))), (3, .one (.ref 0 0 0 0)), (9, .one (.msl 1 0 0 out_19.length)), (19, .one (.bool again_20))], [.cells 0 2 [[.sl (l.Names.map eS), .sl (l.Below.map (eA2 eI))]], .cells 0 1 (out_19.map eI), .cells 0 1 [[.msl 1 0 0 out_19.length]]]⟩) (fun (e__ : ((List Int) × Bool) ⊕ (List Int)) (b__ : Unit) => match e__, b__ with | (.inl e_38), _ => ⟨[], []⟩ | (.inr out_39), _ => ⟨[(2, .one (.sl (rules.map (eA2 eI)))), (3, .one (.ref 0 0 0 0)), (9, .one (.msl 1 0 0 out_39.length))], [.cells 0 2 [[.sl (l.Names.map eS), .sl (l.Below.map (eA2 eI))]], .cells 0 1 (out_39.map eI), .cells 0 1 [[.msl 1 0 0 out_39.length]]]⟩) (fun (e__ : ((List Int) × Bool) ⊕ (List Int)) => match e__ with | (.inl _) => none | (.inr _) => some 4) () he_21 ?_ ?_
  intro i22 b22 hi22
  rcases e_21 with e_case | out_39
  cases hi22
  obtain rfl := Option.some.inj hi22
  obtain ⟨⟩ := b22
  dsimp only at h ⊢
  refine bi h fun r_40 h hr_40 => ?_
  refine tt ?_
  repeat (first | (with_reducible intro _) | refine ⟨ss, ?_⟩)
  refine cS (solve_Holds_ok hr_40) ?_
  refine fv h F (fun h _ F => ?_) (fun h _ F => ?_)
  cases h; exact fin
  cases h; exact fin
  intro af22 m22 s22 a22 o22 hf22 ho22 ih22
  obtain ⟨out_19, again_20⟩ := s22
  obtain ⟨⟩ := a22
  dsimp only [solve_Least_L3] at hf22 ⊢
  refine fv hf22 F (fun hf22 _ F => ?_) (fun hf22 _ F => ?_)
  refine bi hf22 fun e_26 hf22 he_26 => ?_
  refine tt ?_
  repeat (first | (with_reducible intro _) | refine ⟨ss, ?_⟩)
  refine lE (fun (s__ : (List Int) × Bool × Nat) (a__ : Unit) => match s__, a__ with | (out_23, again_24, x_25), _ => ⟨[(1, .one (.sl (fixed.map eI))), (2, .one (.sl (rules.map (eA2 eI)))), (3, .one (.ref 0 0 0 0)), (9, .one (.msl 1 0 0 out_23.length)), (19, .one (.bool again_24)), (88, .one (.sl (rules.map (eA2 eI)))), (89, .one (.int .i64 (rules.length : Int))), (90, .one (.int .i64 (x_25 : Int)))], [.cells 0 2 [[.sl (l.Names.map eS), .sl (l.Below.map (eA2 eI))]], .cells 0 1 (out_23.map eI), .cells 0 1 [[.msl 1 0 0 out_23.length]]]⟩) (fun (e__ : ((List Int) × Bool) ⊕ ((List Int) × Bool)) (b__ : Unit) => match e__, b__ with | (.inl e_35), _ => ⟨[], []⟩ | (.inr (out_36, again_37)), _ => ⟨[(1, .one (.sl (fixed.map eI))), (2, .one (.sl (rules.map (eA2 eI)))), (3, .one (.ref 0 0 0 0)), (9, .one (.msl 1 0 0 out_36.length)), (19, .one (.bool again_37))], [.cells 0 2 [[.sl (l.Names.map eS), .sl (l.Below.map (eA2 eI))]], .cells 0 1 (out_36.map eI), .cells 0 1 [[.msl 1 0 0 out_36.length]]]⟩) (fun (e__ : ((List Int) × Bool) ⊕ ((List Int) × Bool)) => match e__ with | (.inl _) => none | (.inr _) => some 6) () he_26 ?_ ?_
  intro i27 b27 hi27
  rcases e_26 with e_case | ⟨out_36, again_37⟩
  cases hi27
  obtain rfl := Option.some.inj hi27
  obtain ⟨⟩ := b27
  dsimp only at hf22 ⊢
  cases hf22
  refine tt ?_
  exact bk ih22 ho22 ()
  intro af27 m27 s27 a27 o27 hf27 ho27 ih27
  obtain ⟨out_23, again_24, x_25⟩ := s27
  obtain ⟨⟩ := a27
  dsimp only [solve_Least_L4] at hf27 ⊢
  refine fl hf27 F (fun hf27 _ F => ?_) (fun hf27 _ F => ?_)
  refine bx hf27 F fun x_28 hf27 hx_28 F => ?_
  refine by_ hf27 F fun x_29 hf27 hx_29 F => ?_
  refine tt ?_
  repeat (first | (with_reducible intro _) | refine ⟨ss, ?_⟩)
  refine fi hf27 F (fun hf27 _ F => ?_) (fun hf27 _ F => ?_)
  refine by_ hf27 F fun x_30 hf27 hx_30 F => ?_
  refine by_ hf27 F fun x_31 hf27 hx_31 F => ?_
  refine bi hf27 fun r_32 hf27 hr_32 => ?_
  refine tt ?_
  repeat (first | (with_reducible intro _) | refine ⟨ss, ?_⟩)
  refine cD (lattice_Leq_ok hr_32) ?_
  refine tt ?_
  repeat (first | (with_reducible intro _) | refine ⟨ss, ?_⟩)
  refine fv hf27 F (fun hf27 _ F => ?_) (fun hf27 _ F => ?_)
  cases hf27
  refine tt ?_
  refine wn x_25 F fun F => ?_
  exact bk ih27 ho27 ()
  refine bi hf27 fun r_33 hf27 hr_33 => ?_
  refine tt ?_
  repeat (first | (with_reducible intro _) | refine ⟨ss, ?_⟩)
  refine cD (lattice_Join_ok hr_33) ?_
  have R := And.intro (show (List.map eI out_23).set x_28.a1.toNat [.int .i64 r_33] = List.map eI (out_23.set x_28.a1.toNat r_33) by simp [go_sem, List.map_set]) R
  refine by_ hf27 F fun x_34 hf27 hx_34 F => ?_
  refine ln F fun F => ?_
  refine tt ?_
  repeat (first | (with_reducible intro _) | refine ⟨ss, ?_⟩)
  refine fi hf27 F (fun hf27 _ F => ?_) (fun hf27 _ F => ?_)
  cases hf27
  refine tt ?_
  refine wn x_25 F fun F => ?_
  exact bk ih27 ho27 ()
  cases hf27
  obtain rfl := sr ho27
  try dsimp only at hf22
  cases hf22
  obtain rfl := sr ho22
  try dsimp only at h
  cases h
  exact fin
  cases hf27
  refine tt ?_
  repeat (first | (with_reducible intro _) | refine ⟨ss, ?_⟩)
  refine wn x_25 F fun F => ?_
  exact bk ih27 ho27 ()
  cases hf27
  refine tt ?_
  exact xt ho27 af27 ()
  cases hf22
  refine tt ?_
  exact xt ho22 af22 ()
  intro af14 m14 x_12 a14 o14 hf14 ho14 ih14
  obtain ⟨⟩ := a14
  dsimp only [solve_Least_L2] at hf14 ⊢
  refine fl hf14 F (fun hf14 _ F => ?_) (fun hf14 _ F => ?_)
  refine bx hf14 F fun x_15 hf14 hx_15 F => ?_
  refine bi hf14 fun r_16 hf14 hr_16 => ?_
  refine tt ?_
  repeat (first | (with_reducible intro _) | refine ⟨ss, ?_⟩)
  refine cS (solve_row_int_at_ok hr_16) ?_
  refine bi hf14 fun r_17 hf14 hr_17 => ?_
  refine tt ?_
  repeat (first | (with_reducible intro _) | refine ⟨ss, ?_⟩)
  refine cS (solve_row_int_at_ok hr_17) ?_
  refine tt ?_
  refine fv hf14 F (fun hf14 _ F => ?_) (fun hf14 _ F => ?_)
  refine fv hf14 F (fun hf14 _ F => ?_) (fun hf14 _ F => ?_)
  cases hf14
  refine tt ?_
  refine wn x_12 F fun F => ?_
  exact bk ih14 ho14 ()
  cases hf14
  obtain rfl := sr ho14
  try dsimp only at h
  cases h
  exact fin
  cases hf14
  obtain rfl := sr ho14
  try dsimp only at h
  cases h
  exact fin
  cases hf14
  refine tt ?_
  exact xt ho14 af14 ()
  intro af6 m6 s6 a6 o6 hf6 ho6 ih6
  obtain ⟨out_3, x_4⟩ := s6
  obtain ⟨⟩ := a6
  dsimp only [solve_Least_L1] at hf6 ⊢
  refine fl hf6 F (fun hf6 _ F => ?_) (fun hf6 _ F => ?_)
  refine bx hf6 F fun x_7 hf6 hx_7 F => ?_
  refine bx hf6 F fun x_8 hf6 hx_8 F => ?_
  have R := And.intro (show (List.map eI out_3).set x_4 [.int .i64 x_7] = List.map eI (out_3.set x_4 x_7) by simp [go_sem, List.map_set]) R
  refine tt ?_
  repeat (first | (with_reducible intro _) | refine ⟨ss, ?_⟩)
  refine fi hf6 F (fun hf6 _ F => ?_) (fun hf6 _ F => ?_)
  refine bx hf6 F fun x_9 hf6 hx_9 F => ?_
  refine ln F fun F => ?_
  have R := And.intro (show (List.map eI (out_3.set x_4 x_7)).set x_4 [.int .i64 r_1] = List.map eI ((out_3.set x_4 x_7).set x_4 r_1) by simp [go_sem, List.map_set]) R
  cases hf6
  refine tt ?_
  repeat (first | (with_reducible intro _) | refine ⟨ss, ?_⟩)
  refine wn x_4 F fun F => ?_
  exact bk ih6 ho6 ()
  refine fi hf6 F (fun hf6 _ F => ?_) (fun hf6 _ F => ?_)
  cases hf6
  obtain rfl := sr ho6
  try dsimp only at h
  cases h
  exact fin
  refine tt ?_
  repeat (first | (with_reducible intro _) | refine ⟨ss, ?_⟩)
  refine fi hf6 F (fun hf6 _ F => ?_) (fun hf6 _ F => ?_)
  cases hf6
  obtain rfl := sr ho6
  try dsimp only at h
  cases h
  exact fin
  cases hf6
  refine tt ?_
  refine wn x_4 F fun F => ?_
  exact bk ih6 ho6 ()
  cases hf6
  refine tt ?_
  exact xt ho6 af6 ()
theorem lazarettolaw02_awake_ok {r : Bool} (h : lazarettolaw02_awake = some r) :
    Pu Try.prog 33 [] (.one (.bool r)) := by
  have F := trivial; have R := trivial
  refine pA Try.func33 ?_
  simp only [Try.f33]
  unfold lazarettolaw02_awake at h
  refine bi h fun r_1 h hr_1 => ?_
  refine tt ?_
  repeat (first | (with_reducible intro _) | refine ⟨ss, ?_⟩)
  refine cS (solve_Least_ok hr_1) ?_
  refine bi h fun r_2 h hr_2 => ?_
  refine tt ?_
  repeat (first | (with_reducible intro _) | refine ⟨ss, ?_⟩)
  refine cS (solve_Least_ok hr_2) ?_
  refine tt ?_
  refine fv h F (fun h _ F => ?_) (fun h _ F => ?_)
  refine fv h F (fun h _ F => ?_) (fun h _ F => ?_)
  cases h; exact fin
  refine bi h fun r_3 h hr_3 => ?_
  refine tt ?_
  repeat (first | (with_reducible intro _) | refine ⟨ss, ?_⟩)
  refine cS (lazarettoref02_Ints_ok hr_3) ?_
  refine fv h F (fun h _ F => ?_) (fun h _ F => ?_)
  refine bi h fun r_4 h hr_4 => ?_
  refine tt ?_
  repeat (first | (with_reducible intro _) | refine ⟨ss, ?_⟩)
  refine cS (solve_All_ok hr_4) ?_
  refine fi h F (fun h _ F => ?_) (fun h _ F => ?_)
  refine bi h fun r_5 h hr_5 => ?_
  refine tt ?_
  repeat (first | (with_reducible intro _) | refine ⟨ss, ?_⟩)
  refine cS (solve_All_ok hr_5) ?_
  refine fi h F (fun h _ F => ?_) (fun h _ F => ?_)
  refine bi h fun r_6 h hr_6 => ?_
  refine tt ?_
  repeat (first | (with_reducible intro _) | refine ⟨ss, ?_⟩)
  refine cS (solve_Up_ok hr_6) ?_
  refine tt ?_
  repeat (first | (with_reducible intro _) | refine ⟨ss, ?_⟩)
  refine fi h F (fun h _ F => ?_) (fun h _ F => ?_)
  refine bi h fun r_7 h hr_7 => ?_
  refine tt ?_
  repeat (first | (with_reducible intro _) | refine ⟨ss, ?_⟩)
  refine cS (solve_Down_ok hr_7) ?_
  refine tt ?_
  repeat (first | (with_reducible intro _) | refine ⟨ss, ?_⟩)
  refine fi h F (fun h _ F => ?_) (fun h _ F => ?_)
  refine bi h fun r_8 h hr_8 => ?_
  refine tt ?_
  repeat (first | (with_reducible intro _) | refine ⟨ss, ?_⟩)
  refine cS (solve_Holds_ok hr_8) ?_
  cases h; exact fin
  cases h; exact fin
  cases h; exact fin
  cases h; exact fin
  cases h; exact fin
  cases h; exact fin
  cases h; exact fin
theorem lazarettoref01_Bottom_ok {l : api_Lattice} {r : Int} (h : lazarettoref01_Bottom l = some r) :
    Pu Try.prog 74 [.agg (e_api_Lattice l)] (.one (.int .i64 r)) := by
  have F := trivial; have R := trivial
  refine pA Try.func74 ?_
  simp only [Try.f74]
  unfold lazarettoref01_Bottom at h
  refine bi h fun e_2 h he_2 => ?_
  refine tt ?_
  refine lE (fun (s__ : Nat) (a__ : Unit) => match s__, a__ with | c_1, _ => ⟨[(1, .one (.ref 0 0 0 0)), (3, .one (.int .i64 (c_1 : Int)))], [.cells 0 2 [[.sl (l.Names.map eS), .sl (l.Below.map (eA2 eI))]]]⟩) (fun (e__ : Int ⊕ Unit) (b__ : Unit) => match e__, b__ with | (.inl e_10), _ => ⟨[], []⟩ | (.inr ()), _ => ⟨[], [.cells 0 2 [[.sl (l.Names.map eS), .sl (l.Below.map (eA2 eI))]]]⟩) (fun (e__ : Int ⊕ Unit) => match e__ with | (.inl _) => none | (.inr _) => some 0) () he_2 ?_ ?_
  intro i3 b3 hi3
  rcases e_2 with e_case | ⟨⟩
  cases hi3
  obtain rfl := Option.some.inj hi3
  obtain ⟨⟩ := b3
  dsimp only at h ⊢
  cases h; exact fin
  intro af3 m3 c_1 a3 o3 hf3 ho3 ih3
  obtain ⟨⟩ := a3
  dsimp only [lazarettoref01_Bottom_L1] at hf3 ⊢
  refine tt ?_
  repeat (first | (with_reducible intro _) | refine ⟨ss, ?_⟩)
  refine fl hf3 F (fun hf3 _ F => ?_) (fun hf3 _ F => ?_)
  refine bi hf3 fun e_6 hf3 he_6 => ?_
  refine tt ?_
  refine lE (fun (s__ : Bool × Nat) (a__ : Unit) => match s__, a__ with | (ok_4, d_5), _ => ⟨[(1, .one (.ref 0 0 0 0)), (3, .one (.int .i64 (c_1 : Int))), (4, .one (.bool ok_4)), (5, .one (.int .i64 (d_5 : Int)))], [.cells 0 2 [[.sl (l.Names.map eS), .sl (l.Below.map (eA2 eI))]]]⟩) (fun (e__ : Bool) (b__ : Unit) => match e__, b__ with | e_6, _ => ⟨[(1, .one (.ref 0 0 0 0)), (3, .one (.int .i64 (c_1 : Int))), (4, .one (.bool e_6))], [.cells 0 2 [[.sl (l.Names.map eS), .sl (l.Below.map (eA2 eI))]]]⟩) (fun (_ : Bool) => some 2) () he_6 ?_ ?_
  intro i7 b7 hi7
  obtain rfl := Option.some.inj hi7
  obtain ⟨⟩ := b7
  dsimp only at hf3 ⊢
  refine fv hf3 F (fun hf3 _ F => ?_) (fun hf3 _ F => ?_)
  cases hf3
  obtain rfl := sr ho3
  try dsimp only at h
  cases h
  exact fin
  cases hf3
  refine tt ?_
  refine wn c_1 F fun F => ?_
  exact bk ih3 ho3 ()
  intro af7 m7 s7 a7 o7 hf7 ho7 ih7
  obtain ⟨ok_4, d_5⟩ := s7
  obtain ⟨⟩ := a7
  dsimp only [lazarettoref01_Bottom_L2] at hf7 ⊢
  refine tt ?_
  repeat (first | (with_reducible intro _) | refine ⟨ss, ?_⟩)
  refine fl hf7 F (fun hf7 _ F => ?_) (fun hf7 _ F => ?_)
  refine fv hf7 F (fun hf7 _ F => ?_) (fun hf7 _ F => ?_)
  refine bi hf7 fun r_8 hf7 hr_8 => ?_
  refine tt ?_
  repeat (first | (with_reducible intro _) | refine ⟨ss, ?_⟩)
  refine cS (lazarettoref01_Leq_ok hr_8) ?_
  cases hf7
  refine tt ?_
  refine wn d_5 F fun F => ?_
  exact bk ih7 ho7 ()
  cases hf7
  refine tt ?_
  exact xt ho7 af7 ()
  cases hf7
  refine tt ?_
  exact xt ho7 af7 ()
  cases hf3
  refine tt ?_
  exact xt ho3 af3 ()
theorem lazarettoref02_All_ok {l : api_Lattice} {set_ : List Int} {r : Int} (h : lazarettoref02_All l set_ = some r) :
    Pu Try.prog 35 [.agg (e_api_Lattice l), .one (.sl (set_.map eI))] (.one (.int .i64 r)) := by
  have F := trivial; have R := trivial
  refine pA Try.func35 ?_
  simp only [Try.f35]
  unfold lazarettoref02_All at h
  refine bi h fun r_1 h hr_1 => ?_
  refine tt ?_
  repeat (first | (with_reducible intro _) | refine ⟨ss, ?_⟩)
  refine cS (lazarettoref01_Bottom_ok hr_1) ?_
  refine bi h fun e_4 h he_4 => ?_
  refine tt ?_
  refine lE (fun (s__ : Int × Nat) (a__ : Unit) => match s__, a__ with | (a_2, i_3), _ => ⟨[(1, .one (.sl (set_.map eI))), (2, .one (.ref 0 0 0 0)), (5, .one (.int .i64 a_2)), (6, .one (.int .i64 (i_3 : Int)))], [.cells 0 2 [[.sl (l.Names.map eS), .sl (l.Below.map (eA2 eI))]]]⟩) (fun (e__ : Int ⊕ Int) (b__ : Unit) => match e__, b__ with | (.inl e_9), _ => ⟨[], []⟩ | (.inr a_10), _ => ⟨[(5, .one (.int .i64 a_10))], [.cells 0 2 [[.sl (l.Names.map eS), .sl (l.Below.map (eA2 eI))]]]⟩) (fun (e__ : Int ⊕ Int) => match e__ with | (.inl _) => none | (.inr _) => some 0) () he_4 ?_ ?_
  intro i5 b5 hi5
  rcases e_4 with e_case | a_10
  cases hi5
  obtain rfl := Option.some.inj hi5
  obtain ⟨⟩ := b5
  dsimp only at h ⊢
  cases h; exact fin
  intro af5 m5 s5 a5 o5 hf5 ho5 ih5
  obtain ⟨a_2, i_3⟩ := s5
  obtain ⟨⟩ := a5
  dsimp only [lazarettoref02_All_L1] at hf5 ⊢
  refine tt ?_
  repeat (first | (with_reducible intro _) | refine ⟨ss, ?_⟩)
  refine fl hf5 F (fun hf5 _ F => ?_) (fun hf5 _ F => ?_)
  refine tt ?_
  repeat (first | (with_reducible intro _) | refine ⟨ss, ?_⟩)
  refine fi hf5 F (fun hf5 _ F => ?_) (fun hf5 _ F => ?_)
  cases hf5
  obtain rfl := sr ho5
  try dsimp only at h
  cases h
  exact fin
  refine bx hf5 F fun x_6 hf5 hx_6 F => ?_
  refine bi hf5 fun r_7 hf5 hr_7 => ?_
  refine tt ?_
  repeat (first | (with_reducible intro _) | refine ⟨ss, ?_⟩)
  refine cD (lazarettoref01_Is_ok hr_7) ?_
  refine tt ?_
  repeat (first | (with_reducible intro _) | refine ⟨ss, ?_⟩)
  refine fv hf5 F (fun hf5 _ F => ?_) (fun hf5 _ F => ?_)
  refine bi hf5 fun r_8 hf5 hr_8 => ?_
  refine tt ?_
  repeat (first | (with_reducible intro _) | refine ⟨ss, ?_⟩)
  refine cD (lazarettoref01_Join_ok hr_8) ?_
  cases hf5
  refine tt ?_
  repeat (first | (with_reducible intro _) | refine ⟨ss, ?_⟩)
  refine wn i_3 F fun F => ?_
  exact bk ih5 ho5 ()
  cases hf5
  obtain rfl := sr ho5
  try dsimp only at h
  cases h
  exact fin
  cases hf5
  refine tt ?_
  exact xt ho5 af5 ()
theorem lazarettoref02_Up_ok {l : api_Lattice} {a : Int} {r : List Int} (h : lazarettoref02_Up l a = some r) :
    Pu Try.prog 38 [.agg (e_api_Lattice l), .one (.int .i64 a)] (.one (.sl (r.map eI))) := by
  have F := trivial; have R := trivial
  refine pA Try.func38 ?_
  simp only [Try.f38]
  unfold lazarettoref02_Up at h
  refine bi h fun e_5 h he_5 => ?_
  refine tt ?_
  refine seed_L 5 1 (by simp [go_sem]) ?_
  refine lE (fun (s__ : (List Int) × Nat) (a__ : Nat) => match s__, a__ with | (out_2, c_4), v_1 => ⟨[(1, .one (.int .i64 a)), (2, .one (.ref 0 0 0 0)), (5, .one (.msl 1 v_1 0 out_2.length)), (6, .one (.int .i64 (c_4 : Int)))], [.cells 0 2 [[.sl (l.Names.map eS), .sl (l.Below.map (eA2 eI))]], .cells v_1 1 (out_2.map eI)]⟩) (fun (e__ : List Int) (b__ : Nat) => match e__, b__ with | e_5, b6 => ⟨[(5, .one (.msl 1 b6 0 e_5.length))], [.cells 0 2 [[.sl (l.Names.map eS), .sl (l.Below.map (eA2 eI))]], .cells b6 1 (e_5.map eI)]⟩) (fun (_ : List Int) => some 0) 0 he_5 ?_ ?_
  intro i6 b6 hi6
  obtain rfl := Option.some.inj hi6
  dsimp only at h ⊢
  cases h; exact fin
  intro af6 m6 s6 v_1 o6 hf6 ho6 ih6
  obtain ⟨out_2, c_4⟩ := s6
  dsimp only [lazarettoref02_Up_L1] at hf6 ⊢
  refine tt ?_
  repeat (first | (with_reducible intro _) | refine ⟨ss, ?_⟩)
  refine fl hf6 F (fun hf6 _ F => ?_) (fun hf6 _ F => ?_)
  refine bi hf6 fun r_7 hf6 hr_7 => ?_
  refine tt ?_
  repeat (first | (with_reducible intro _) | refine ⟨ss, ?_⟩)
  refine cS (lazarettoref01_Leq_ok hr_7) ?_
  refine fv hf6 F (fun hf6 _ F => ?_) (fun hf6 _ F => ?_)
  refine nd hf6 F fun hf6 F => ?_
  cases hf6
  refine tt ?_
  repeat (first | (with_reducible intro _) | refine ⟨ss, ?_⟩)
  refine wn c_4 F fun F => ?_
  exact bk ih6 ho6 (v_1 + 1)
  cases hf6
  refine tt ?_
  refine wn c_4 F fun F => ?_
  exact bk ih6 ho6 v_1
  cases hf6
  refine tt ?_
  exact xt ho6 af6 v_1
theorem lazarettoref02_Down_ok {l : api_Lattice} {a : Int} {r : List Int} (h : lazarettoref02_Down l a = some r) :
    Pu Try.prog 40 [.agg (e_api_Lattice l), .one (.int .i64 a)] (.one (.sl (r.map eI))) := by
  have F := trivial; have R := trivial
  refine pA Try.func40 ?_
  simp only [Try.f40]
  unfold lazarettoref02_Down at h
  refine bi h fun e_5 h he_5 => ?_
  refine tt ?_
  refine seed_L 5 1 (by simp [go_sem]) ?_
  refine lE (fun (s__ : (List Int) × Nat) (a__ : Nat) => match s__, a__ with | (out_2, c_4), v_1 => ⟨[(1, .one (.int .i64 a)), (2, .one (.ref 0 0 0 0)), (5, .one (.msl 1 v_1 0 out_2.length)), (6, .one (.int .i64 (c_4 : Int)))], [.cells 0 2 [[.sl (l.Names.map eS), .sl (l.Below.map (eA2 eI))]], .cells v_1 1 (out_2.map eI)]⟩) (fun (e__ : List Int) (b__ : Nat) => match e__, b__ with | e_5, b6 => ⟨[(5, .one (.msl 1 b6 0 e_5.length))], [.cells 0 2 [[.sl (l.Names.map eS), .sl (l.Below.map (eA2 eI))]], .cells b6 1 (e_5.map eI)]⟩) (fun (_ : List Int) => some 0) 0 he_5 ?_ ?_
  intro i6 b6 hi6
  obtain rfl := Option.some.inj hi6
  dsimp only at h ⊢
  cases h; exact fin
  intro af6 m6 s6 v_1 o6 hf6 ho6 ih6
  obtain ⟨out_2, c_4⟩ := s6
  dsimp only [lazarettoref02_Down_L1] at hf6 ⊢
  refine tt ?_
  repeat (first | (with_reducible intro _) | refine ⟨ss, ?_⟩)
  refine fl hf6 F (fun hf6 _ F => ?_) (fun hf6 _ F => ?_)
  refine bi hf6 fun r_7 hf6 hr_7 => ?_
  refine tt ?_
  repeat (first | (with_reducible intro _) | refine ⟨ss, ?_⟩)
  refine cS (lazarettoref01_Leq_ok hr_7) ?_
  refine fv hf6 F (fun hf6 _ F => ?_) (fun hf6 _ F => ?_)
  refine nd hf6 F fun hf6 F => ?_
  cases hf6
  refine tt ?_
  repeat (first | (with_reducible intro _) | refine ⟨ss, ?_⟩)
  refine wn c_4 F fun F => ?_
  exact bk ih6 ho6 (v_1 + 1)
  cases hf6
  refine tt ?_
  refine wn c_4 F fun F => ?_
  exact bk ih6 ho6 v_1
  cases hf6
  refine tt ?_
  exact xt ho6 af6 v_1
theorem lazarettolaw02_SolveSets_ok {l : api_Lattice} {set_ : List Int} {a : Int} {r : Bool} (h : lazarettolaw02_SolveSets l set_ a = some r) :
    Pu Try.prog 8 [.agg (e_api_Lattice l), .one (.sl (set_.map eI)), .one (.int .i64 a)] (.one (.bool r)) := by
  have F := trivial; have R := trivial
  refine pA Try.func8 ?_
  simp only [Try.f8]
  unfold lazarettolaw02_SolveSets at h
  refine bi h fun r_1 h hr_1 => ?_
  refine tt ?_
  repeat (first | (with_reducible intro _) | refine ⟨ss, ?_⟩)
  refine cS (lazarettolaw02_few_ok hr_1) ?_
  refine fv h F (fun h _ F => ?_) (fun h _ F => ?_)
  refine bi h fun r_2 h hr_2 => ?_
  refine tt ?_
  repeat (first | (with_reducible intro _) | refine ⟨ss, ?_⟩)
  refine cS (lazarettoref01_Check_ok hr_2) ?_
  refine fi h F (fun h _ F => ?_) (fun h _ F => ?_)
  refine bi h fun r_3 h hr_3 => ?_
  refine tt ?_
  repeat (first | (with_reducible intro _) | refine ⟨ss, ?_⟩)
  refine cD (solve_All_ok hr_3) ?_
  refine bi h fun r_4 h hr_4 => ?_
  refine tt ?_
  repeat (first | (with_reducible intro _) | refine ⟨ss, ?_⟩)
  refine cD (lazarettoref02_All_ok hr_4) ?_
  refine tt ?_
  repeat (first | (with_reducible intro _) | refine ⟨ss, ?_⟩)
  refine fi h F (fun h _ F => ?_) (fun h _ F => ?_)
  refine bi h fun r_5 h hr_5 => ?_
  refine tt ?_
  repeat (first | (with_reducible intro _) | refine ⟨ss, ?_⟩)
  refine cD (solve_Up_ok hr_5) ?_
  refine bi h fun r_6 h hr_6 => ?_
  refine tt ?_
  repeat (first | (with_reducible intro _) | refine ⟨ss, ?_⟩)
  refine cD (lazarettoref02_Up_ok hr_6) ?_
  refine bi h fun r_7 h hr_7 => ?_
  refine tt ?_
  repeat (first | (with_reducible intro _) | refine ⟨ss, ?_⟩)
  refine cD (lazarettoref02_Ints_ok hr_7) ?_
  refine tt ?_
  repeat (first | (with_reducible intro _) | refine ⟨ss, ?_⟩)
  refine fv h F (fun h _ F => ?_) (fun h _ F => ?_)
  refine bi h fun r_8 h hr_8 => ?_
  refine tt ?_
  repeat (first | (with_reducible intro _) | refine ⟨ss, ?_⟩)
  refine cD (solve_Down_ok hr_8) ?_
  refine bi h fun r_9 h hr_9 => ?_
  refine tt ?_
  repeat (first | (with_reducible intro _) | refine ⟨ss, ?_⟩)
  refine cD (lazarettoref02_Down_ok hr_9) ?_
  refine bi h fun r_10 h hr_10 => ?_
  refine tt ?_
  repeat (first | (with_reducible intro _) | refine ⟨ss, ?_⟩)
  refine cD (lazarettoref02_Ints_ok hr_10) ?_
  refine tt ?_
  repeat (first | (with_reducible intro _) | refine ⟨ss, ?_⟩)
  refine fv h F (fun h _ F => ?_) (fun h _ F => ?_)
  refine bi h fun r_11 h hr_11 => ?_
  refine tt ?_
  repeat (first | (with_reducible intro _) | refine ⟨ss, ?_⟩)
  refine cD (lazarettolaw02_awake_ok hr_11) ?_
  cases h; exact fin
  cases h; exact fin
  cases h; exact fin
  cases h; exact fin
  refine bi h fun r_12 h hr_12 => ?_
  refine tt ?_
  repeat (first | (with_reducible intro _) | refine ⟨ss, ?_⟩)
  refine cS (lazarettolaw02_awake_ok hr_12) ?_
  cases h; exact fin
  refine bi h fun r_13 h hr_13 => ?_
  refine tt ?_
  repeat (first | (with_reducible intro _) | refine ⟨ss, ?_⟩)
  refine cS (lazarettolaw02_awake_ok hr_13) ?_
  cases h; exact fin
theorem lazarettoref02_Holds_ok {l : api_Lattice} {labels : List Int} {rules : List (A2 Int)} {r : Bool} (h : lazarettoref02_Holds l labels rules = some r) :
    Pu Try.prog 44 [.agg (e_api_Lattice l), .one (.sl (labels.map eI)), .one (.sl (rules.map (eA2 eI)))] (.one (.bool r)) := by
  have F := trivial; have R := trivial
  refine pA Try.func44 ?_
  simp only [Try.f44]
  unfold lazarettoref02_Holds at h
  refine bi h fun e_2 h he_2 => ?_
  refine tt ?_
  refine lE (fun (s__ : Nat) (a__ : Unit) => match s__, a__ with | i_1, _ => ⟨[(1, .one (.sl (labels.map eI))), (2, .one (.sl (rules.map (eA2 eI)))), (3, .one (.ref 0 0 0 0)), (7, .one (.int .i64 (i_1 : Int)))], [.cells 0 2 [[.sl (l.Names.map eS), .sl (l.Below.map (eA2 eI))]]]⟩) (fun (e__ : Bool ⊕ Unit) (b__ : Unit) => match e__, b__ with | (.inl e_8), _ => ⟨[], []⟩ | (.inr ()), _ => ⟨[], [.cells 0 2 [[.sl (l.Names.map eS), .sl (l.Below.map (eA2 eI))]]]⟩) (fun (e__ : Bool ⊕ Unit) => match e__ with | (.inl _) => none | (.inr _) => some 0) () he_2 ?_ ?_
  intro i3 b3 hi3
  rcases e_2 with e_case | ⟨⟩
  cases hi3
  obtain rfl := Option.some.inj hi3
  obtain ⟨⟩ := b3
  dsimp only at h ⊢
  cases h; exact fin
  intro af3 m3 i_1 a3 o3 hf3 ho3 ih3
  obtain ⟨⟩ := a3
  dsimp only [lazarettoref02_Holds_L1] at hf3 ⊢
  refine tt ?_
  repeat (first | (with_reducible intro _) | refine ⟨ss, ?_⟩)
  refine fl hf3 F (fun hf3 _ F => ?_) (fun hf3 _ F => ?_)
  refine bx hf3 F fun x_4 hf3 hx_4 F => ?_
  refine tt ?_
  repeat (first | (with_reducible intro _) | refine ⟨ss, ?_⟩)
  refine fi hf3 F (fun hf3 _ F => ?_) (fun hf3 _ F => ?_)
  cases hf3
  obtain rfl := sr ho3
  try dsimp only at h
  cases h
  exact fin
  refine tt ?_
  repeat (first | (with_reducible intro _) | refine ⟨ss, ?_⟩)
  refine fi hf3 F (fun hf3 _ F => ?_) (fun hf3 _ F => ?_)
  cases hf3
  obtain rfl := sr ho3
  try dsimp only at h
  cases h
  exact fin
  refine tt ?_
  repeat (first | (with_reducible intro _) | refine ⟨ss, ?_⟩)
  refine fi hf3 F (fun hf3 _ F => ?_) (fun hf3 _ F => ?_)
  cases hf3
  obtain rfl := sr ho3
  try dsimp only at h
  cases h
  exact fin
  refine tt ?_
  repeat (first | (with_reducible intro _) | refine ⟨ss, ?_⟩)
  refine fi hf3 F (fun hf3 _ F => ?_) (fun hf3 _ F => ?_)
  cases hf3
  obtain rfl := sr ho3
  try dsimp only at h
  cases h
  exact fin
  refine by_ hf3 F fun x_5 hf3 hx_5 F => ?_
  refine by_ hf3 F fun x_6 hf3 hx_6 F => ?_
  refine bi hf3 fun r_7 hf3 hr_7 => ?_
  refine tt ?_
  repeat (first | (with_reducible intro _) | refine ⟨ss, ?_⟩)
  refine cD (lazarettoref01_Leq_ok hr_7) ?_
  refine tt ?_
  repeat (first | (with_reducible intro _) | refine ⟨ss, ?_⟩)
  refine fv hf3 F (fun hf3 _ F => ?_) (fun hf3 _ F => ?_)
  cases hf3
  refine tt ?_
  refine wn i_1 F fun F => ?_
  exact bk ih3 ho3 ()
  cases hf3
  obtain rfl := sr ho3
  try dsimp only at h
  cases h
  exact fin
  cases hf3
  refine tt ?_
  exact xt ho3 af3 ()
theorem lazarettoref02_Least_ok {l : api_Lattice} {fixed : List Int} {rules : List (A2 Int)} {r : (List Int) × Bool} (h : lazarettoref02_Least l fixed rules = some r) :
    Pu Try.prog 42 [.agg (e_api_Lattice l), .one (.sl (fixed.map eI)), .one (.sl (rules.map (eA2 eI)))] (.tup [.one (.sl (r.1.map eI)), .one (.bool r.2)]) := by
  have F := trivial; have R := trivial
  refine pA Try.func42 ?_
  simp only [Try.f42]
  unfold lazarettoref02_Least at h
  refine bi h fun r_1 h hr_1 => ?_
  refine tt ?_
  repeat (first | (with_reducible intro _) | refine ⟨ss, ?_⟩)
  refine cS (lazarettoref01_Bottom_ok hr_1) ?_
  refine fi h F (fun h _ F => ?_) (fun h _ F => ?_)
  cases h; exact fin
  refine bi h fun e_6 h he_6 => ?_
  refine tt ?_
  refine seed_L 9 1 (by simp [go_sem]) ?_
  refine lE (fun (s__ : (List Int) × Nat) (a__ : Nat) => match s__, a__ with | (out_3, i_5), v_2 => ⟨[(1, .one (.sl (fixed.map eI))), (2, .one (.sl (rules.map (eA2 eI)))), (3, .one (.ref 0 0 0 0)), (8, .one (.int .i64 r_1)), (9, .one (.msl 1 v_2 0 out_3.length)), (10, .one (.int .i64 (i_5 : Int)))], [.cells 0 2 [[.sl (l.Names.map eS), .sl (l.Below.map (eA2 eI))]], .cells v_2 1 (out_3.map eI)]⟩) (fun (e__ : ((List Int) × Bool) ⊕ (List Int)) (b__ : Nat) => match e__, b__ with | (.inl e_13), _ => ⟨[], []⟩ | (.inr out_14), b7 => ⟨[(1, .one (.sl (fixed.map eI))), (2, .one (.sl (rules.map (eA2 eI)))), (3, .one (.ref 0 0 0 0)), (9, .one (.msl 1 b7 0 out_14.length))], [.cells 0 2 [[.sl (l.Names.map eS), .sl (l.Below.map (eA2 eI))]], .cells b7 1 (out_14.map eI)]⟩) (fun (e__ : ((List Int) × Bool) ⊕ (List Int)) => match e__ with | (.inl _) => none | (.inr _) => some 0) 0 he_6 ?_ ?_
  intro i7 b7 hi7
  rcases e_6 with e_case | out_14
  cases hi7
  obtain rfl := Option.some.inj hi7
  dsimp only at h ⊢
  refine bi h fun e_16 h he_16 => ?_
  refine tt ?_
  refine lE (fun (s__ : Nat) (a__ : Unit) => match s__, a__ with | i_15, _ => ⟨[(1, .one (.sl (fixed.map eI))), (2, .one (.sl (rules.map (eA2 eI)))), (3, .one (.ref 0 0 0 0)), (9, .one (.msl 1 b7 0 out_14.length)), (12, .one (.int .i64 (i_15 : Int)))], [.cells 0 2 [[.sl (l.Names.map eS), .sl (l.Below.map (eA2 eI))]], .cells b7 1 (out_14.map eI)]⟩) (fun (e__ : ((List Int) × Bool) ⊕ Unit) (b__ : Unit) => match e__, b__ with | (.inl e_19), _ => ⟨[], []⟩ | (.inr ()), _ => ⟨[(1, .one (.sl (fixed.map eI))), (2, .one (.sl (rules.map (eA2 eI)))), (3, .one (.ref 0 0 0 0)), (9, .one (.msl 1 b7 0 out_14.length))], [.cells 0 2 [[.sl (l.Names.map eS), .sl (l.Below.map (eA2 eI))]], .cells b7 1 (out_14.map eI)]⟩) (fun (e__ : ((List Int) × Bool) ⊕ Unit) => match e__ with | (.inl _) => none | (.inr _) => some 2) () he_16 ?_ ?_
  intro i17 b17 hi17
  rcases e_16 with e_case | ⟨⟩
  cases hi17
  obtain rfl := Option.some.inj hi17
  obtain ⟨⟩ := b17
  dsimp only at h ⊢
  refine bi h fun e_22 h he_22 => ?_
  refine tt ?_
  refine lE (fun (s__ : (List Int) × Bool) (a__ : Unit) => match s__, a__ with | (out_20, more_21), _ => ⟨[(1, .one (.sl (fixed.map eI))), (2, .one (.sl (rules.map (eA2 eI)))), (3, .one (.ref 0 0 0 0)), (9, .one (.msl 1 b7 0 out_20.length)), (15, .one (.bool more_21))], [.cells 0 2 [[.sl (l.Names.map eS), .sl (l.Below.map (eA2 eI))]], .cells b7 1 (out_20.map eI)]⟩) (fun (e__ : ((List Int) × Bool) ⊕ (List Int)) (b__ : Unit) => match e__, b__ with | (.inl e_38), _ => ⟨[], []⟩ | (.inr out_39), _ => ⟨[(2, .one (.sl (rules.map (eA2 eI)))), (3, .one (.ref 0 0 0 0)), (9, .one (.msl 1 b7 0 out_39.length))], [.cells 0 2 [[.sl (l.Names.map eS), .sl (l.Below.map (eA2 eI))]], .cells b7 1 (out_39.map eI)]⟩) (fun (e__ : ((List Int) × Bool) ⊕ (List Int)) => match e__ with | (.inl _) => none | (.inr _) => some 4) () he_22 ?_ ?_
  intro i23 b23 hi23
  rcases e_22 with e_case | out_39
  cases hi23
  obtain rfl := Option.some.inj hi23
  obtain ⟨⟩ := b23
  dsimp only at h ⊢
  refine bi h fun r_40 h hr_40 => ?_
  refine tt ?_
  repeat (first | (with_reducible intro _) | refine ⟨ss, ?_⟩)
  refine cS (lazarettoref02_Holds_ok hr_40) ?_
  refine fv h F (fun h _ F => ?_) (fun h _ F => ?_)
  cases h; exact fin
  cases h; exact fin
  intro af23 m23 s23 a23 o23 hf23 ho23 ih23
  obtain ⟨out_20, more_21⟩ := s23
  obtain ⟨⟩ := a23
  dsimp only [lazarettoref02_Least_L3] at hf23 ⊢
  refine fv hf23 F (fun hf23 _ F => ?_) (fun hf23 _ F => ?_)
  refine bi hf23 fun e_27 hf23 he_27 => ?_
  refine tt ?_
  refine lE (fun (s__ : (List Int) × Bool × Nat) (a__ : Unit) => match s__, a__ with | (out_24, more_25, i_26), _ => ⟨[(1, .one (.sl (fixed.map eI))), (2, .one (.sl (rules.map (eA2 eI)))), (3, .one (.ref 0 0 0 0)), (9, .one (.msl 1 b7 0 out_24.length)), (15, .one (.bool more_25)), (16, .one (.int .i64 (i_26 : Int)))], [.cells 0 2 [[.sl (l.Names.map eS), .sl (l.Below.map (eA2 eI))]], .cells b7 1 (out_24.map eI)]⟩) (fun (e__ : ((List Int) × Bool) ⊕ ((List Int) × Bool)) (b__ : Unit) => match e__, b__ with | (.inl e_35), _ => ⟨[], []⟩ | (.inr (out_36, more_37)), _ => ⟨[(1, .one (.sl (fixed.map eI))), (2, .one (.sl (rules.map (eA2 eI)))), (3, .one (.ref 0 0 0 0)), (9, .one (.msl 1 b7 0 out_36.length)), (15, .one (.bool more_37))], [.cells 0 2 [[.sl (l.Names.map eS), .sl (l.Below.map (eA2 eI))]], .cells b7 1 (out_36.map eI)]⟩) (fun (e__ : ((List Int) × Bool) ⊕ ((List Int) × Bool)) => match e__ with | (.inl _) => none | (.inr _) => some 6) () he_27 ?_ ?_
  intro i28 b28 hi28
  rcases e_27 with e_case | ⟨out_36, more_37⟩
  cases hi28
  obtain rfl := Option.some.inj hi28
  obtain ⟨⟩ := b28
  dsimp only at hf23 ⊢
  cases hf23
  refine tt ?_
  exact bk ih23 ho23 ()
  intro af28 m28 s28 a28 o28 hf28 ho28 ih28
  obtain ⟨out_24, more_25, i_26⟩ := s28
  obtain ⟨⟩ := a28
  dsimp only [lazarettoref02_Least_L4] at hf28 ⊢
  refine tt ?_
  repeat (first | (with_reducible intro _) | refine ⟨ss, ?_⟩)
  refine fl hf28 F (fun hf28 _ F => ?_) (fun hf28 _ F => ?_)
  refine bx hf28 F fun x_29 hf28 hx_29 F => ?_
  refine by_ hf28 F fun x_30 hf28 hx_30 F => ?_
  refine by_ hf28 F fun x_31 hf28 hx_31 F => ?_
  refine bi hf28 fun r_32 hf28 hr_32 => ?_
  refine tt ?_
  repeat (first | (with_reducible intro _) | refine ⟨ss, ?_⟩)
  refine cD (lazarettoref01_Leq_ok hr_32) ?_
  refine tt ?_
  repeat (first | (with_reducible intro _) | refine ⟨ss, ?_⟩)
  refine fv hf28 F (fun hf28 _ F => ?_) (fun hf28 _ F => ?_)
  cases hf28
  refine tt ?_
  repeat (first | (with_reducible intro _) | refine ⟨ss, ?_⟩)
  refine wn i_26 F fun F => ?_
  exact bk ih28 ho28 ()
  refine by_ hf28 F fun x_33 hf28 hx_33 F => ?_
  refine tt ?_
  repeat (first | (with_reducible intro _) | refine ⟨ss, ?_⟩)
  refine fi hf28 F (fun hf28 _ F => ?_) (fun hf28 _ F => ?_)
  refine bi hf28 fun r_34 hf28 hr_34 => ?_
  refine tt ?_
  repeat (first | (with_reducible intro _) | refine ⟨ss, ?_⟩)
  refine cD (lazarettoref01_Join_ok hr_34) ?_
  refine tt ?_
  repeat (first | (with_reducible intro _) | refine ⟨ss, ?_⟩)
  refine fi hf28 F (fun hf28 _ F => ?_) (fun hf28 _ F => ?_)
  cases hf28
  obtain rfl := sr ho28
  try dsimp only at hf23
  cases hf23
  obtain rfl := sr ho23
  try dsimp only at h
  cases h
  exact fin
  have R := And.intro (show (List.map eI out_24).set x_29.a1.toNat [.int .i64 r_34] = List.map eI (out_24.set x_29.a1.toNat r_34) by simp [go_sem, List.map_set]) R
  cases hf28
  refine tt ?_
  repeat (first | (with_reducible intro _) | refine ⟨ss, ?_⟩)
  refine wn i_26 F fun F => ?_
  exact bk ih28 ho28 ()
  cases hf28
  refine tt ?_
  refine wn i_26 F fun F => ?_
  exact bk ih28 ho28 ()
  cases hf28
  refine tt ?_
  exact xt ho28 af28 ()
  cases hf23
  refine tt ?_
  exact xt ho23 af23 ()
  intro af17 m17 i_15 a17 o17 hf17 ho17 ih17
  obtain ⟨⟩ := a17
  dsimp only [lazarettoref02_Least_L2] at hf17 ⊢
  refine tt ?_
  repeat (first | (with_reducible intro _) | refine ⟨ss, ?_⟩)
  refine fl hf17 F (fun hf17 _ F => ?_) (fun hf17 _ F => ?_)
  refine bx hf17 F fun x_18 hf17 hx_18 F => ?_
  refine tt ?_
  repeat (first | (with_reducible intro _) | refine ⟨ss, ?_⟩)
  refine fi hf17 F (fun hf17 _ F => ?_) (fun hf17 _ F => ?_)
  cases hf17
  obtain rfl := sr ho17
  try dsimp only at h
  cases h
  exact fin
  refine tt ?_
  repeat (first | (with_reducible intro _) | refine ⟨ss, ?_⟩)
  refine fi hf17 F (fun hf17 _ F => ?_) (fun hf17 _ F => ?_)
  cases hf17
  obtain rfl := sr ho17
  try dsimp only at h
  cases h
  exact fin
  refine fi hf17 F (fun hf17 _ F => ?_) (fun hf17 _ F => ?_)
  cases hf17
  obtain rfl := sr ho17
  try dsimp only at h
  cases h
  exact fin
  refine tt ?_
  repeat (first | (with_reducible intro _) | refine ⟨ss, ?_⟩)
  refine fi hf17 F (fun hf17 _ F => ?_) (fun hf17 _ F => ?_)
  cases hf17
  obtain rfl := sr ho17
  try dsimp only at h
  cases h
  exact fin
  cases hf17
  refine tt ?_
  refine wn i_15 F fun F => ?_
  exact bk ih17 ho17 ()
  cases hf17
  refine tt ?_
  exact xt ho17 af17 ()
  intro af7 m7 s7 v_2 o7 hf7 ho7 ih7
  obtain ⟨out_3, i_5⟩ := s7
  dsimp only [lazarettoref02_Least_L1] at hf7 ⊢
  refine tt ?_
  repeat (first | (with_reducible intro _) | refine ⟨ss, ?_⟩)
  refine fl hf7 F (fun hf7 _ F => ?_) (fun hf7 _ F => ?_)
  refine bx hf7 F fun x_8 hf7 hx_8 F => ?_
  refine tt ?_
  repeat (first | (with_reducible intro _) | refine ⟨ss, ?_⟩)
  refine fi hf7 F (fun hf7 _ F => ?_) (fun hf7 _ F => ?_)
  refine bi hf7 fun r_9 hf7 hr_9 => ?_
  refine tt ?_
  repeat (first | (with_reducible intro _) | refine ⟨ss, ?_⟩)
  refine cS (lazarettoref01_Is_ok hr_9) ?_
  refine fv hf7 F (fun hf7 _ F => ?_) (fun hf7 _ F => ?_)
  refine nd hf7 F fun hf7 F => ?_
  cases hf7
  refine tt ?_
  repeat (first | (with_reducible intro _) | refine ⟨ss, ?_⟩)
  refine wn i_5 F fun F => ?_
  exact bk ih7 ho7 (v_2 + 1)
  cases hf7
  obtain rfl := sr ho7
  try dsimp only at h
  cases h
  exact fin
  refine bi hf7 fun r_11 hf7 hr_11 => ?_
  refine tt ?_
  repeat (first | (with_reducible intro _) | refine ⟨ss, ?_⟩)
  refine cS (lazarettoref01_Is_ok hr_11) ?_
  refine fv hf7 F (fun hf7 _ F => ?_) (fun hf7 _ F => ?_)
  refine nd hf7 F fun hf7 F => ?_
  cases hf7
  refine tt ?_
  repeat (first | (with_reducible intro _) | refine ⟨ss, ?_⟩)
  refine wn i_5 F fun F => ?_
  exact bk ih7 ho7 (v_2 + 1)
  cases hf7
  obtain rfl := sr ho7
  try dsimp only at h
  cases h
  exact fin
  cases hf7
  refine tt ?_
  exact xt ho7 af7 v_2
theorem lazarettolaw02_SolveLeast_ok {l : api_Lattice} {fixed : List Int} {rules : List (A2 Int)} {r : Bool} (h : lazarettolaw02_SolveLeast l fixed rules = some r) :
    Pu Try.prog 9 [.agg (e_api_Lattice l), .one (.sl (fixed.map eI)), .one (.sl (rules.map (eA2 eI)))] (.one (.bool r)) := by
  have F := trivial; have R := trivial
  refine pA Try.func9 ?_
  simp only [Try.f9]
  unfold lazarettolaw02_SolveLeast at h
  refine bi h fun r_1 h hr_1 => ?_
  refine tt ?_
  repeat (first | (with_reducible intro _) | refine ⟨ss, ?_⟩)
  refine cS (lazarettolaw02_few_ok hr_1) ?_
  refine fv h F (fun h _ F => ?_) (fun h _ F => ?_)
  refine bi h fun r_2 h hr_2 => ?_
  refine tt ?_
  repeat (first | (with_reducible intro _) | refine ⟨ss, ?_⟩)
  refine cS (lazarettoref01_Check_ok hr_2) ?_
  refine fi h F (fun h _ F => ?_) (fun h _ F => ?_)
  refine bi h fun r_3 h hr_3 => ?_
  refine tt ?_
  repeat (first | (with_reducible intro _) | refine ⟨ss, ?_⟩)
  refine cS (solve_Least_ok hr_3) ?_
  refine bi h fun r_4 h hr_4 => ?_
  refine tt ?_
  repeat (first | (with_reducible intro _) | refine ⟨ss, ?_⟩)
  refine cS (lazarettoref02_Least_ok hr_4) ?_
  refine bi h fun r_5 h hr_5 => ?_
  refine tt ?_
  repeat (first | (with_reducible intro _) | refine ⟨ss, ?_⟩)
  refine cS (lazarettoref02_Ints_ok hr_5) ?_
  refine fv h F (fun h _ F => ?_) (fun h _ F => ?_)
  refine fv h F (fun h _ F => ?_) (fun h _ F => ?_)
  refine bi h fun r_6 h hr_6 => ?_
  refine tt ?_
  repeat (first | (with_reducible intro _) | refine ⟨ss, ?_⟩)
  refine cS (lazarettolaw02_awake_ok hr_6) ?_
  cases h; exact fin
  cases h; exact fin
  cases h; exact fin
  refine bi h fun r_7 h hr_7 => ?_
  refine tt ?_
  repeat (first | (with_reducible intro _) | refine ⟨ss, ?_⟩)
  refine cS (lazarettolaw02_awake_ok hr_7) ?_
  cases h; exact fin
  refine bi h fun r_8 h hr_8 => ?_
  refine tt ?_
  repeat (first | (with_reducible intro _) | refine ⟨ss, ?_⟩)
  refine cS (lazarettolaw02_awake_ok hr_8) ?_
  cases h; exact fin
theorem lazarettolaw02_SolveIs_ok {l : api_Lattice} {fixed : List Int} {rules : List (A2 Int)} {r : Bool} (h : lazarettolaw02_SolveIs l fixed rules = some r) :
    Pu Try.prog 10 [.agg (e_api_Lattice l), .one (.sl (fixed.map eI)), .one (.sl (rules.map (eA2 eI)))] (.one (.bool r)) := by
  have F := trivial; have R := trivial
  refine pA Try.func10 ?_
  simp only [Try.f10]
  unfold lazarettolaw02_SolveIs at h
  refine bi h fun r_1 h hr_1 => ?_
  refine tt ?_
  repeat (first | (with_reducible intro _) | refine ⟨ss, ?_⟩)
  refine cS (lazarettolaw02_few_ok hr_1) ?_
  refine fv h F (fun h _ F => ?_) (fun h _ F => ?_)
  refine bi h fun r_2 h hr_2 => ?_
  refine tt ?_
  repeat (first | (with_reducible intro _) | refine ⟨ss, ?_⟩)
  refine cS (lazarettoref01_Check_ok hr_2) ?_
  refine fi h F (fun h _ F => ?_) (fun h _ F => ?_)
  refine bi h fun r_3 h hr_3 => ?_
  refine tt ?_
  repeat (first | (with_reducible intro _) | refine ⟨ss, ?_⟩)
  refine cS (solve_Least_ok hr_3) ?_
  refine tt ?_
  refine fv h F (fun h _ F => ?_) (fun h _ F => ?_)
  refine tt ?_
  repeat (first | (with_reducible intro _) | refine ⟨ss, ?_⟩)
  refine fi h F (fun h _ F => ?_) (fun h _ F => ?_)
  refine bi h fun r_4 h hr_4 => ?_
  refine tt ?_
  repeat (first | (with_reducible intro _) | refine ⟨ss, ?_⟩)
  refine cS (solve_Holds_ok hr_4) ?_
  refine fv h F (fun h _ F => ?_) (fun h _ F => ?_)
  refine bi h fun e_6 h he_6 => ?_
  refine tt ?_
  refine lE (fun (s__ : Nat) (a__ : Unit) => match s__, a__ with | i_5, _ => ⟨[(1, .one (.sl (fixed.map eI))), (7, .one (.sl (r_3.1.map eI))), (9, .one (.int .i64 (i_5 : Int)))], [.cells 0 2 [[.sl (l.Names.map eS), .sl (l.Below.map (eA2 eI))]]]⟩) (fun (e__ : Bool ⊕ Unit) (b__ : Unit) => match e__, b__ with | (.inl e_10), _ => ⟨[], []⟩ | (.inr ()), _ => ⟨[], [.cells 0 2 [[.sl (l.Names.map eS), .sl (l.Below.map (eA2 eI))]]]⟩) (fun (e__ : Bool ⊕ Unit) => match e__ with | (.inl _) => none | (.inr _) => some 0) () he_6 ?_ ?_
  intro i7 b7 hi7
  rcases e_6 with e_case | ⟨⟩
  cases hi7
  obtain rfl := Option.some.inj hi7
  obtain ⟨⟩ := b7
  dsimp only at h ⊢
  refine bi h fun r_11 h hr_11 => ?_
  refine tt ?_
  repeat (first | (with_reducible intro _) | refine ⟨ss, ?_⟩)
  refine cS (lazarettolaw02_awake_ok hr_11) ?_
  cases h; exact fin
  intro af7 m7 i_5 a7 o7 hf7 ho7 ih7
  obtain ⟨⟩ := a7
  dsimp only [lazarettolaw02_SolveIs_L1] at hf7 ⊢
  refine tt ?_
  repeat (first | (with_reducible intro _) | refine ⟨ss, ?_⟩)
  refine fl hf7 F (fun hf7 _ F => ?_) (fun hf7 _ F => ?_)
  refine bx hf7 F fun x_8 hf7 hx_8 F => ?_
  refine tt ?_
  repeat (first | (with_reducible intro _) | refine ⟨ss, ?_⟩)
  refine fi hf7 F (fun hf7 _ F => ?_) (fun hf7 _ F => ?_)
  cases hf7
  refine tt ?_
  repeat (first | (with_reducible intro _) | refine ⟨ss, ?_⟩)
  refine wn i_5 F fun F => ?_
  exact bk ih7 ho7 ()
  refine bx hf7 F fun x_9 hf7 hx_9 F => ?_
  refine tt ?_
  repeat (first | (with_reducible intro _) | refine ⟨ss, ?_⟩)
  refine fi hf7 F (fun hf7 _ F => ?_) (fun hf7 _ F => ?_)
  cases hf7
  refine tt ?_
  refine wn i_5 F fun F => ?_
  exact bk ih7 ho7 ()
  cases hf7
  obtain rfl := sr ho7
  try dsimp only at h
  cases h
  exact fin
  cases hf7
  refine tt ?_
  exact xt ho7 af7 ()
  cases h; exact fin
  cases h; exact fin
  refine tt ?_
  repeat (first | (with_reducible intro _) | refine ⟨ss, ?_⟩)
  refine fi h F (fun h _ F => ?_) (fun h _ F => ?_)
  refine bi h fun r_12 h hr_12 => ?_
  refine tt ?_
  repeat (first | (with_reducible intro _) | refine ⟨ss, ?_⟩)
  refine cS (lazarettolaw02_awake_ok hr_12) ?_
  cases h; exact fin
  cases h; exact fin
  refine bi h fun r_13 h hr_13 => ?_
  refine tt ?_
  repeat (first | (with_reducible intro _) | refine ⟨ss, ?_⟩)
  refine cS (lazarettolaw02_awake_ok hr_13) ?_
  cases h; exact fin
  refine bi h fun r_14 h hr_14 => ?_
  refine tt ?_
  repeat (first | (with_reducible intro _) | refine ⟨ss, ?_⟩)
  refine cS (lazarettolaw02_awake_ok hr_14) ?_
  cases h; exact fin
theorem lazarettolaw02_SolveBest_ok {l : api_Lattice} {labels : List Int} {rules : List (A2 Int)} {r : Bool} (h : lazarettolaw02_SolveBest l labels rules = some r) :
    Pu Try.prog 11 [.agg (e_api_Lattice l), .one (.sl (labels.map eI)), .one (.sl (rules.map (eA2 eI)))] (.one (.bool r)) := by
  have F := trivial; have R := trivial
  refine pA Try.func11 ?_
  simp only [Try.f11]
  unfold lazarettolaw02_SolveBest at h
  refine bi h fun r_1 h hr_1 => ?_
  refine tt ?_
  repeat (first | (with_reducible intro _) | refine ⟨ss, ?_⟩)
  refine cS (lazarettolaw02_few_ok hr_1) ?_
  refine fv h F (fun h _ F => ?_) (fun h _ F => ?_)
  refine bi h fun r_2 h hr_2 => ?_
  refine tt ?_
  repeat (first | (with_reducible intro _) | refine ⟨ss, ?_⟩)
  refine cS (lazarettoref01_Check_ok hr_2) ?_
  refine fi h F (fun h _ F => ?_) (fun h _ F => ?_)
  refine bi h fun r_3 h hr_3 => ?_
  refine tt ?_
  repeat (first | (with_reducible intro _) | refine ⟨ss, ?_⟩)
  refine cS (lazarettoref02_Holds_ok hr_3) ?_
  refine fv h F (fun h _ F => ?_) (fun h _ F => ?_)
  refine bi h fun e_8 h he_8 => ?_
  refine tt ?_
  refine seed_L 7 1 (by simp [go_sem]) ?_
  refine lE (fun (s__ : (List Int) × Nat) (a__ : Nat) => match s__, a__ with | (fixed_5, i_7), v_4 => ⟨[(1, .one (.sl (labels.map eI))), (2, .one (.sl (rules.map (eA2 eI)))), (3, .one (.ref 0 0 0 0)), (7, .one (.msl 1 v_4 0 fixed_5.length)), (8, .one (.int .i64 (i_7 : Int)))], [.cells 0 2 [[.sl (l.Names.map eS), .sl (l.Below.map (eA2 eI))]], .cells v_4 1 (fixed_5.map eI)]⟩) (fun (e__ : Bool ⊕ (List Int)) (b__ : Nat) => match e__, b__ with | (.inl e_15), _ => ⟨[], []⟩ | (.inr fixed_16), b9 => ⟨[(1, .one (.sl (labels.map eI))), (2, .one (.sl (rules.map (eA2 eI)))), (3, .one (.ref 0 0 0 0)), (7, .one (.msl 1 b9 0 fixed_16.length))], [.cells 0 2 [[.sl (l.Names.map eS), .sl (l.Below.map (eA2 eI))]], .cells b9 1 (fixed_16.map eI)]⟩) (fun (e__ : Bool ⊕ (List Int)) => match e__ with | (.inl _) => none | (.inr _) => some 0) 0 he_8 ?_ ?_
  intro i9 b9 hi9
  rcases e_8 with e_case | fixed_16
  cases hi9
  obtain rfl := Option.some.inj hi9
  dsimp only at h ⊢
  refine bi h fun r_17 h hr_17 => ?_
  refine tt ?_
  repeat (first | (with_reducible intro _) | refine ⟨ss, ?_⟩)
  refine cF [1] (solve_Least_ok hr_17) ?_
  refine tt ?_
  refine fv h F (fun h _ F => ?_) (fun h _ F => ?_)
  refine tt ?_
  repeat (first | (with_reducible intro _) | refine ⟨ss, ?_⟩)
  refine fi h F (fun h _ F => ?_) (fun h _ F => ?_)
  refine bi h fun e_19 h he_19 => ?_
  refine tt ?_
  refine lE (fun (s__ : Nat) (a__ : Unit) => match s__, a__ with | i_18, _ => ⟨[(1, .one (.sl (labels.map eI))), (3, .one (.ref 0 0 0 0)), (9, .one (.sl (r_17.1.map eI))), (11, .one (.int .i64 (i_18 : Int)))], [.cells 0 2 [[.sl (l.Names.map eS), .sl (l.Below.map (eA2 eI))]], .dead]⟩) (fun (e__ : Bool ⊕ Unit) (b__ : Unit) => match e__, b__ with | (.inl e_24), _ => ⟨[], []⟩ | (.inr ()), _ => ⟨[], [.cells 0 2 [[.sl (l.Names.map eS), .sl (l.Below.map (eA2 eI))]], .dead]⟩) (fun (e__ : Bool ⊕ Unit) => match e__ with | (.inl _) => none | (.inr _) => some 2) () he_19 ?_ ?_
  intro i20 b20 hi20
  rcases e_19 with e_case | ⟨⟩
  cases hi20
  obtain rfl := Option.some.inj hi20
  obtain ⟨⟩ := b20
  dsimp only at h ⊢
  refine bi h fun r_25 h hr_25 => ?_
  refine tt ?_
  repeat (first | (with_reducible intro _) | refine ⟨ss, ?_⟩)
  refine cS (lazarettolaw02_awake_ok hr_25) ?_
  cases h; exact fin
  intro af20 m20 i_18 a20 o20 hf20 ho20 ih20
  obtain ⟨⟩ := a20
  dsimp only [lazarettolaw02_SolveBest_L2] at hf20 ⊢
  refine tt ?_
  repeat (first | (with_reducible intro _) | refine ⟨ss, ?_⟩)
  refine fl hf20 F (fun hf20 _ F => ?_) (fun hf20 _ F => ?_)
  refine bx hf20 F fun x_21 hf20 hx_21 F => ?_
  refine bx hf20 F fun x_22 hf20 hx_22 F => ?_
  refine bi hf20 fun r_23 hf20 hr_23 => ?_
  refine tt ?_
  repeat (first | (with_reducible intro _) | refine ⟨ss, ?_⟩)
  refine cD (lazarettoref01_Leq_ok hr_23) ?_
  refine tt ?_
  repeat (first | (with_reducible intro _) | refine ⟨ss, ?_⟩)
  refine fv hf20 F (fun hf20 _ F => ?_) (fun hf20 _ F => ?_)
  cases hf20
  refine tt ?_
  refine wn i_18 F fun F => ?_
  exact bk ih20 ho20 ()
  cases hf20
  obtain rfl := sr ho20
  try dsimp only at h
  cases h
  exact fin
  cases hf20
  refine tt ?_
  exact xt ho20 af20 ()
  cases h; exact fin
  cases h; exact fin
  intro af9 m9 s9 v_4 o9 hf9 ho9 ih9
  obtain ⟨fixed_5, i_7⟩ := s9
  dsimp only [lazarettolaw02_SolveBest_L1] at hf9 ⊢
  refine tt ?_
  repeat (first | (with_reducible intro _) | refine ⟨ss, ?_⟩)
  refine fl hf9 F (fun hf9 _ F => ?_) (fun hf9 _ F => ?_)
  refine bx hf9 F fun x_10 hf9 hx_10 F => ?_
  refine bi hf9 fun r_11 hf9 hr_11 => ?_
  refine tt ?_
  repeat (first | (with_reducible intro _) | refine ⟨ss, ?_⟩)
  refine cD (lazarettoref01_Is_ok hr_11) ?_
  refine tt ?_
  repeat (first | (with_reducible intro _) | refine ⟨ss, ?_⟩)
  refine fv hf9 F (fun hf9 _ F => ?_) (fun hf9 _ F => ?_)
  refine tt ?_
  repeat (first | (with_reducible intro _) | refine ⟨ss, ?_⟩)
  refine fi hf9 F (fun hf9 _ F => ?_) (fun hf9 _ F => ?_)
  refine nd hf9 F fun hf9 F => ?_
  cases hf9
  refine tt ?_
  repeat (first | (with_reducible intro _) | refine ⟨ss, ?_⟩)
  refine wn i_7 F fun F => ?_
  exact bk ih9 ho9 (v_4 + 1)
  refine nd hf9 F fun hf9 F => ?_
  cases hf9
  refine tt ?_
  repeat (first | (with_reducible intro _) | refine ⟨ss, ?_⟩)
  refine wn i_7 F fun F => ?_
  exact bk ih9 ho9 (v_4 + 1)
  refine bi hf9 fun r_14 hf9 hr_14 => ?_
  refine tt ?_
  repeat (first | (with_reducible intro _) | refine ⟨ss, ?_⟩)
  refine cS (lazarettolaw02_awake_ok hr_14) ?_
  cases hf9
  obtain rfl := sr ho9
  try dsimp only at h
  cases h
  exact fin
  cases hf9
  refine tt ?_
  exact xt ho9 af9 v_4
  refine bi h fun r_26 h hr_26 => ?_
  refine tt ?_
  repeat (first | (with_reducible intro _) | refine ⟨ss, ?_⟩)
  refine cS (lazarettolaw02_awake_ok hr_26) ?_
  cases h; exact fin
  refine bi h fun r_27 h hr_27 => ?_
  refine tt ?_
  repeat (first | (with_reducible intro _) | refine ⟨ss, ?_⟩)
  refine cS (lazarettolaw02_awake_ok hr_27) ?_
  cases h; exact fin
  refine bi h fun r_28 h hr_28 => ?_
  refine tt ?_
  repeat (first | (with_reducible intro _) | refine ⟨ss, ?_⟩)
  refine cS (lazarettolaw02_awake_ok hr_28) ?_
  cases h; exact fin
end Go.Lz
