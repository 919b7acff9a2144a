/- V01b -/
import Derived.Test.YtbcpfhnlidpcbaaV01
namespace Go.Lz
set_option linter.unusedVariables false
set_option linter.unusedSimpArgs false
open Go.Proofs
attribute [-go_sem] q_cond g_b gd_b
set_option maxRecDepth 100000
noncomputable section
def lazarettoref01_Join_L3 (l : api_Lattice) (a : Int) (b : Int) (c_1 : Nat) : (Bool × Nat) → Option ((Bool × Nat) ⊕ (Bool))
  | (ok_14, d_15) => if (d_15 : Int) < (l.Names.length : Int) then (if ok_14 = true then ((lazarettoref01_Leq l a (d_15 : Int)).bind fun r_18 => if r_18 = true then ((lazarettoref01_Leq l b (d_15 : Int)).bind fun r_19 => if r_19 = true then ((lazarettoref01_Leq l (c_1 : Int) (d_15 : Int)).bind fun r_20 => some (.inl (r_20, (d_15 + 1)))) else (some (.inl (true, (d_15 + 1))))) else (some (.inl (true, (d_15 + 1))))) else (some (.inr (ok_14)))) else (some (.inr (ok_14)))
def lazarettoref01_Join_L2 (l : api_Lattice) (a : Int) (b : Int) (c_1 : Nat) : (Bool × Nat) → Option ((Bool × Nat) ⊕ (Bool))
  | (ok_6, d_7) => if (d_7 : Int) < (l.Names.length : Int) then (if ok_6 = true then ((lazarettoref01_Leq l a (d_7 : Int)).bind fun r_10 => if r_10 = true then ((lazarettoref01_Leq l b (d_7 : Int)).bind fun r_11 => if r_11 = true then ((lazarettoref01_Leq l (c_1 : Int) (d_7 : Int)).bind fun r_12 => some (.inl (r_12, (d_7 + 1)))) else (some (.inl (true, (d_7 + 1))))) else (some (.inl (true, (d_7 + 1))))) else (some (.inr (ok_6)))) else (some (.inr (ok_6)))
def lazarettoref01_Join_L1 (l : api_Lattice) (a : Int) (b : Int) : Nat → Option ((Nat) ⊕ (Int ⊕ Unit))
  | c_1 => if (c_1 : Int) < (l.Names.length : Int) then ((lazarettoref01_Leq l a (c_1 : Int)).bind fun r_4 => if r_4 = true then ((lazarettoref01_Leq l b (c_1 : Int)).bind fun r_5 => (loop (lazarettoref01_Join_L2 l a b c_1) (r_5, 0)).bind (fun e_8 => if e_8 = true then (some (.inr (.inl ((c_1 : Int))))) else (some (.inl (c_1 + 1))))) else ((loop (lazarettoref01_Join_L3 l a b c_1) (false, 0)).bind (fun e_16 => if e_16 = true then (some (.inr (.inl ((c_1 : Int))))) else (some (.inl (c_1 + 1)))))) else (some (.inr (.inr (()))))
def lazarettoref01_Join (l : api_Lattice) (a : Int) (b : Int) : Option Int :=
  (loop (lazarettoref01_Join_L1 l a b) 0).bind (fun e__ => match e__ with | (.inl e_22) => some e_22 | (.inr ()) => some (-1))
def lazarettoref01_Meet_L3 (l : api_Lattice) (a : Int) (b : Int) (c_1 : Nat) : (Bool × Nat) → Option ((Bool × Nat) ⊕ (Bool))
  | (ok_14, d_15) => if (d_15 : Int) < (l.Names.length : Int) then (if ok_14 = true then ((lazarettoref01_Leq l (d_15 : Int) a).bind fun r_18 => if r_18 = true then ((lazarettoref01_Leq l (d_15 : Int) b).bind fun r_19 => if r_19 = true then ((lazarettoref01_Leq l (d_15 : Int) (c_1 : Int)).bind fun r_20 => some (.inl (r_20, (d_15 + 1)))) else (some (.inl (true, (d_15 + 1))))) else (some (.inl (true, (d_15 + 1))))) else (some (.inr (ok_14)))) else (some (.inr (ok_14)))
def lazarettoref01_Meet_L2 (l : api_Lattice) (a : Int) (b : Int) (c_1 : Nat) : (Bool × Nat) → Option ((Bool × Nat) ⊕ (Bool))
  | (ok_6, d_7) => if (d_7 : Int) < (l.Names.length : Int) then (if ok_6 = true then ((lazarettoref01_Leq l (d_7 : Int) a).bind fun r_10 => if r_10 = true then ((lazarettoref01_Leq l (d_7 : Int) b).bind fun r_11 => if r_11 = true then ((lazarettoref01_Leq l (d_7 : Int) (c_1 : Int)).bind fun r_12 => some (.inl (r_12, (d_7 + 1)))) else (some (.inl (true, (d_7 + 1))))) else (some (.inl (true, (d_7 + 1))))) else (some (.inr (ok_6)))) else (some (.inr (ok_6)))
def lazarettoref01_Meet_L1 (l : api_Lattice) (a : Int) (b : Int) : Nat → Option ((Nat) ⊕ (Int ⊕ Unit))
  | c_1 => if (c_1 : Int) < (l.Names.length : Int) then ((lazarettoref01_Leq l (c_1 : Int) a).bind fun r_4 => if r_4 = true then ((lazarettoref01_Leq l (c_1 : Int) b).bind fun r_5 => (loop (lazarettoref01_Meet_L2 l a b c_1) (r_5, 0)).bind (fun e_8 => if e_8 = true then (some (.inr (.inl ((c_1 : Int))))) else (some (.inl (c_1 + 1))))) else ((loop (lazarettoref01_Meet_L3 l a b c_1) (false, 0)).bind (fun e_16 => if e_16 = true then (some (.inr (.inl ((c_1 : Int))))) else (some (.inl (c_1 + 1)))))) else (some (.inr (.inr (()))))
def lazarettoref01_Meet (l : api_Lattice) (a : Int) (b : Int) : Option Int :=
  (loop (lazarettoref01_Meet_L1 l a b) 0).bind (fun e__ => match e__ with | (.inl e_22) => some e_22 | (.inr ()) => some (-1))
def lazarettoref01_Check_L3 (l : api_Lattice) (a_8 : Nat) (x_11 : Str) : Nat → Option ((Nat) ⊕ (Int ⊕ Unit))
  | b_12 => if (b_12 : Int) < (a_8 : Int) then ((l.Names[b_12]?).bind fun x_15 => if x_11 = x_15 then (some (.inr (.inl (4)))) else ((lazarettoref01_Leq l (a_8 : Int) (b_12 : Int)).bind fun r_16 => if r_16 = true then ((lazarettoref01_Leq l (b_12 : Int) (a_8 : Int)).bind fun r_17 => if r_17 = true then (some (.inr (.inl (4)))) else ((lazarettoref01_Join l (a_8 : Int) (b_12 : Int)).bind fun r_18 => if r_18 < 0 then (some (.inr (.inl (4)))) else ((lazarettoref01_Meet l (a_8 : Int) (b_12 : Int)).bind fun r_19 => if r_19 < 0 then (some (.inr (.inl (4)))) else (some (.inl (b_12 + 1)))))) else ((lazarettoref01_Join l (a_8 : Int) (b_12 : Int)).bind fun r_20 => if r_20 < 0 then (some (.inr (.inl (4)))) else ((lazarettoref01_Meet l (a_8 : Int) (b_12 : Int)).bind fun r_21 => if r_21 < 0 then (some (.inr (.inl (4)))) else (some (.inl (b_12 + 1))))))) else (some (.inr (.inr (()))))
def lazarettoref01_Check_L2 (l : api_Lattice) : Nat → Option ((Nat) ⊕ (Int ⊕ Unit))
  | a_8 => if (a_8 : Int) < (l.Names.length : Int) then ((l.Names[a_8]?).bind fun x_11 => if x_11 = [] then (some (.inr (.inl (4)))) else ((loop (lazarettoref01_Check_L3 l a_8 x_11) 0).bind (fun e__ => match e__ with | (.inl e_22) => some (.inr (.inl (e_22))) | (.inr ()) => some (.inl (a_8 + 1))))) else (some (.inr (.inr (()))))
def lazarettoref01_Check_L1 (l : api_Lattice) : Nat → Option ((Nat) ⊕ (Int ⊕ Unit))
  | i_1 => if (i_1 : Int) < (l.Below.length : Int) then ((l.Below[i_1]?).bind fun x_4 => (lazarettoref01_Is l x_4.a0).bind fun r_5 => if r_5 = true then ((lazarettoref01_Is l x_4.a1).bind fun r_6 => if r_6 = true then (some (.inl (i_1 + 1))) else (some (.inr (.inl (4))))) else (some (.inr (.inl (4))))) else (some (.inr (.inr (()))))
def lazarettoref01_Check (l : api_Lattice) : Option Int :=
  if (l.Names.length : Int) < 1 then (some 3) else (if 8 < (l.Names.length : Int) then (some 3) else ((loop (lazarettoref01_Check_L1 l) 0).bind (fun e__ => match e__ with | (.inl e_7) => some e_7 | (.inr ()) => (loop (lazarettoref01_Check_L2 l) 0).bind (fun e__ => match e__ with | (.inl e_23) => some e_23 | (.inr ()) => some 0))))
def lazarettolaw01_few (l : api_Lattice) : Option Bool :=
  if (l.Names.length : Int) ≤ 12 then (some (decide ((l.Below.length : Int) ≤ 200))) else (some false)
def lattice_best_L2 (l : api_Lattice) (of : (Int → Option Bool)) (ahead : (Int → Int → Option Bool)) (x_1 : Nat) : Nat → Option ((Nat) ⊕ (Unit ⊕ Unit))
  | x_5 => if (x_5 : Int) < (l.Names.length : Int) then ((of (x_5 : Int)).bind fun r_8 => if r_8 = true then ((ahead (x_1 : Int) (x_5 : Int)).bind fun r_9 => if r_9 = true then (some (.inl (x_5 + 1))) else (some (.inr (.inl (()))))) else (some (.inl (x_5 + 1)))) else (some (.inr (.inr (()))))
def lattice_best_L1 (l : api_Lattice) (of : (Int → Option Bool)) (ahead : (Int → Int → Option Bool)) : Nat → Option ((Nat) ⊕ (Int ⊕ Unit))
  | x_1 => if (x_1 : Int) < (l.Names.length : Int) then ((of (x_1 : Int)).bind fun r_4 => if r_4 = true then ((loop (lattice_best_L2 l of ahead x_1) 0).bind (fun e__ => match e__ with | (.inl ()) => some (.inl (x_1 + 1)) | (.inr ()) => some (.inr (.inl ((x_1 : Int)))))) else (some (.inl (x_1 + 1)))) else (some (.inr (.inr (()))))
def lattice_best (l : api_Lattice) (of : (Int → Option Bool)) (ahead : (Int → Int → Option Bool)) : Option Int :=
  (loop (lattice_best_L1 l of ahead) 0).bind (fun e__ => match e__ with | (.inl e_10) => some e_10 | (.inr ()) => some (-1))
def lattice_Join_1 (c0 : List Bool) (c1 : List Bool) (c : Int) : Option Bool :=
  (idx c0 c).bind fun x_1 => if x_1 = true then ((idx c1 c).bind fun x_2 => some x_2) else (some false)
def lattice_Join_2 (c0 : api_Lattice) (c : Int) (d : Int) : Option Bool :=
  (lattice_Leq c0 c d).bind fun r_1 => some r_1
def lattice_Join (l : api_Lattice) (a : Int) (b : Int) : Option Int :=
  (lattice_is l a).bind fun r_1 => if r_1 = true then ((lattice_is l b).bind fun r_2 => if r_2 = true then ((lattice_above l a).bind fun r_3 => (lattice_above l b).bind fun r_4 => (lattice_best l (lattice_Join_1 r_3 r_4) (lattice_Join_2 l)).bind fun r_5 => some r_5) else (some (-1))) else (some (-1))
def lattice_Meet_1 (c0 : api_Lattice) (c1 : Int) (c2 : Int) (c : Int) : Option Bool :=
  (lattice_Leq c0 c c1).bind fun r_1 => if r_1 = true then ((lattice_Leq c0 c c2).bind fun r_2 => some r_2) else (some false)
def lattice_Meet_2 (c0 : api_Lattice) (c : Int) (d : Int) : Option Bool :=
  (lattice_Leq c0 d c).bind fun r_1 => some r_1
def lattice_Meet (l : api_Lattice) (a : Int) (b : Int) : Option Int :=
  (lattice_is l a).bind fun r_1 => if r_1 = true then ((lattice_is l b).bind fun r_2 => if r_2 = true then ((lattice_best l (lattice_Meet_1 l a b) (lattice_Meet_2 l)).bind fun r_3 => some r_3) else (some (-1))) else (some (-1))
def lattice_Check_L3 (l : api_Lattice) (x_9 : Nat) : Nat → Option ((Nat) ⊕ (Int ⊕ Unit))
  | x_13 => if (x_13 : Int) < (x_9 : Int) then ((lattice_Leq l (x_9 : Int) (x_13 : Int)).bind fun r_16 => if r_16 = true then ((lattice_Leq l (x_13 : Int) (x_9 : Int)).bind fun r_17 => if r_17 = true then (some (.inr (.inl (4)))) else ((lattice_Join l (x_9 : Int) (x_13 : Int)).bind fun r_18 => if r_18 < 0 then (some (.inr (.inl (4)))) else ((lattice_Meet l (x_9 : Int) (x_13 : Int)).bind fun r_19 => if r_19 < 0 then (some (.inr (.inl (4)))) else (some (.inl (x_13 + 1)))))) else ((lattice_Join l (x_9 : Int) (x_13 : Int)).bind fun r_20 => if r_20 < 0 then (some (.inr (.inl (4)))) else ((lattice_Meet l (x_9 : Int) (x_13 : Int)).bind fun r_21 => if r_21 < 0 then (some (.inr (.inl (4)))) else (some (.inl (x_13 + 1)))))) else (some (.inr (.inr (()))))
def lattice_Check_L2 (l : api_Lattice) : ((List (Str × Bool)) × Nat) → Option (((List (Str × Bool)) × Nat) ⊕ (Int ⊕ (List (Str × Bool))))
  | (seen_8, x_9) => if (x_9 : Int) < (l.Names.length : Int) then ((l.Names[x_9]?).bind fun x_12 => if ((mget x_12 seen_8).getD false) = true then (some (.inr (.inl (4)))) else ((loop (lattice_Check_L3 l x_9) 0).bind (fun e__ => match e__ with | (.inl e_22) => some (.inr (.inl (e_22))) | (.inr ()) => some (.inl ((mset x_12 true seen_8), (x_9 + 1)))))) else (some (.inr (.inr (seen_8))))
def lattice_Check_L1 (l : api_Lattice) : Nat → Option ((Nat) ⊕ (Int ⊕ Unit))
  | x_1 => if (x_1 : Int) < (l.Below.length : Int) then ((l.Below[x_1]?).bind fun x_4 => (lattice_is l x_4.a0).bind fun r_5 => if r_5 = true then ((lattice_is l x_4.a1).bind fun r_6 => if r_6 = true then (some (.inl (x_1 + 1))) else (some (.inr (.inl (4))))) else (some (.inr (.inl (4))))) else (some (.inr (.inr (()))))
def lattice_Check (l : api_Lattice) : Option Int :=
  if (l.Names.length : Int) < 1 then (some 3) else (if 8 < (l.Names.length : Int) then (some 3) else ((loop (lattice_Check_L1 l) 0).bind (fun e__ => match e__ with | (.inl e_7) => some e_7 | (.inr ()) => (loop (lattice_Check_L2 l) ((mset [] true ([] : List (Str × Bool))), 0)).bind (fun e__ => match e__ with | (.inl e_23) => some e_23 | (.inr seen_24) => some 0))))
def lattice_all (p0 : Int) : Option Bool :=
  some true
def lattice_Bottom_1 (c0 : api_Lattice) (c : Int) (d : Int) : Option Bool :=
  (lattice_Leq c0 c d).bind fun r_1 => some r_1
def lattice_Bottom (l : api_Lattice) : Option Int :=
  (lattice_best l lattice_all (lattice_Bottom_1 l)).bind fun r_1 => some r_1
def lattice_Top_1 (c0 : api_Lattice) (c : Int) (d : Int) : Option Bool :=
  (lattice_Leq c0 d c).bind fun r_1 => some r_1
def lattice_Top (l : api_Lattice) : Option Int :=
  (lattice_best l lattice_all (lattice_Top_1 l)).bind fun r_1 => some r_1
def lazarettolaw01_awake : Option Bool :=
  (lattice_Join (⟨[([108, 111, 119] : Str), ([104, 105, 103, 104] : Str)], [(⟨0, 1⟩ : A2 Int)]⟩ : api_Lattice) 0 1).bind fun r_1 => if r_1 = 1 then ((lattice_Meet (⟨[([108, 111, 119] : Str), ([104, 105, 103, 104] : Str)], [(⟨0, 1⟩ : A2 Int)]⟩ : api_Lattice) 0 1).bind fun r_2 => if r_2 = 0 then ((lattice_Join (⟨[([97] : Str), ([98] : Str), ([99] : Str), ([100] : Str)], [(⟨0, 1⟩ : A2 Int), (⟨0, 2⟩ : A2 Int), (⟨1, 3⟩ : A2 Int), (⟨2, 3⟩ : A2 Int)]⟩ : api_Lattice) 1 2).bind fun r_3 => if r_3 = 3 then ((lattice_Check (⟨[([97] : Str), ([98] : Str), ([99] : Str), ([100] : Str)], [(⟨0, 1⟩ : A2 Int), (⟨0, 2⟩ : A2 Int), (⟨1, 3⟩ : A2 Int), (⟨2, 3⟩ : A2 Int)]⟩ : api_Lattice)).bind fun r_4 => if r_4 = 0 then ((lattice_Bottom (⟨[([97] : Str), ([98] : Str), ([99] : Str), ([100] : Str)], [(⟨0, 1⟩ : A2 Int), (⟨0, 2⟩ : A2 Int), (⟨1, 3⟩ : A2 Int), (⟨2, 3⟩ : A2 Int)]⟩ : api_Lattice)).bind fun r_5 => if r_5 = 0 then ((lattice_Top (⟨[([97] : Str), ([98] : Str), ([99] : Str), ([100] : Str)], [(⟨0, 1⟩ : A2 Int), (⟨0, 2⟩ : A2 Int), (⟨1, 3⟩ : A2 Int), (⟨2, 3⟩ : A2 Int)]⟩ : api_Lattice)).bind fun r_6 => if r_6 = 3 then ((lattice_Leq (⟨[([108, 111, 119] : Str), ([104, 105, 103, 104] : Str)], [(⟨0, 1⟩ : A2 Int)]⟩ : api_Lattice) 0 1).bind fun r_7 => if r_7 = true then ((lattice_Leq (⟨[([108, 111, 119] : Str), ([104, 105, 103, 104] : Str)], [(⟨0, 1⟩ : A2 Int)]⟩ : api_Lattice) 1 0).bind fun r_8 => if r_8 = true then (some false) else ((lattice_Check (⟨[], []⟩ : api_Lattice)).bind fun r_9 => some (decide (r_9 = 3)))) else (some false)) else (some false)) else (some false)) else (some false)) else (some false)) else (some false)) else (some false)
def lazarettolaw01_LatticeOrders (l : api_Lattice) (a : Int) (b : Int) : Option Bool :=
  (lazarettolaw01_few l).bind fun r_1 => if r_1 = true then ((lattice_Leq l a b).bind fun r_2 => (lazarettoref01_Leq l a b).bind fun r_3 => if (r_2 == r_3) = true then ((lattice_Join l a b).bind fun r_4 => (lazarettoref01_Join l a b).bind fun r_5 => if r_4 = r_5 then ((lattice_Meet l a b).bind fun r_6 => (lazarettoref01_Meet l a b).bind fun r_7 => if r_6 = r_7 then ((lazarettolaw01_awake).bind fun r_8 => some r_8) else (some false)) else (some false)) else (some false)) else ((lazarettolaw01_awake).bind fun r_9 => some r_9)
def lazarettoref01_Bottom_L2 (l : api_Lattice) (c_1 : Nat) : (Bool × Nat) → Option ((Bool × Nat) ⊕ (Bool))
  | (ok_4, d_5) => if (d_5 : Int) < (l.Names.length : Int) then (if ok_4 = true then ((lazarettoref01_Leq l (c_1 : Int) (d_5 : Int)).bind fun r_8 => some (.inl (r_8, (d_5 + 1)))) else (some (.inr (ok_4)))) else (some (.inr (ok_4)))
def lazarettoref01_Bottom_L1 (l : api_Lattice) : Nat → Option ((Nat) ⊕ (Int ⊕ Unit))
  | c_1 => if (c_1 : Int) < (l.Names.length : Int) then ((loop (lazarettoref01_Bottom_L2 l c_1) (true, 0)).bind (fun e_6 => if e_6 = true then (some (.inr (.inl ((c_1 : Int))))) else (some (.inl (c_1 + 1))))) else (some (.inr (.inr (()))))
def lazarettoref01_Bottom (l : api_Lattice) : Option Int :=
  (loop (lazarettoref01_Bottom_L1 l) 0).bind (fun e__ => match e__ with | (.inl e_10) => some e_10 | (.inr ()) => some (-1))
def lazarettoref01_Top_L2 (l : api_Lattice) (c_1 : Nat) : (Bool × Nat) → Option ((Bool × Nat) ⊕ (Bool))
  | (ok_4, d_5) => if (d_5 : Int) < (l.Names.length : Int) then (if ok_4 = true then ((lazarettoref01_Leq l (d_5 : Int) (c_1 : Int)).bind fun r_8 => some (.inl (r_8, (d_5 + 1)))) else (some (.inr (ok_4)))) else (some (.inr (ok_4)))
def lazarettoref01_Top_L1 (l : api_Lattice) : Nat → Option ((Nat) ⊕ (Int ⊕ Unit))
  | c_1 => if (c_1 : Int) < (l.Names.length : Int) then ((loop (lazarettoref01_Top_L2 l c_1) (true, 0)).bind (fun e_6 => if e_6 = true then (some (.inr (.inl ((c_1 : Int))))) else (some (.inl (c_1 + 1))))) else (some (.inr (.inr (()))))
def lazarettoref01_Top (l : api_Lattice) : Option Int :=
  (loop (lazarettoref01_Top_L1 l) 0).bind (fun e__ => match e__ with | (.inl e_10) => some e_10 | (.inr ()) => some (-1))
def lazarettolaw01_LatticeChecks (l : api_Lattice) : Option Bool :=
  (lazarettolaw01_few l).bind fun r_1 => if r_1 = true then ((lattice_Check l).bind fun r_2 => (lazarettoref01_Check l).bind fun r_3 => if r_2 = r_3 then ((lattice_Bottom l).bind fun r_4 => (lazarettoref01_Bottom l).bind fun r_5 => if r_4 = r_5 then ((lattice_Top l).bind fun r_6 => (lazarettoref01_Top l).bind fun r_7 => if r_6 = r_7 then ((lazarettolaw01_awake).bind fun r_8 => some r_8) else (some false)) else (some false)) else (some false)) else ((lazarettolaw01_awake).bind fun r_9 => some r_9)
def lazarettolaw01_may_L1 (l : api_Lattice) : (Int × Int × Int × Nat) → Option ((Int × Int × Int × Nat) ⊕ (Int × Int × Int))
  | (n_3, n_4, n_5, i_6) => if (i_6 : Int) < 3 then (if (i_6 : Int) = 0 then (need (¬ (IntKind.u64.wrap (l.Names.length : Int)) = 0) (some (.inl ((w64 ((IntKind.u64.wrap n_3).tmod (IntKind.u64.wrap (l.Names.length : Int)))), n_4, n_5, (i_6 + 1))))) else (if (i_6 : Int) = 1 then (need (¬ (IntKind.u64.wrap (l.Names.length : Int)) = 0) (some (.inl (n_3, (w64 ((IntKind.u64.wrap n_4).tmod (IntKind.u64.wrap (l.Names.length : Int)))), n_5, (i_6 + 1))))) else (if (i_6 : Int) = 2 then (need (¬ (IntKind.u64.wrap (l.Names.length : Int)) = 0) (some (.inl (n_3, n_4, (w64 ((IntKind.u64.wrap n_5).tmod (IntKind.u64.wrap (l.Names.length : Int)))), (i_6 + 1))))) else none))) else (some (.inr ((n_3, n_4, n_5))))
def lazarettolaw01_may (l : api_Lattice) (n : A3 Int) : Option ((A3 Int) × Bool) :=
  (lazarettoref01_Check l).bind fun r_1 => if r_1 = 0 then ((lazarettolaw01_few l).bind fun r_2 => if r_2 = true then ((loop (lazarettolaw01_may_L1 l) (n.a0, n.a1, n.a2, 0)).bind (fun (n_12, n_13, n_14) => some ((⟨n_12, n_13, n_14⟩ : A3 Int), true))) else (some (n, false))) else (some (n, false))
def lazarettolaw01_LatticeLaws (l : api_Lattice) (raw : A3 Int) : Option Bool :=
  (lazarettolaw01_may l raw).bind fun r_1 => if r_1.2 = true then ((lattice_Join l r_1.1.a0 r_1.1.a1).bind fun r_2 => (lattice_Meet l r_1.1.a0 r_1.1.a1).bind fun r_3 => (lattice_Join l r_1.1.a1 r_1.1.a0).bind fun r_4 => if r_2 = r_4 then ((lattice_Meet l r_1.1.a1 r_1.1.a0).bind fun r_5 => if r_3 = r_5 then ((lattice_Join l r_1.1.a0 r_1.1.a0).bind fun r_6 => if r_6 = r_1.1.a0 then ((lattice_Join l r_1.1.a0 r_3).bind fun r_7 => if r_7 = r_1.1.a0 then ((lattice_Meet l r_1.1.a0 r_2).bind fun r_8 => if r_8 = r_1.1.a0 then ((lattice_Join l r_2 r_1.1.a2).bind fun r_9 => (lattice_Join l r_1.1.a1 r_1.1.a2).bind fun r_10 => (lattice_Join l r_1.1.a0 r_10).bind fun r_11 => if r_9 = r_11 then ((lattice_Meet l r_3 r_1.1.a2).bind fun r_12 => (lattice_Meet l r_1.1.a1 r_1.1.a2).bind fun r_13 => (lattice_Meet l r_1.1.a0 r_13).bind fun r_14 => if r_12 = r_14 then ((lazarettolaw01_awake).bind fun r_15 => some r_15) else (some false)) else (some false)) else (some false)) else (some false)) else (some false)) else (some false)) else (some false)) else ((lazarettolaw01_awake).bind fun r_16 => some r_16)
def lazarettolaw01_LatticeBounds (l : api_Lattice) (raw : A3 Int) : Option Bool :=
  (lazarettolaw01_may l raw).bind fun r_1 => if r_1.2 = true then ((lattice_Leq l r_1.1.a0 r_1.1.a1).bind fun r_2 => (lattice_Join l r_1.1.a0 r_1.1.a1).bind fun r_3 => if (r_2 == (decide (r_3 = r_1.1.a1))) = true then ((lattice_Meet l r_1.1.a0 r_1.1.a1).bind fun r_4 => if (r_2 == (decide (r_4 = r_1.1.a0))) = true then ((lattice_Bottom l).bind fun r_5 => (lattice_Leq l r_5 r_1.1.a0).bind fun r_6 => if r_6 = true then ((lattice_Top l).bind fun r_7 => (lattice_Leq l r_1.1.a0 r_7).bind fun r_8 => if r_8 = true then ((lazarettolaw01_awake).bind fun r_9 => some r_9) else (some false)) else (some false)) else (some false)) else (some false)) else ((lazarettolaw01_awake).bind fun r_10 => some r_10)
def lazarettolaw01_LatticeChain (l : api_Lattice) (raw : A3 Int) : Option Bool :=
  (lazarettolaw01_may l raw).bind fun r_1 => if r_1.2 = true then ((lattice_Leq l r_1.1.a0 r_1.1.a1).bind fun r_2 => if r_2 = true then ((lattice_Leq l r_1.1.a1 r_1.1.a2).bind fun r_3 => if r_3 = true then ((lattice_Leq l r_1.1.a0 r_1.1.a2).bind fun r_4 => if r_4 = true then ((lattice_Leq l r_1.1.a0 r_1.1.a0).bind fun r_5 => if r_5 = true then ((lattice_Leq l r_1.1.a0 r_1.1.a1).bind fun r_6 => if r_6 = true then ((lattice_Leq l r_1.1.a1 r_1.1.a0).bind fun r_7 => if r_7 = true then (if r_1.1.a0 = r_1.1.a1 then ((lazarettolaw01_awake).bind fun r_8 => some r_8) else (some false)) else ((lazarettolaw01_awake).bind fun r_9 => some r_9)) else ((lazarettolaw01_awake).bind fun r_10 => some r_10)) else (some false)) else (some false)) else ((lattice_Leq l r_1.1.a0 r_1.1.a0).bind fun r_11 => if r_11 = true then ((lattice_Leq l r_1.1.a0 r_1.1.a1).bind fun r_12 => if r_12 = true then ((lattice_Leq l r_1.1.a1 r_1.1.a0).bind fun r_13 => if r_13 = true then (if r_1.1.a0 = r_1.1.a1 then ((lazarettolaw01_awake).bind fun r_14 => some r_14) else (some false)) else ((lazarettolaw01_awake).bind fun r_15 => some r_15)) else ((lazarettolaw01_awake).bind fun r_16 => some r_16)) else (some false))) else ((lattice_Leq l r_1.1.a0 r_1.1.a0).bind fun r_17 => if r_17 = true then ((lattice_Leq l r_1.1.a0 r_1.1.a1).bind fun r_18 => if r_18 = true then ((lattice_Leq l r_1.1.a1 r_1.1.a0).bind fun r_19 => if r_19 = true then (if r_1.1.a0 = r_1.1.a1 then ((lazarettolaw01_awake).bind fun r_20 => some r_20) else (some false)) else ((lazarettolaw01_awake).bind fun r_21 => some r_21)) else ((lazarettolaw01_awake).bind fun r_22 => some r_22)) else (some false))) else ((lazarettolaw01_awake).bind fun r_23 => some r_23)
end
theorem lazarettoref01_Join_ok {l : api_Lattice} {a : Int} {b : Int} {r : Int} (h : lazarettoref01_Join l a b = some r) :
    Pu Try.prog 36 [.agg (e_api_Lattice l), .one (.int .i64 a), .one (.int .i64 b)] (.one (.int .i64 r)) := by
  have F := trivial; have R := trivial
  refine pA Try.func36 ?_
  simp only [Try.f36]
  unfold lazarettoref01_Join at h
  refine bi h fun e_2 h he_2 => ?_
  refine tt ?_
  refine lE (fun (s__ : Nat) (a__ : Unit) => match s__, a__ with | c_1, _ => ⟨[(1, .one (.int .i64 a)), (2, .one (.int .i64 b)), (3, .one (.ref 0 0 0 0)), (7, .one (.int .i64 (c_1 : Int)))], [.cells 0 2 [[.sl (l.Names.map eS), .sl (l.Below.map (eA2 eI))]]]⟩) (fun (e__ : Int ⊕ Unit) (b__ : Unit) => match e__, b__ with | (.inl e_22), _ => ⟨[], []⟩ | (.inr ()), _ => ⟨[], [.cells 0 2 [[.sl (l.Names.map eS), .sl (l.Below.map (eA2 eI))]]]⟩) (fun (e__ : Int ⊕ Unit) => match e__ with | (.inl _) => none | (.inr _) => some 0) () he_2 ?_ ?_
  intro i3 b3 hi3
  rcases e_2 with e_case | ⟨⟩
  cases hi3
  obtain rfl := Option.some.inj hi3
  obtain ⟨⟩ := b3
  dsimp only at h ⊢
  cases h; exact fin
  intro af3 m3 c_1 a3 o3 hf3 ho3 ih3
  obtain ⟨⟩ := a3
  dsimp only [lazarettoref01_Join_L1] at hf3 ⊢
  refine tt ?_
  repeat (with_reducible first | intro _ | refine ⟨ss, ?_⟩)
  refine fl hf3 F (fun hf3 _ F => ?_) (fun hf3 _ F => ?_)
  refine bi hf3 fun r_4 hf3 hr_4 => ?_
  refine tt ?_
  repeat (with_reducible first | intro _ | refine ⟨ss, ?_⟩)
  refine cS (lazarettoref01_Leq_ok hr_4) ?_
  refine fv hf3 F (fun hf3 _ F => ?_) (fun hf3 _ F => ?_)
  refine bi hf3 fun r_5 hf3 hr_5 => ?_
  refine tt ?_
  repeat (with_reducible first | intro _ | refine ⟨ss, ?_⟩)
  refine cS (lazarettoref01_Leq_ok hr_5) ?_
  refine bi hf3 fun e_8 hf3 he_8 => ?_
  refine tt ?_
  refine lE (fun (s__ : Bool × Nat) (a__ : Unit) => match s__, a__ with | (ok_6, d_7), _ => ⟨[(1, .one (.int .i64 a)), (2, .one (.int .i64 b)), (3, .one (.ref 0 0 0 0)), (7, .one (.int .i64 (c_1 : Int))), (8, .one (.bool ok_6)), (9, .one (.int .i64 (d_7 : Int)))], [.cells 0 2 [[.sl (l.Names.map eS), .sl (l.Below.map (eA2 eI))]]]⟩) (fun (e__ : Bool) (b__ : Unit) => match e__, b__ with | e_8, _ => ⟨[(1, .one (.int .i64 a)), (2, .one (.int .i64 b)), (3, .one (.ref 0 0 0 0)), (7, .one (.int .i64 (c_1 : Int))), (8, .one (.bool e_8))], [.cells 0 2 [[.sl (l.Names.map eS), .sl (l.Below.map (eA2 eI))]]]⟩) (fun (_ : Bool) => some 2) () he_8 ?_ ?_
  intro i9 b9 hi9
  obtain rfl := Option.some.inj hi9
  obtain ⟨⟩ := b9
  dsimp only at hf3 ⊢
  refine fv hf3 F (fun hf3 _ F => ?_) (fun hf3 _ F => ?_)
  cases hf3
  obtain rfl := sr ho3
  try dsimp only at h
  cases h
  exact fin
  cases hf3
  refine tt ?_
  refine wn c_1 F fun F => ?_
  exact bk ih3 ho3 ()
  intro af9 m9 s9 a9 o9 hf9 ho9 ih9
  obtain ⟨ok_6, d_7⟩ := s9
  obtain ⟨⟩ := a9
  dsimp only [lazarettoref01_Join_L2] at hf9 ⊢
  refine tt ?_
  repeat (with_reducible first | intro _ | refine ⟨ss, ?_⟩)
  refine fl hf9 F (fun hf9 _ F => ?_) (fun hf9 _ F => ?_)
  refine fv hf9 F (fun hf9 _ F => ?_) (fun hf9 _ F => ?_)
  refine bi hf9 fun r_10 hf9 hr_10 => ?_
  refine tt ?_
  repeat (with_reducible first | intro _ | refine ⟨ss, ?_⟩)
  refine cS (lazarettoref01_Leq_ok hr_10) ?_
  refine fv hf9 F (fun hf9 _ F => ?_) (fun hf9 _ F => ?_)
  refine bi hf9 fun r_11 hf9 hr_11 => ?_
  refine tt ?_
  repeat (with_reducible first | intro _ | refine ⟨ss, ?_⟩)
  refine cS (lazarettoref01_Leq_ok hr_11) ?_
  refine fv hf9 F (fun hf9 _ F => ?_) (fun hf9 _ F => ?_)
  refine bi hf9 fun r_12 hf9 hr_12 => ?_
  refine tt ?_
  repeat (with_reducible first | intro _ | refine ⟨ss, ?_⟩)
  refine cS (lazarettoref01_Leq_ok hr_12) ?_
  cases hf9
  refine tt ?_
  refine wn d_7 F fun F => ?_
  exact bk ih9 ho9 ()
  cases hf9
  refine tt ?_
  refine wn d_7 F fun F => ?_
  exact bk ih9 ho9 ()
  cases hf9
  refine tt ?_
  refine wn d_7 F fun F => ?_
  exact bk ih9 ho9 ()
  cases hf9
  refine tt ?_
  exact xt ho9 af9 ()
  cases hf9
  refine tt ?_
  exact xt ho9 af9 ()
  refine bi hf3 fun e_16 hf3 he_16 => ?_
  refine tt ?_
  refine lE (fun (s__ : Bool × Nat) (a__ : Unit) => match s__, a__ with | (ok_14, d_15), _ => ⟨[(1, .one (.int .i64 a)), (2, .one (.int .i64 b)), (3, .one (.ref 0 0 0 0)), (7, .one (.int .i64 (c_1 : Int))), (8, .one (.bool ok_14)), (9, .one (.int .i64 (d_15 : Int)))], [.cells 0 2 [[.sl (l.Names.map eS), .sl (l.Below.map (eA2 eI))]]]⟩) (fun (e__ : Bool) (b__ : Unit) => match e__, b__ with | e_16, _ => ⟨[(1, .one (.int .i64 a)), (2, .one (.int .i64 b)), (3, .one (.ref 0 0 0 0)), (7, .one (.int .i64 (c_1 : Int))), (8, .one (.bool e_16))], [.cells 0 2 [[.sl (l.Names.map eS), .sl (l.Below.map (eA2 eI))]]]⟩) (fun (_ : Bool) => some 2) () he_16 ?_ ?_
  intro i17 b17 hi17
  obtain rfl := Option.some.inj hi17
  obtain ⟨⟩ := b17
  dsimp only at hf3 ⊢
  refine fv hf3 F (fun hf3 _ F => ?_) (fun hf3 _ F => ?_)
  cases hf3
  obtain rfl := sr ho3
  try dsimp only at h
  cases h
  exact fin
  cases hf3
  refine tt ?_
  refine wn c_1 F fun F => ?_
  exact bk ih3 ho3 ()
  intro af17 m17 s17 a17 o17 hf17 ho17 ih17
  obtain ⟨ok_14, d_15⟩ := s17
  obtain ⟨⟩ := a17
  dsimp only [lazarettoref01_Join_L3] at hf17 ⊢
  refine tt ?_
  repeat (with_reducible first | intro _ | refine ⟨ss, ?_⟩)
  refine fl hf17 F (fun hf17 _ F => ?_) (fun hf17 _ F => ?_)
  refine fv hf17 F (fun hf17 _ F => ?_) (fun hf17 _ F => ?_)
  refine bi hf17 fun r_18 hf17 hr_18 => ?_
  refine tt ?_
  repeat (with_reducible first | intro _ | refine ⟨ss, ?_⟩)
  refine cS (lazarettoref01_Leq_ok hr_18) ?_
  refine fv hf17 F (fun hf17 _ F => ?_) (fun hf17 _ F => ?_)
  refine bi hf17 fun r_19 hf17 hr_19 => ?_
  refine tt ?_
  repeat (with_reducible first | intro _ | refine ⟨ss, ?_⟩)
  refine cS (lazarettoref01_Leq_ok hr_19) ?_
  refine fv hf17 F (fun hf17 _ F => ?_) (fun hf17 _ F => ?_)
  refine bi hf17 fun r_20 hf17 hr_20 => ?_
  refine tt ?_
  repeat (with_reducible first | intro _ | refine ⟨ss, ?_⟩)
  refine cS (lazarettoref01_Leq_ok hr_20) ?_
  cases hf17
  refine tt ?_
  refine wn d_15 F fun F => ?_
  exact bk ih17 ho17 ()
  cases hf17
  refine tt ?_
  refine wn d_15 F fun F => ?_
  exact bk ih17 ho17 ()
  cases hf17
  refine tt ?_
  refine wn d_15 F fun F => ?_
  exact bk ih17 ho17 ()
  cases hf17
  refine tt ?_
  exact xt ho17 af17 ()
  cases hf17
  refine tt ?_
  exact xt ho17 af17 ()
  cases hf3
  refine tt ?_
  exact xt ho3 af3 ()
theorem lazarettoref01_Meet_ok {l : api_Lattice} {a : Int} {b : Int} {r : Int} (h : lazarettoref01_Meet l a b = some r) :
    Pu Try.prog 38 [.agg (e_api_Lattice l), .one (.int .i64 a), .one (.int .i64 b)] (.one (.int .i64 r)) := by
  have F := trivial; have R := trivial
  refine pA Try.func38 ?_
  simp only [Try.f38]
  unfold lazarettoref01_Meet at h
  refine bi h fun e_2 h he_2 => ?_
  refine tt ?_
  refine lE (fun (s__ : Nat) (a__ : Unit) => match s__, a__ with | c_1, _ => ⟨[(1, .one (.int .i64 a)), (2, .one (.int .i64 b)), (3, .one (.ref 0 0 0 0)), (7, .one (.int .i64 (c_1 : Int)))], [.cells 0 2 [[.sl (l.Names.map eS), .sl (l.Below.map (eA2 eI))]]]⟩) (fun (e__ : Int ⊕ Unit) (b__ : Unit) => match e__, b__ with | (.inl e_22), _ => ⟨[], []⟩ | (.inr ()), _ => ⟨[], [.cells 0 2 [[.sl (l.Names.map eS), .sl (l.Below.map (eA2 eI))]]]⟩) (fun (e__ : Int ⊕ Unit) => match e__ with | (.inl _) => none | (.inr _) => some 0) () he_2 ?_ ?_
  intro i3 b3 hi3
  rcases e_2 with e_case | ⟨⟩
  cases hi3
  obtain rfl := Option.some.inj hi3
  obtain ⟨⟩ := b3
  dsimp only at h ⊢
  cases h; exact fin
  intro af3 m3 c_1 a3 o3 hf3 ho3 ih3
  obtain ⟨⟩ := a3
  dsimp only [lazarettoref01_Meet_L1] at hf3 ⊢
  refine tt ?_
  repeat (with_reducible first | intro _ | refine ⟨ss, ?_⟩)
  refine fl hf3 F (fun hf3 _ F => ?_) (fun hf3 _ F => ?_)
  refine bi hf3 fun r_4 hf3 hr_4 => ?_
  refine tt ?_
  repeat (with_reducible first | intro _ | refine ⟨ss, ?_⟩)
  refine cS (lazarettoref01_Leq_ok hr_4) ?_
  refine fv hf3 F (fun hf3 _ F => ?_) (fun hf3 _ F => ?_)
  refine bi hf3 fun r_5 hf3 hr_5 => ?_
  refine tt ?_
  repeat (with_reducible first | intro _ | refine ⟨ss, ?_⟩)
  refine cS (lazarettoref01_Leq_ok hr_5) ?_
  refine bi hf3 fun e_8 hf3 he_8 => ?_
  refine tt ?_
  refine lE (fun (s__ : Bool × Nat) (a__ : Unit) => match s__, a__ with | (ok_6, d_7), _ => ⟨[(1, .one (.int .i64 a)), (2, .one (.int .i64 b)), (3, .one (.ref 0 0 0 0)), (7, .one (.int .i64 (c_1 : Int))), (8, .one (.bool ok_6)), (9, .one (.int .i64 (d_7 : Int)))], [.cells 0 2 [[.sl (l.Names.map eS), .sl (l.Below.map (eA2 eI))]]]⟩) (fun (e__ : Bool) (b__ : Unit) => match e__, b__ with | e_8, _ => ⟨[(1, .one (.int .i64 a)), (2, .one (.int .i64 b)), (3, .one (.ref 0 0 0 0)), (7, .one (.int .i64 (c_1 : Int))), (8, .one (.bool e_8))], [.cells 0 2 [[.sl (l.Names.map eS), .sl (l.Below.map (eA2 eI))]]]⟩) (fun (_ : Bool) => some 2) () he_8 ?_ ?_
  intro i9 b9 hi9
  obtain rfl := Option.some.inj hi9
  obtain ⟨⟩ := b9
  dsimp only at hf3 ⊢
  refine fv hf3 F (fun hf3 _ F => ?_) (fun hf3 _ F => ?_)
  cases hf3
  obtain rfl := sr ho3
  try dsimp only at h
  cases h
  exact fin
  cases hf3
  refine tt ?_
  refine wn c_1 F fun F => ?_
  exact bk ih3 ho3 ()
  intro af9 m9 s9 a9 o9 hf9 ho9 ih9
  obtain ⟨ok_6, d_7⟩ := s9
  obtain ⟨⟩ := a9
  dsimp only [lazarettoref01_Meet_L2] at hf9 ⊢
  refine tt ?_
  repeat (with_reducible first | intro _ | refine ⟨ss, ?_⟩)
  refine fl hf9 F (fun hf9 _ F => ?_) (fun hf9 _ F => ?_)
  refine fv hf9 F (fun hf9 _ F => ?_) (fun hf9 _ F => ?_)
  refine bi hf9 fun r_10 hf9 hr_10 => ?_
  refine tt ?_
  repeat (with_reducible first | intro _ | refine ⟨ss, ?_⟩)
  refine cS (lazarettoref01_Leq_ok hr_10) ?_
  refine fv hf9 F (fun hf9 _ F => ?_) (fun hf9 _ F => ?_)
  refine bi hf9 fun r_11 hf9 hr_11 => ?_
  refine tt ?_
  repeat (with_reducible first | intro _ | refine ⟨ss, ?_⟩)
  refine cS (lazarettoref01_Leq_ok hr_11) ?_
  refine fv hf9 F (fun hf9 _ F => ?_) (fun hf9 _ F => ?_)
  refine bi hf9 fun r_12 hf9 hr_12 => ?_
  refine tt ?_
  repeat (with_reducible first | intro _ | refine ⟨ss, ?_⟩)
  refine cS (lazarettoref01_Leq_ok hr_12) ?_
  cases hf9
  refine tt ?_
  refine wn d_7 F fun F => ?_
  exact bk ih9 ho9 ()
  cases hf9
  refine tt ?_
  refine wn d_7 F fun F => ?_
  exact bk ih9 ho9 ()
  cases hf9
  refine tt ?_
  refine wn d_7 F fun F => ?_
  exact bk ih9 ho9 ()
  cases hf9
  refine tt ?_
  exact xt ho9 af9 ()
  cases hf9
  refine tt ?_
  exact xt ho9 af9 ()
  refine bi hf3 fun e_16 hf3 he_16 => ?_
  refine tt ?_
  refine lE (fun (s__ : Bool × Nat) (a__ : Unit) => match s__, a__ with | (ok_14, d_15), _ => ⟨[(1, .one (.int .i64 a)), (2, .one (.int .i64 b)), (3, .one (.ref 0 0 0 0)), (7, .one (.int .i64 (c_1 : Int))), (8, .one (.bool ok_14)), (9, .one (.int .i64 (d_15 : Int)))], [.cells 0 2 [[.sl (l.Names.map eS), .sl (l.Below.map (eA2 eI))]]]⟩) (fun (e__ : Bool) (b__ : Unit) => match e__, b__ with | e_16, _ => ⟨[(1, .one (.int .i64 a)), (2, .one (.int .i64 b)), (3, .one (.ref 0 0 0 0)), (7, .one (.int .i64 (c_1 : Int))), (8, .one (.bool e_16))], [.cells 0 2 [[.sl (l.Names.map eS), .sl (l.Below.map (eA2 eI))]]]⟩) (fun (_ : Bool) => some 2) () he_16 ?_ ?_
  intro i17 b17 hi17
  obtain rfl := Option.some.inj hi17
  obtain ⟨⟩ := b17
  dsimp only at hf3 ⊢
  refine fv hf3 F (fun hf3 _ F => ?_) (fun hf3 _ F => ?_)
  cases hf3
  obtain rfl := sr ho3
  try dsimp only at h
  cases h
  exact fin
  cases hf3
  refine tt ?_
  refine wn c_1 F fun F => ?_
  exact bk ih3 ho3 ()
  intro af17 m17 s17 a17 o17 hf17 ho17 ih17
  obtain ⟨ok_14, d_15⟩ := s17
  obtain ⟨⟩ := a17
  dsimp only [lazarettoref01_Meet_L3] at hf17 ⊢
  refine tt ?_
  repeat (with_reducible first | intro _ | refine ⟨ss, ?_⟩)
  refine fl hf17 F (fun hf17 _ F => ?_) (fun hf17 _ F => ?_)
  refine fv hf17 F (fun hf17 _ F => ?_) (fun hf17 _ F => ?_)
  refine bi hf17 fun r_18 hf17 hr_18 => ?_
  refine tt ?_
  repeat (with_reducible first | intro _ | refine ⟨ss, ?_⟩)
  refine cS (lazarettoref01_Leq_ok hr_18) ?_
  refine fv hf17 F (fun hf17 _ F => ?_) (fun hf17 _ F => ?_)
  refine bi hf17 fun r_19 hf17 hr_19 => ?_
  refine tt ?_
  repeat (with_reducible first | intro _ | refine ⟨ss, ?_⟩)
  refine cS (lazarettoref01_Leq_ok hr_19) ?_
  refine fv hf17 F (fun hf17 _ F => ?_) (fun hf17 _ F => ?_)
  refine bi hf17 fun r_20 hf17 hr_20 => ?_
  refine tt ?_
  repeat (with_reducible first | intro _ | refine ⟨ss, ?_⟩)
  refine cS (lazarettoref01_Leq_ok hr_20) ?_
  cases hf17
  refine tt ?_
  refine wn d_15 F fun F => ?_
  exact bk ih17 ho17 ()
  cases hf17
  refine tt ?_
  refine wn d_15 F fun F => ?_
  exact bk ih17 ho17 ()
  cases hf17
  refine tt ?_
  refine wn d_15 F fun F => ?_
  exact bk ih17 ho17 ()
  cases hf17
  refine tt ?_
  exact xt ho17 af17 ()
  cases hf17
  refine tt ?_
  exact xt ho17 af17 ()
  cases hf3
  refine tt ?_
  exact xt ho3 af3 ()
theorem lazarettoref01_Check_ok {l : api_Lattice} {r : Int} (h : lazarettoref01_Check l = some r) :
    Pu Try.prog 40 [.agg (e_api_Lattice l)] (.one (.int .i64 r)) := by
  have F := trivial; have R := trivial
  refine pA Try.func40 ?_
  simp only [Try.f40]
  unfold lazarettoref01_Check at h
  refine tt ?_
  repeat (with_reducible first | intro _ | refine ⟨ss, ?_⟩)
  refine fi h F (fun h _ F => ?_) (fun h _ F => ?_)
  cases h; exact fin
  refine fi h F (fun h _ F => ?_) (fun h _ F => ?_)
  cases h; exact fin
  refine bi h fun e_2 h he_2 => ?_
  refine tt ?_
  refine lE (fun (s__ : Nat) (a__ : Unit) => match s__, a__ with | i_1, _ => ⟨[(1, .one (.ref 0 0 0 0)), (3, .one (.int .i64 (l.Names.length : Int))), (4, .one (.int .i64 (i_1 : Int)))], [.cells 0 2 [[.sl (l.Names.map eS), .sl (l.Below.map (eA2 eI))]]]⟩) (fun (e__ : Int ⊕ Unit) (b__ : Unit) => match e__, b__ with | (.inl e_7), _ => ⟨[], []⟩ | (.inr ()), _ => ⟨[(1, .one (.ref 0 0 0 0)), (3, .one (.int .i64 (l.Names.length : Int)))], [.cells 0 2 [[.sl (l.Names.map eS), .sl (l.Below.map (eA2 eI))]]]⟩) (fun (e__ : Int ⊕ Unit) => match e__ with | (.inl _) => none | (.inr _) => some 0) () he_2 ?_ ?_
  intro i3 b3 hi3
  rcases e_2 with e_case | ⟨⟩
  cases hi3
  obtain rfl := Option.some.inj hi3
  obtain ⟨⟩ := b3
  dsimp only at h ⊢
  refine bi h fun e_9 h he_9 => ?_
  refine tt ?_
  refine lE (fun (s__ : Nat) (a__ : Unit) => match s__, a__ with | a_8, _ => ⟨[(1, .one (.ref 0 0 0 0)), (3, .one (.int .i64 (l.Names.length : Int))), (5, .one (.int .i64 (a_8 : Int)))], [.cells 0 2 [[.sl (l.Names.map eS), .sl (l.Below.map (eA2 eI))]]]⟩) (fun (e__ : Int ⊕ Unit) (b__ : Unit) => match e__, b__ with | (.inl e_23), _ => ⟨[], []⟩ | (.inr ()), _ => ⟨[], [.cells 0 2 [[.sl (l.Names.map eS), .sl (l.Below.map (eA2 eI))]]]⟩) (fun (e__ : Int ⊕ Unit) => match e__ with | (.inl _) => none | (.inr _) => some 2) () he_9 ?_ ?_
  intro i10 b10 hi10
  rcases e_9 with e_case | ⟨⟩
  cases hi10
  obtain rfl := Option.some.inj hi10
  obtain ⟨⟩ := b10
  dsimp only at h ⊢
  cases h; exact fin
  intro af10 m10 a_8 a10 o10 hf10 ho10 ih10
  obtain ⟨⟩ := a10
  dsimp only [lazarettoref01_Check_L2] at hf10 ⊢
  refine fl hf10 F (fun hf10 _ F => ?_) (fun hf10 _ F => ?_)
  refine bx hf10 F fun x_11 hf10 hx_11 F => ?_
  refine tt ?_
  repeat (with_reducible first | intro _ | refine ⟨ss, ?_⟩)
  refine fi hf10 F (fun hf10 _ F => ?_) (fun hf10 _ F => ?_)
  cases hf10
  obtain rfl := sr ho10
  try dsimp only at h
  cases h
  exact fin
  refine bi hf10 fun e_13 hf10 he_13 => ?_
  refine tt ?_
  refine lE (fun (s__ : Nat) (a__ : Unit) => match s__, a__ with | b_12, _ => ⟨[(1, .one (.ref 0 0 0 0)), (3, .one (.int .i64 (l.Names.length : Int))), (5, .one (.int .i64 (a_8 : Int))), (6, .one (.int .i64 (b_12 : Int)))], [.cells 0 2 [[.sl (l.Names.map eS), .sl (l.Below.map (eA2 eI))]]]⟩) (fun (e__ : Int ⊕ Unit) (b__ : Unit) => match e__, b__ with | (.inl e_22), _ => ⟨[], []⟩ | (.inr ()), _ => ⟨[(1, .one (.ref 0 0 0 0)), (3, .one (.int .i64 (l.Names.length : Int))), (5, .one (.int .i64 (a_8 : Int)))], [.cells 0 2 [[.sl (l.Names.map eS), .sl (l.Below.map (eA2 eI))]]]⟩) (fun (e__ : Int ⊕ Unit) => match e__ with | (.inl _) => none | (.inr _) => some 4) () he_13 ?_ ?_
  intro i14 b14 hi14
  rcases e_13 with e_case | ⟨⟩
  cases hi14
  obtain rfl := Option.some.inj hi14
  obtain ⟨⟩ := b14
  dsimp only at hf10 ⊢
  cases hf10
  refine tt ?_
  refine wn a_8 F fun F => ?_
  exact bk ih10 ho10 ()
  intro af14 m14 b_12 a14 o14 hf14 ho14 ih14
  obtain ⟨⟩ := a14
  dsimp only [lazarettoref01_Check_L3] at hf14 ⊢
  refine fl hf14 F (fun hf14 _ F => ?_) (fun hf14 _ F => ?_)
  refine bx hf14 F fun x_15 hf14 hx_15 F => ?_
  refine tt ?_
  repeat (with_reducible first | intro _ | refine ⟨ss, ?_⟩)
  refine fi hf14 F (fun hf14 _ F => ?_) (fun hf14 _ F => ?_)
  cases hf14
  obtain rfl := sr ho14
  try dsimp only at hf10
  cases hf10
  obtain rfl := sr ho10
  try dsimp only at h
  cases h
  exact fin
  refine bi hf14 fun r_16 hf14 hr_16 => ?_
  refine tt ?_
  repeat (with_reducible first | intro _ | refine ⟨ss, ?_⟩)
  refine cD (lazarettoref01_Leq_ok hr_16) ?_
  refine tt ?_
  repeat (with_reducible first | intro _ | refine ⟨ss, ?_⟩)
  refine fv hf14 F (fun hf14 _ F => ?_) (fun hf14 _ F => ?_)
  refine bi hf14 fun r_17 hf14 hr_17 => ?_
  refine tt ?_
  repeat (with_reducible first | intro _ | refine ⟨ss, ?_⟩)
  refine cD (lazarettoref01_Leq_ok hr_17) ?_
  refine tt ?_
  repeat (with_reducible first | intro _ | refine ⟨ss, ?_⟩)
  refine fv hf14 F (fun hf14 _ F => ?_) (fun hf14 _ F => ?_)
  cases hf14
  obtain rfl := sr ho14
  try dsimp only at hf10
  cases hf10
  obtain rfl := sr ho10
  try dsimp only at h
  cases h
  exact fin
  refine bi hf14 fun r_18 hf14 hr_18 => ?_
  refine tt ?_
  repeat (with_reducible first | intro _ | refine ⟨ss, ?_⟩)
  refine cD (lazarettoref01_Join_ok hr_18) ?_
  refine tt ?_
  repeat (with_reducible first | intro _ | refine ⟨ss, ?_⟩)
  refine fi hf14 F (fun hf14 _ F => ?_) (fun hf14 _ F => ?_)
  cases hf14
  obtain rfl := sr ho14
  try dsimp only at hf10
  cases hf10
  obtain rfl := sr ho10
  try dsimp only at h
  cases h
  exact fin
  refine bi hf14 fun r_19 hf14 hr_19 => ?_
  refine tt ?_
  repeat (with_reducible first | intro _ | refine ⟨ss, ?_⟩)
  refine cD (lazarettoref01_Meet_ok hr_19) ?_
  refine tt ?_
  repeat (with_reducible first | intro _ | refine ⟨ss, ?_⟩)
  refine fi hf14 F (fun hf14 _ F => ?_) (fun hf14 _ F => ?_)
  cases hf14
  obtain rfl := sr ho14
  try dsimp only at hf10
  cases hf10
  obtain rfl := sr ho10
  try dsimp only at h
  cases h
  exact fin
  cases hf14
  refine tt ?_
  refine wn b_12 F fun F => ?_
  exact bk ih14 ho14 ()
  refine bi hf14 fun r_20 hf14 hr_20 => ?_
  refine tt ?_
  repeat (with_reducible first | intro _ | refine ⟨ss, ?_⟩)
  refine cD (lazarettoref01_Join_ok hr_20) ?_
  refine tt ?_
  repeat (with_reducible first | intro _ | refine ⟨ss, ?_⟩)
  refine fi hf14 F (fun hf14 _ F => ?_) (fun hf14 _ F => ?_)
  cases hf14
  obtain rfl := sr ho14
  try dsimp only at hf10
  cases hf10
  obtain rfl := sr ho10
  try dsimp only at h
  cases h
  exact fin
  refine bi hf14 fun r_21 hf14 hr_21 => ?_
  refine tt ?_
  repeat (with_reducible first | intro _ | refine ⟨ss, ?_⟩)
  refine cD (lazarettoref01_Meet_ok hr_21) ?_
  refine tt ?_
  repeat (with_reducible first | intro _ | refine ⟨ss, ?_⟩)
  refine fi hf14 F (fun hf14 _ F => ?_) (fun hf14 _ F => ?_)
  cases hf14
  obtain rfl := sr ho14
  try dsimp only at hf10
  cases hf10
  obtain rfl := sr ho10
  try dsimp only at h
  cases h
  exact fin
  cases hf14
  refine tt ?_
  refine wn b_12 F fun F => ?_
  exact bk ih14 ho14 ()
  cases hf14
  refine tt ?_
  exact xt ho14 af14 ()
  cases hf10
  refine tt ?_
  exact xt ho10 af10 ()
  intro af3 m3 i_1 a3 o3 hf3 ho3 ih3
  obtain ⟨⟩ := a3
  dsimp only [lazarettoref01_Check_L1] at hf3 ⊢
  refine tt ?_
  repeat (with_reducible first | intro _ | refine ⟨ss, ?_⟩)
  refine fl hf3 F (fun hf3 _ F => ?_) (fun hf3 _ F => ?_)
  refine bx hf3 F fun x_4 hf3 hx_4 F => ?_
  refine bi hf3 fun r_5 hf3 hr_5 => ?_
  refine tt ?_
  repeat (with_reducible first | intro _ | refine ⟨ss, ?_⟩)
  refine cD (lazarettoref01_Is_ok hr_5) ?_
  refine tt ?_
  repeat (with_reducible first | intro _ | refine ⟨ss, ?_⟩)
  refine fv hf3 F (fun hf3 _ F => ?_) (fun hf3 _ F => ?_)
  refine bi hf3 fun r_6 hf3 hr_6 => ?_
  refine tt ?_
  repeat (with_reducible first | intro _ | refine ⟨ss, ?_⟩)
  refine cD (lazarettoref01_Is_ok hr_6) ?_
  refine tt ?_
  repeat (with_reducible first | intro _ | refine ⟨ss, ?_⟩)
  refine fv hf3 F (fun hf3 _ F => ?_) (fun hf3 _ F => ?_)
  cases hf3
  refine tt ?_
  refine wn i_1 F fun F => ?_
  exact bk ih3 ho3 ()
  cases hf3
  obtain rfl := sr ho3
  try dsimp only at h
  cases h
  exact fin
  cases hf3
  obtain rfl := sr ho3
  try dsimp only at h
  cases h
  exact fin
  cases hf3
  refine tt ?_
  exact xt ho3 af3 ()
theorem lazarettolaw01_few_ok {l : api_Lattice} {r : Bool} (h : lazarettolaw01_few l = some r) :
    Pu Try.prog 32 [.agg (e_api_Lattice l)] (.one (.bool r)) := by
  have F := trivial; have R := trivial
  refine pA Try.func32 ?_
  simp only [Try.f32]
  unfold lazarettolaw01_few at h
  refine tt ?_
  repeat (with_reducible first | intro _ | refine ⟨ss, ?_⟩)
  refine fi h F (fun h _ F => ?_) (fun h _ F => ?_)
  cases h; exact fin
  cases h; exact fin
theorem lattice_best_ok {l : api_Lattice} {of : (Int → Option Bool)} {ahead : (Int → Int → Option Bool)} {r : Int}
    {of_f : FuncId} {of_c : List C} (of_cl : Clo of_c) (of_ok : ∀ (x0 : Int) (r : Bool), of x0 = some r → Pu Try.prog of_f ([.one (.int .i64 x0)] ++ of_c.map V.one) (.one (.bool r)))
    {ahead_f : FuncId} {ahead_c : List C} (ahead_cl : Clo ahead_c) (ahead_ok : ∀ (x0 : Int) (x1 : Int) (r : Bool), ahead x0 x1 = some r → Pu Try.prog ahead_f ([.one (.int .i64 x0), .one (.int .i64 x1)] ++ ahead_c.map V.one) (.one (.bool r))) (h : lattice_best l of ahead = some r) :
    Pu Try.prog 63 [.agg (e_api_Lattice l), .one (.fn of_f of_c), .one (.fn ahead_f ahead_c)] (.one (.int .i64 r)) := by
  have F := trivial; have R := trivial
  refine pA Try.func63 ?_
  simp only [Try.f63]
  unfold lattice_best at h
  have F := And.intro of_cl.all F
  have F := And.intro ahead_cl.all F
  refine bi h fun e_2 h he_2 => ?_
  refine tt ?_
  repeat (with_reducible first | intro _ | refine ⟨ss, ?_⟩)
  refine lE (fun (s__ : Nat) (a__ : Unit) => match s__, a__ with | x_1, _ => ⟨[(1, .one (.fn of_f of_c)), (2, .one (.fn ahead_f ahead_c)), (3, .one (.ref 0 0 0 0)), (11, .one (.int .i64 (l.Names.length : Int))), (12, .one (.int .i64 (x_1 : Int)))], [.cells 0 2 [[.sl (l.Names.map eS), .sl (l.Below.map (eA2 eI))]]]⟩) (fun (e__ : Int ⊕ Unit) (b__ : Unit) => match e__, b__ with | (.inl e_10), _ => ⟨[], []⟩ | (.inr ()), _ => ⟨[], [.cells 0 2 [[.sl (l.Names.map eS), .sl (l.Below.map (eA2 eI))]]]⟩) (fun (e__ : Int ⊕ Unit) => match e__ with | (.inl _) => none | (.inr _) => some 0) () he_2 ?_ ?_
  intro i3 b3 hi3
  rcases e_2 with e_case | ⟨⟩
  cases hi3
  obtain rfl := Option.some.inj hi3
  obtain ⟨⟩ := b3
  dsimp only at h ⊢
  cases h; exact fin
  intro af3 m3 x_1 a3 o3 hf3 ho3 ih3
  obtain ⟨⟩ := a3
  dsimp only [lattice_best_L1] at hf3 ⊢
  refine fl hf3 F (fun hf3 _ F => ?_) (fun hf3 _ F => ?_)
  refine bi hf3 fun r_4 hf3 hr_4 => ?_
  refine tt ?_
  repeat (with_reducible first | intro _ | refine ⟨ss, ?_⟩)
  refine cS (of_ok _ _ hr_4) ?_
  refine fv hf3 F (fun hf3 _ F => ?_) (fun hf3 _ F => ?_)
  refine bi hf3 fun e_6 hf3 he_6 => ?_
  refine tt ?_
  repeat (with_reducible first | intro _ | refine ⟨ss, ?_⟩)
  refine lE (fun (s__ : Nat) (a__ : Unit) => match s__, a__ with | x_5, _ => ⟨[(1, .one (.fn of_f of_c)), (2, .one (.fn ahead_f ahead_c)), (3, .one (.ref 0 0 0 0)), (7, .one (.int .i64 (x_1 : Int))), (11, .one (.int .i64 (l.Names.length : Int))), (12, .one (.int .i64 (x_1 : Int))), (21, .one (.int .i64 (l.Names.length : Int))), (22, .one (.int .i64 (x_5 : Int)))], [.cells 0 2 [[.sl (l.Names.map eS), .sl (l.Below.map (eA2 eI))]]]⟩) (fun (e__ : Unit ⊕ Unit) (b__ : Unit) => match e__, b__ with | (.inl ()), _ => ⟨[(1, .one (.fn of_f of_c)), (2, .one (.fn ahead_f ahead_c)), (3, .one (.ref 0 0 0 0)), (11, .one (.int .i64 (l.Names.length : Int))), (12, .one (.int .i64 (x_1 : Int)))], [.cells 0 2 [[.sl (l.Names.map eS), .sl (l.Below.map (eA2 eI))]]]⟩ | (.inr ()), _ => ⟨[(7, .one (.int .i64 (x_1 : Int)))], [.cells 0 2 [[.sl (l.Names.map eS), .sl (l.Below.map (eA2 eI))]]]⟩) (fun (e__ : Unit ⊕ Unit) => match e__ with | (.inl _) => some 1 | (.inr _) => some 2) () he_6 ?_ ?_
  intro i7 b7 hi7
  rcases e_6 with ⟨⟩ | ⟨⟩
  obtain rfl := Option.some.inj hi7
  obtain ⟨⟩ := b7
  dsimp only at hf3 ⊢
  cases hf3
  refine tt ?_
  refine wn x_1 F fun F => ?_
  exact bk ih3 ho3 ()
  obtain rfl := Option.some.inj hi7
  obtain ⟨⟩ := b7
  dsimp only at hf3 ⊢
  cases hf3
  obtain rfl := sr ho3
  try dsimp only at h
  cases h
  exact fin
  intro af7 m7 x_5 a7 o7 hf7 ho7 ih7
  obtain ⟨⟩ := a7
  dsimp only [lattice_best_L2] at hf7 ⊢
  refine fl hf7 F (fun hf7 _ F => ?_) (fun hf7 _ F => ?_)
  refine bi hf7 fun r_8 hf7 hr_8 => ?_
  refine tt ?_
  repeat (with_reducible first | intro _ | refine ⟨ss, ?_⟩)
  refine cS (of_ok _ _ hr_8) ?_
  refine fv hf7 F (fun hf7 _ F => ?_) (fun hf7 _ F => ?_)
  refine bi hf7 fun r_9 hf7 hr_9 => ?_
  refine tt ?_
  repeat (with_reducible first | intro _ | refine ⟨ss, ?_⟩)
  refine cS (ahead_ok _ _ _ hr_9) ?_
  refine fv hf7 F (fun hf7 _ F => ?_) (fun hf7 _ F => ?_)
  cases hf7
  refine tt ?_
  refine wn x_5 F fun F => ?_
  exact bk ih7 ho7 ()
  cases hf7
  refine tt ?_
  exact xt ho7 af7 ()
  cases hf7
  refine tt ?_
  refine wn x_5 F fun F => ?_
  exact bk ih7 ho7 ()
  cases hf7
  refine tt ?_
  exact xt ho7 af7 ()
  cases hf3
  refine tt ?_
  refine wn x_1 F fun F => ?_
  exact bk ih3 ho3 ()
  cases hf3
  refine tt ?_
  exact xt ho3 af3 ()
theorem lattice_Join_1_ok {c0 : List Bool} {c1 : List Bool} {c : Int} {r : Bool} (h : lattice_Join_1 c0 c1 c = some r) :
    Pu Try.prog 64 [.one (.int .i64 c), .one (.iptr ((eL eB) c0) 0), .one (.iptr ((eL eB) c1) 0)] (.one (.bool r)) := by
  have F := trivial; have R := trivial
  refine pA Try.func64 ?_
  simp only [Try.f64]
  unfold lattice_Join_1 at h
  refine by_ h F fun x_1 h hx_1 F => ?_
  refine tt ?_
  repeat (with_reducible first | intro _ | refine ⟨ss, ?_⟩)
  refine fv h F (fun h _ F => ?_) (fun h _ F => ?_)
  refine by_ h F fun x_2 h hx_2 F => ?_
  cases h; exact fin
  cases h; exact fin
theorem lattice_Join_2_ok {c0 : api_Lattice} {c : Int} {d : Int} {r : Bool} (h : lattice_Join_2 c0 c d = some r) :
    Pu Try.prog 65 [.one (.int .i64 c), .one (.int .i64 d), .one (.iptr (e_api_Lattice c0) 0)] (.one (.bool r)) := by
  have F := trivial; have R := trivial
  refine pA Try.func65 ?_
  simp only [Try.f65]
  unfold lattice_Join_2 at h
  refine bi h fun r_1 h hr_1 => ?_
  refine tt ?_
  repeat (with_reducible first | intro _ | refine ⟨ss, ?_⟩)
  refine cS (lattice_Leq_ok hr_1) ?_
  cases h; exact fin
theorem lattice_Join_ok {l : api_Lattice} {a : Int} {b : Int} {r : Int} (h : lattice_Join l a b = some r) :
    Pu Try.prog 35 [.agg (e_api_Lattice l), .one (.int .i64 a), .one (.int .i64 b)] (.one (.int .i64 r)) := by
  have F := trivial; have R := trivial
  refine pA Try.func35 ?_
  simp only [Try.f35]
  unfold lattice_Join at h
  refine bi h fun r_1 h hr_1 => ?_
  refine tt ?_
  repeat (with_reducible first | intro _ | refine ⟨ss, ?_⟩)
  refine cS (lattice_is_ok hr_1) ?_
  refine fv h F (fun h _ F => ?_) (fun h _ F => ?_)
  refine bi h fun r_2 h hr_2 => ?_
  refine tt ?_
  repeat (with_reducible first | intro _ | refine ⟨ss, ?_⟩)
  refine cS (lattice_is_ok hr_2) ?_
  refine fv h F (fun h _ F => ?_) (fun h _ F => ?_)
  refine bi h fun r_3 h hr_3 => ?_
  refine tt ?_
  repeat (with_reducible first | intro _ | refine ⟨ss, ?_⟩)
  refine cD (lattice_above_ok hr_3) ?_
  refine bi h fun r_4 h hr_4 => ?_
  refine tt ?_
  repeat (with_reducible first | intro _ | refine ⟨ss, ?_⟩)
  refine cD (lattice_above_ok hr_4) ?_
  refine bi h fun r_5 h hr_5 => ?_
  refine tt ?_
  repeat (with_reducible first | intro _ | refine ⟨ss, ?_⟩)
  refine cS (lattice_best_ok (of_f := 64) (of_c := [.iptr [.sl (r_3.map eB)] 0, .iptr [.sl (r_4.map eB)] 0]) clo (fun _ r h => lattice_Join_1_ok h) (ahead_f := 65) (ahead_c := [.iptr [.sl (l.Names.map eS), .sl (l.Below.map (eA2 eI))] 0]) clo (fun _ _ r h => lattice_Join_2_ok h) hr_5) ?_
  cases h; exact fin
  cases h; exact fin
  cases h; exact fin
theorem lattice_Meet_1_ok {c0 : api_Lattice} {c1 : Int} {c2 : Int} {c : Int} {r : Bool} (h : lattice_Meet_1 c0 c1 c2 c = some r) :
    Pu Try.prog 66 [.one (.int .i64 c), .one (.iptr (e_api_Lattice c0) 0), .one (.iptr (eI c1) 0), .one (.iptr (eI c2) 0)] (.one (.bool r)) := by
  have F := trivial; have R := trivial
  refine pA Try.func66 ?_
  simp only [Try.f66]
  unfold lattice_Meet_1 at h
  refine bi h fun r_1 h hr_1 => ?_
  refine tt ?_
  repeat (with_reducible first | intro _ | refine ⟨ss, ?_⟩)
  refine cS (lattice_Leq_ok hr_1) ?_
  refine fv h F (fun h _ F => ?_) (fun h _ F => ?_)
  refine bi h fun r_2 h hr_2 => ?_
  refine tt ?_
  repeat (with_reducible first | intro _ | refine ⟨ss, ?_⟩)
  refine cS (lattice_Leq_ok hr_2) ?_
  cases h; exact fin
  cases h; exact fin
theorem lattice_Meet_2_ok {c0 : api_Lattice} {c : Int} {d : Int} {r : Bool} (h : lattice_Meet_2 c0 c d = some r) :
    Pu Try.prog 67 [.one (.int .i64 c), .one (.int .i64 d), .one (.iptr (e_api_Lattice c0) 0)] (.one (.bool r)) := by
  have F := trivial; have R := trivial
  refine pA Try.func67 ?_
  simp only [Try.f67]
  unfold lattice_Meet_2 at h
  refine bi h fun r_1 h hr_1 => ?_
  refine tt ?_
  repeat (with_reducible first | intro _ | refine ⟨ss, ?_⟩)
  refine cS (lattice_Leq_ok hr_1) ?_
  cases h; exact fin
theorem lattice_Meet_ok {l : api_Lattice} {a : Int} {b : Int} {r : Int} (h : lattice_Meet l a b = some r) :
    Pu Try.prog 37 [.agg (e_api_Lattice l), .one (.int .i64 a), .one (.int .i64 b)] (.one (.int .i64 r)) := by
  have F := trivial; have R := trivial
  refine pA Try.func37 ?_
  simp only [Try.f37]
  unfold lattice_Meet at h
  refine bi h fun r_1 h hr_1 => ?_
  refine tt ?_
  repeat (with_reducible first | intro _ | refine ⟨ss, ?_⟩)
  refine cS (lattice_is_ok hr_1) ?_
  refine fv h F (fun h _ F => ?_) (fun h _ F => ?_)
  refine bi h fun r_2 h hr_2 => ?_
  refine tt ?_
  repeat (with_reducible first | intro _ | refine ⟨ss, ?_⟩)
  refine cS (lattice_is_ok hr_2) ?_
  refine fv h F (fun h _ F => ?_) (fun h _ F => ?_)
  refine bi h fun r_3 h hr_3 => ?_
  refine tt ?_
  repeat (with_reducible first | intro _ | refine ⟨ss, ?_⟩)
  refine cS (lattice_best_ok (of_f := 66) (of_c := [.iptr [.sl (l.Names.map eS), .sl (l.Below.map (eA2 eI))] 0, .iptr [.int .i64 a] 0, .iptr [.int .i64 b] 0]) clo (fun _ r h => lattice_Meet_1_ok h) (ahead_f := 67) (ahead_c := [.iptr [.sl (l.Names.map eS), .sl (l.Below.map (eA2 eI))] 0]) clo (fun _ _ r h => lattice_Meet_2_ok h) hr_3) ?_
  cases h; exact fin
  cases h; exact fin
  cases h; exact fin
theorem lattice_Check_ok {l : api_Lattice} {r : Int} (h : lattice_Check l = some r) :
    Pu Try.prog 39 [.agg (e_api_Lattice l)] (.one (.int .i64 r)) := by
  have F := trivial; have R := trivial
  refine pA Try.func39 ?_
  simp only [Try.f39]
  unfold lattice_Check at h
  refine tt ?_
  repeat (with_reducible first | intro _ | refine ⟨ss, ?_⟩)
  refine fi h F (fun h _ F => ?_) (fun h _ F => ?_)
  cases h; exact fin
  refine fi h F (fun h _ F => ?_) (fun h _ F => ?_)
  cases h; exact fin
  refine bi h fun e_2 h he_2 => ?_
  refine tt ?_
  repeat (with_reducible first | intro _ | refine ⟨ss, ?_⟩)
  refine lE (fun (s__ : Nat) (a__ : Unit) => match s__, a__ with | x_1, _ => ⟨[(1, .one (.ref 0 0 0 0)), (20, .one (.sl (l.Below.map (eA2 eI)))), (21, .one (.int .i64 (l.Below.length : Int))), (22, .one (.int .i64 (x_1 : Int)))], [.cells 0 2 [[.sl (l.Names.map eS), .sl (l.Below.map (eA2 eI))]]]⟩) (fun (e__ : Int ⊕ Unit) (b__ : Unit) => match e__, b__ with | (.inl e_7), _ => ⟨[], []⟩ | (.inr ()), _ => ⟨[(1, .one (.ref 0 0 0 0))], [.cells 0 2 [[.sl (l.Names.map eS), .sl (l.Below.map (eA2 eI))]]]⟩) (fun (e__ : Int ⊕ Unit) => match e__ with | (.inl _) => none | (.inr _) => some 0) () he_2 ?_ ?_
  intro i3 b3 hi3
  rcases e_2 with e_case | ⟨⟩
  cases hi3
  obtain rfl := Option.some.inj hi3
  obtain ⟨⟩ := b3
  dsimp only at h ⊢
  have R := And.intro (show (O.map [] : O) = .map (eM C.str C.bool []) from rfl) R
  refine bi h fun e_10 h he_10 => ?_
  refine tt ?_
  repeat (with_reducible first | intro _ | refine ⟨ss, ?_⟩)
  refine lE (fun (s__ : (List (Str × Bool)) × Nat) (a__ : Unit) => match s__, a__ with | (seen_8, x_9), _ => ⟨[(1, .one (.ref 0 0 0 0)), (6, .one (.mp 1)), (42, .one (.sl (l.Names.map eS))), (43, .one (.int .i64 (l.Names.length : Int))), (44, .one (.int .i64 (x_9 : Int)))], [.cells 0 2 [[.sl (l.Names.map eS), .sl (l.Below.map (eA2 eI))]], .map (eM C.str C.bool seen_8)]⟩) (fun (e__ : Int ⊕ (List (Str × Bool))) (b__ : Unit) => match e__, b__ with | (.inl e_23), _ => ⟨[], []⟩ | (.inr seen_24), _ => ⟨[], [.cells 0 2 [[.sl (l.Names.map eS), .sl (l.Below.map (eA2 eI))]], .map (eM C.str C.bool seen_24)]⟩) (fun (e__ : Int ⊕ (List (Str × Bool))) => match e__ with | (.inl _) => none | (.inr _) => some 2) () he_10 ?_ ?_
  intro i11 b11 hi11
  rcases e_10 with e_case | seen_24
  cases hi11
  obtain rfl := Option.some.inj hi11
  obtain ⟨⟩ := b11
  dsimp only at h ⊢
  cases h; exact fin
  intro af11 m11 s11 a11 o11 hf11 ho11 ih11
  obtain ⟨seen_8, x_9⟩ := s11
  obtain ⟨⟩ := a11
  dsimp only [lattice_Check_L2] at hf11 ⊢
  refine fl hf11 F (fun hf11 _ F => ?_) (fun hf11 _ F => ?_)
  refine bx hf11 F fun x_12 hf11 hx_12 F => ?_
  refine tt ?_
  repeat (with_reducible first | intro _ | refine ⟨ss, ?_⟩)
  refine fv hf11 F (fun hf11 _ F => ?_) (fun hf11 _ F => ?_)
  cases hf11
  obtain rfl := sr ho11
  try dsimp only at h
  cases h
  exact fin
  refine bi hf11 fun e_14 hf11 he_14 => ?_
  refine tt ?_
  refine lE (fun (s__ : Nat) (a__ : Unit) => match s__, a__ with | x_13, _ => ⟨[(1, .one (.ref 0 0 0 0)), (6, .one (.mp 1)), (7, .one (.int .i64 (x_9 : Int))), (42, .one (.sl (l.Names.map eS))), (43, .one (.int .i64 (l.Names.length : Int))), (44, .one (.int .i64 (x_9 : Int))), (54, .one (.int .i64 (x_9 : Int))), (55, .one (.int .i64 (x_13 : Int)))], [.cells 0 2 [[.sl (l.Names.map eS), .sl (l.Below.map (eA2 eI))]], .map (eM C.str C.bool (mset x_12 true seen_8))]⟩) (fun (e__ : Int ⊕ Unit) (b__ : Unit) => match e__, b__ with | (.inl e_22), _ => ⟨[], []⟩ | (.inr ()), _ => ⟨[(1, .one (.ref 0 0 0 0)), (6, .one (.mp 1)), (42, .one (.sl (l.Names.map eS))), (43, .one (.int .i64 (l.Names.length : Int))), (44, .one (.int .i64 (x_9 : Int)))], [.cells 0 2 [[.sl (l.Names.map eS), .sl (l.Below.map (eA2 eI))]], .map (eM C.str C.bool (mset x_12 true seen_8))]⟩) (fun (e__ : Int ⊕ Unit) => match e__ with | (.inl _) => none | (.inr _) => some 4) () he_14 ?_ ?_
  intro i15 b15 hi15
  rcases e_14 with e_case | ⟨⟩
  cases hi15
  obtain rfl := Option.some.inj hi15
  obtain ⟨⟩ := b15
  dsimp only at hf11 ⊢
  cases hf11
  refine tt ?_
  refine wn x_9 F fun F => ?_
  exact bk ih11 ho11 ()
  intro af15 m15 x_13 a15 o15 hf15 ho15 ih15
  obtain ⟨⟩ := a15
  dsimp only [lattice_Check_L3] at hf15 ⊢
  refine fl hf15 F (fun hf15 _ F => ?_) (fun hf15 _ F => ?_)
  refine bi hf15 fun r_16 hf15 hr_16 => ?_
  refine tt ?_
  repeat (with_reducible first | intro _ | refine ⟨ss, ?_⟩)
  refine cS (lattice_Leq_ok hr_16) ?_
  refine fv hf15 F (fun hf15 _ F => ?_) (fun hf15 _ F => ?_)
  refine bi hf15 fun r_17 hf15 hr_17 => ?_
  refine tt ?_
  repeat (with_reducible first | intro _ | refine ⟨ss, ?_⟩)
  refine cS (lattice_Leq_ok hr_17) ?_
  refine fv hf15 F (fun hf15 _ F => ?_) (fun hf15 _ F => ?_)
  cases hf15
  obtain rfl := sr ho15
  try dsimp only at hf11
  cases hf11
  obtain rfl := sr ho11
  try dsimp only at h
  cases h
  exact fin
  refine bi hf15 fun r_18 hf15 hr_18 => ?_
  refine tt ?_
  repeat (with_reducible first | intro _ | refine ⟨ss, ?_⟩)
  refine cS (lattice_Join_ok hr_18) ?_
  refine fi hf15 F (fun hf15 _ F => ?_) (fun hf15 _ F => ?_)
  cases hf15
  obtain rfl := sr ho15
  try dsimp only at hf11
  cases hf11
  obtain rfl := sr ho11
  try dsimp only at h
  cases h
  exact fin
  refine bi hf15 fun r_19 hf15 hr_19 => ?_
  refine tt ?_
  repeat (with_reducible first | intro _ | refine ⟨ss, ?_⟩)
  refine cS (lattice_Meet_ok hr_19) ?_
  refine fi hf15 F (fun hf15 _ F => ?_) (fun hf15 _ F => ?_)
  cases hf15
  obtain rfl := sr ho15
  try dsimp only at hf11
  cases hf11
  obtain rfl := sr ho11
  try dsimp only at h
  cases h
  exact fin
  cases hf15
  refine tt ?_
  refine wn x_13 F fun F => ?_
  exact bk ih15 ho15 ()
  refine bi hf15 fun r_20 hf15 hr_20 => ?_
  refine tt ?_
  repeat (with_reducible first | intro _ | refine ⟨ss, ?_⟩)
  refine cS (lattice_Join_ok hr_20) ?_
  refine fi hf15 F (fun hf15 _ F => ?_) (fun hf15 _ F => ?_)
  cases hf15
  obtain rfl := sr ho15
  try dsimp only at hf11
  cases hf11
  obtain rfl := sr ho11
  try dsimp only at h
  cases h
  exact fin
  refine bi hf15 fun r_21 hf15 hr_21 => ?_
  refine tt ?_
  repeat (with_reducible first | intro _ | refine ⟨ss, ?_⟩)
  refine cS (lattice_Meet_ok hr_21) ?_
  refine fi hf15 F (fun hf15 _ F => ?_) (fun hf15 _ F => ?_)
  cases hf15
  obtain rfl := sr ho15
  try dsimp only at hf11
  cases hf11
  obtain rfl := sr ho11
  try dsimp only at h
  cases h
  exact fin
  cases hf15
  refine tt ?_
  refine wn x_13 F fun F => ?_
  exact bk ih15 ho15 ()
  cases hf15
  refine tt ?_
  exact xt ho15 af15 ()
  cases hf11
  refine tt ?_
  exact xt ho11 af11 ()
  intro af3 m3 x_1 a3 o3 hf3 ho3 ih3
  obtain ⟨⟩ := a3
  dsimp only [lattice_Check_L1] at hf3 ⊢
  refine fl hf3 F (fun hf3 _ F => ?_) (fun hf3 _ F => ?_)
  refine bx hf3 F fun x_4 hf3 hx_4 F => ?_
  refine bi hf3 fun r_5 hf3 hr_5 => ?_
  refine tt ?_
  repeat (with_reducible first | intro _ | refine ⟨ss, ?_⟩)
  refine cS (lattice_is_ok hr_5) ?_
  refine fv hf3 F (fun hf3 _ F => ?_) (fun hf3 _ F => ?_)
  refine bi hf3 fun r_6 hf3 hr_6 => ?_
  refine tt ?_
  repeat (with_reducible first | intro _ | refine ⟨ss, ?_⟩)
  refine cS (lattice_is_ok hr_6) ?_
  refine fv hf3 F (fun hf3 _ F => ?_) (fun hf3 _ F => ?_)
  cases hf3
  refine tt ?_
  refine wn x_1 F fun F => ?_
  exact bk ih3 ho3 ()
  cases hf3
  obtain rfl := sr ho3
  try dsimp only at h
  cases h
  exact fin
  cases hf3
  obtain rfl := sr ho3
  try dsimp only at h
  cases h
  exact fin
  cases hf3
  refine tt ?_
  exact xt ho3 af3 ()
theorem lattice_all_ok {p0 : Int} {r : Bool} (h : lattice_all p0 = some r) :
    Pu Try.prog 68 [.one (.int .i64 p0)] (.one (.bool r)) := by
  have F := trivial; have R := trivial
  refine pA Try.func68 ?_
  simp only [Try.f68]
  unfold lattice_all at h
  cases h; exact fin
theorem lattice_Bottom_1_ok {c0 : api_Lattice} {c : Int} {d : Int} {r : Bool} (h : lattice_Bottom_1 c0 c d = some r) :
    Pu Try.prog 69 [.one (.int .i64 c), .one (.int .i64 d), .one (.iptr (e_api_Lattice c0) 0)] (.one (.bool r)) := by
  have F := trivial; have R := trivial
  refine pA Try.func69 ?_
  simp only [Try.f69]
  unfold lattice_Bottom_1 at h
  refine bi h fun r_1 h hr_1 => ?_
  refine tt ?_
  repeat (with_reducible first | intro _ | refine ⟨ss, ?_⟩)
  refine cS (lattice_Leq_ok hr_1) ?_
  cases h; exact fin
theorem lattice_Bottom_ok {l : api_Lattice} {r : Int} (h : lattice_Bottom l = some r) :
    Pu Try.prog 41 [.agg (e_api_Lattice l)] (.one (.int .i64 r)) := by
  have F := trivial; have R := trivial
  refine pA Try.func41 ?_
  simp only [Try.f41]
  unfold lattice_Bottom at h
  refine bi h fun r_1 h hr_1 => ?_
  refine tt ?_
  repeat (with_reducible first | intro _ | refine ⟨ss, ?_⟩)
  refine cS (lattice_best_ok (of_f := 68) (of_c := []) clo (fun _ r h => lattice_all_ok h) (ahead_f := 69) (ahead_c := [.iptr [.sl (l.Names.map eS), .sl (l.Below.map (eA2 eI))] 0]) clo (fun _ _ r h => lattice_Bottom_1_ok h) hr_1) ?_
  cases h; exact fin
theorem lattice_Top_1_ok {c0 : api_Lattice} {c : Int} {d : Int} {r : Bool} (h : lattice_Top_1 c0 c d = some r) :
    Pu Try.prog 70 [.one (.int .i64 c), .one (.int .i64 d), .one (.iptr (e_api_Lattice c0) 0)] (.one (.bool r)) := by
  have F := trivial; have R := trivial
  refine pA Try.func70 ?_
  simp only [Try.f70]
  unfold lattice_Top_1 at h
  refine bi h fun r_1 h hr_1 => ?_
  refine tt ?_
  repeat (with_reducible first | intro _ | refine ⟨ss, ?_⟩)
  refine cS (lattice_Leq_ok hr_1) ?_
  cases h; exact fin
theorem lattice_Top_ok {l : api_Lattice} {r : Int} (h : lattice_Top l = some r) :
    Pu Try.prog 43 [.agg (e_api_Lattice l)] (.one (.int .i64 r)) := by
  have F := trivial; have R := trivial
  refine pA Try.func43 ?_
  simp only [Try.f43]
  unfold lattice_Top at h
  refine bi h fun r_1 h hr_1 => ?_
  refine tt ?_
  repeat (with_reducible first | intro _ | refine ⟨ss, ?_⟩)
  refine cS (lattice_best_ok (of_f := 68) (of_c := []) clo (fun _ r h => lattice_all_ok h) (ahead_f := 70) (ahead_c := [.iptr [.sl (l.Names.map eS), .sl (l.Below.map (eA2 eI))] 0]) clo (fun _ _ r h => lattice_Top_1_ok h) hr_1) ?_
  cases h; exact fin
theorem lazarettolaw01_awake_ok {r : Bool} (h : lazarettolaw01_awake = some r) :
    Pu Try.prog 33 [] (.one (.bool r)) := by
  have F := trivial; have R := trivial
  refine pA Try.func33 ?_
  simp only [Try.f33]
  unfold lazarettolaw01_awake at h
  refine bi h fun r_1 h hr_1 => ?_
  refine tt ?_
  repeat (with_reducible first | intro _ | refine ⟨ss, ?_⟩)
  refine cS (lattice_Join_ok hr_1) ?_
  refine fi h F (fun h _ F => ?_) (fun h _ F => ?_)
  refine bi h fun r_2 h hr_2 => ?_
  refine tt ?_
  repeat (with_reducible first | intro _ | refine ⟨ss, ?_⟩)
  refine cS (lattice_Meet_ok hr_2) ?_
  refine fi h F (fun h _ F => ?_) (fun h _ F => ?_)
  refine bi h fun r_3 h hr_3 => ?_
  refine tt ?_
  repeat (with_reducible first | intro _ | refine ⟨ss, ?_⟩)
  refine cS (lattice_Join_ok hr_3) ?_
  refine fi h F (fun h _ F => ?_) (fun h _ F => ?_)
  refine bi h fun r_4 h hr_4 => ?_
  refine tt ?_
  repeat (with_reducible first | intro _ | refine ⟨ss, ?_⟩)
  refine cS (lattice_Check_ok hr_4) ?_
  refine fi h F (fun h _ F => ?_) (fun h _ F => ?_)
  refine bi h fun r_5 h hr_5 => ?_
  refine tt ?_
  repeat (with_reducible first | intro _ | refine ⟨ss, ?_⟩)
  refine cS (lattice_Bottom_ok hr_5) ?_
  refine fi h F (fun h _ F => ?_) (fun h _ F => ?_)
  refine bi h fun r_6 h hr_6 => ?_
  refine tt ?_
  repeat (with_reducible first | intro _ | refine ⟨ss, ?_⟩)
  refine cS (lattice_Top_ok hr_6) ?_
  refine fi h F (fun h _ F => ?_) (fun h _ F => ?_)
  refine bi h fun r_7 h hr_7 => ?_
  refine tt ?_
  repeat (with_reducible first | intro _ | refine ⟨ss, ?_⟩)
  refine cS (lattice_Leq_ok hr_7) ?_
  refine fv h F (fun h _ F => ?_) (fun h _ F => ?_)
  refine bi h fun r_8 h hr_8 => ?_
  refine tt ?_
  repeat (with_reducible first | intro _ | refine ⟨ss, ?_⟩)
  refine cS (lattice_Leq_ok hr_8) ?_
  refine fv h F (fun h _ F => ?_) (fun h _ F => ?_)
  cases h; exact fin
  refine bi h fun r_9 h hr_9 => ?_
  refine tt ?_
  repeat (with_reducible first | intro _ | refine ⟨ss, ?_⟩)
  refine cS (lattice_Check_ok hr_9) ?_
  cases h; exact fin
  cases h; exact fin
  cases h; exact fin
  cases h; exact fin
  cases h; exact fin
  cases h; exact fin
  cases h; exact fin
  cases h; exact fin
theorem lazarettolaw01_LatticeOrders_ok {l : api_Lattice} {a : Int} {b : Int} {r : Bool} (h : lazarettolaw01_LatticeOrders l a b = some r) :
    Pu Try.prog 9 [.agg (e_api_Lattice l), .one (.int .i64 a), .one (.int .i64 b)] (.one (.bool r)) := by
  have F := trivial; have R := trivial
  refine pA Try.func9 ?_
  simp only [Try.f9]
  unfold lazarettolaw01_LatticeOrders at h
  refine bi h fun r_1 h hr_1 => ?_
  refine tt ?_
  repeat (with_reducible first | intro _ | refine ⟨ss, ?_⟩)
  refine cS (lazarettolaw01_few_ok hr_1) ?_
  refine fv h F (fun h _ F => ?_) (fun h _ F => ?_)
  refine bi h fun r_2 h hr_2 => ?_
  refine tt ?_
  repeat (with_reducible first | intro _ | refine ⟨ss, ?_⟩)
  refine cD (lattice_Leq_ok hr_2) ?_
  refine bi h fun r_3 h hr_3 => ?_
  refine tt ?_
  repeat (with_reducible first | intro _ | refine ⟨ss, ?_⟩)
  refine cD (lazarettoref01_Leq_ok hr_3) ?_
  refine tt ?_
  repeat (with_reducible first | intro _ | refine ⟨ss, ?_⟩)
  refine fv h F (fun h _ F => ?_) (fun h _ F => ?_)
  refine bi h fun r_4 h hr_4 => ?_
  refine tt ?_
  repeat (with_reducible first | intro _ | refine ⟨ss, ?_⟩)
  refine cD (lattice_Join_ok hr_4) ?_
  refine bi h fun r_5 h hr_5 => ?_
  refine tt ?_
  repeat (with_reducible first | intro _ | refine ⟨ss, ?_⟩)
  refine cD (lazarettoref01_Join_ok hr_5) ?_
  refine tt ?_
  repeat (with_reducible first | intro _ | refine ⟨ss, ?_⟩)
  refine fi h F (fun h _ F => ?_) (fun h _ F => ?_)
  refine bi h fun r_6 h hr_6 => ?_
  refine tt ?_
  repeat (with_reducible first | intro _ | refine ⟨ss, ?_⟩)
  refine cD (lattice_Meet_ok hr_6) ?_
  refine bi h fun r_7 h hr_7 => ?_
  refine tt ?_
  repeat (with_reducible first | intro _ | refine ⟨ss, ?_⟩)
  refine cD (lazarettoref01_Meet_ok hr_7) ?_
  refine tt ?_
  repeat (with_reducible first | intro _ | refine ⟨ss, ?_⟩)
  refine fi h F (fun h _ F => ?_) (fun h _ F => ?_)
  refine bi h fun r_8 h hr_8 => ?_
  refine tt ?_
  repeat (with_reducible first | intro _ | refine ⟨ss, ?_⟩)
  refine cD (lazarettolaw01_awake_ok hr_8) ?_
  cases h; exact fin
  cases h; exact fin
  cases h; exact fin
  cases h; exact fin
  refine bi h fun r_9 h hr_9 => ?_
  refine tt ?_
  repeat (with_reducible first | intro _ | refine ⟨ss, ?_⟩)
  refine cS (lazarettolaw01_awake_ok hr_9) ?_
  cases h; exact fin
theorem lazarettoref01_Bottom_ok {l : api_Lattice} {r : Int} (h : lazarettoref01_Bottom l = some r) :
    Pu Try.prog 42 [.agg (e_api_Lattice l)] (.one (.int .i64 r)) := by
  have F := trivial; have R := trivial
  refine pA Try.func42 ?_
  simp only [Try.f42]
  unfold lazarettoref01_Bottom at h
  refine bi h fun e_2 h he_2 => ?_
  refine tt ?_
  refine lE (fun (s__ : Nat) (a__ : Unit) => match s__, a__ with | c_1, _ => ⟨[(1, .one (.ref 0 0 0 0)), (3, .one (.int .i64 (c_1 : Int)))], [.cells 0 2 [[.sl (l.Names.map eS), .sl (l.Below.map (eA2 eI))]]]⟩) (fun (e__ : Int ⊕ Unit) (b__ : Unit) => match e__, b__ with | (.inl e_10), _ => ⟨[], []⟩ | (.inr ()), _ => ⟨[], [.cells 0 2 [[.sl (l.Names.map eS), .sl (l.Below.map (eA2 eI))]]]⟩) (fun (e__ : Int ⊕ Unit) => match e__ with | (.inl _) => none | (.inr _) => some 0) () he_2 ?_ ?_
  intro i3 b3 hi3
  rcases e_2 with e_case | ⟨⟩
  cases hi3
  obtain rfl := Option.some.inj hi3
  obtain ⟨⟩ := b3
  dsimp only at h ⊢
  cases h; exact fin
  intro af3 m3 c_1 a3 o3 hf3 ho3 ih3
  obtain ⟨⟩ := a3
  dsimp only [lazarettoref01_Bottom_L1] at hf3 ⊢
  refine tt ?_
  repeat (with_reducible first | intro _ | refine ⟨ss, ?_⟩)
  refine fl hf3 F (fun hf3 _ F => ?_) (fun hf3 _ F => ?_)
  refine bi hf3 fun e_6 hf3 he_6 => ?_
  refine tt ?_
  refine lE (fun (s__ : Bool × Nat) (a__ : Unit) => match s__, a__ with | (ok_4, d_5), _ => ⟨[(1, .one (.ref 0 0 0 0)), (3, .one (.int .i64 (c_1 : Int))), (4, .one (.bool ok_4)), (5, .one (.int .i64 (d_5 : Int)))], [.cells 0 2 [[.sl (l.Names.map eS), .sl (l.Below.map (eA2 eI))]]]⟩) (fun (e__ : Bool) (b__ : Unit) => match e__, b__ with | e_6, _ => ⟨[(1, .one (.ref 0 0 0 0)), (3, .one (.int .i64 (c_1 : Int))), (4, .one (.bool e_6))], [.cells 0 2 [[.sl (l.Names.map eS), .sl (l.Below.map (eA2 eI))]]]⟩) (fun (_ : Bool) => some 2) () he_6 ?_ ?_
  intro i7 b7 hi7
  obtain rfl := Option.some.inj hi7
  obtain ⟨⟩ := b7
  dsimp only at hf3 ⊢
  refine fv hf3 F (fun hf3 _ F => ?_) (fun hf3 _ F => ?_)
  cases hf3
  obtain rfl := sr ho3
  try dsimp only at h
  cases h
  exact fin
  cases hf3
  refine tt ?_
  refine wn c_1 F fun F => ?_
  exact bk ih3 ho3 ()
  intro af7 m7 s7 a7 o7 hf7 ho7 ih7
  obtain ⟨ok_4, d_5⟩ := s7
  obtain ⟨⟩ := a7
  dsimp only [lazarettoref01_Bottom_L2] at hf7 ⊢
  refine tt ?_
  repeat (with_reducible first | intro _ | refine ⟨ss, ?_⟩)
  refine fl hf7 F (fun hf7 _ F => ?_) (fun hf7 _ F => ?_)
  refine fv hf7 F (fun hf7 _ F => ?_) (fun hf7 _ F => ?_)
  refine bi hf7 fun r_8 hf7 hr_8 => ?_
  refine tt ?_
  repeat (with_reducible first | intro _ | refine ⟨ss, ?_⟩)
  refine cS (lazarettoref01_Leq_ok hr_8) ?_
  cases hf7
  refine tt ?_
  refine wn d_5 F fun F => ?_
  exact bk ih7 ho7 ()
  cases hf7
  refine tt ?_
  exact xt ho7 af7 ()
  cases hf7
  refine tt ?_
  exact xt ho7 af7 ()
  cases hf3
  refine tt ?_
  exact xt ho3 af3 ()
theorem lazarettoref01_Top_ok {l : api_Lattice} {r : Int} (h : lazarettoref01_Top l = some r) :
    Pu Try.prog 44 [.agg (e_api_Lattice l)] (.one (.int .i64 r)) := by
  have F := trivial; have R := trivial
  refine pA Try.func44 ?_
  simp only [Try.f44]
  unfold lazarettoref01_Top at h
  refine bi h fun e_2 h he_2 => ?_
  refine tt ?_
  refine lE (fun (s__ : Nat) (a__ : Unit) => match s__, a__ with | c_1, _ => ⟨[(1, .one (.ref 0 0 0 0)), (3, .one (.int .i64 (c_1 : Int)))], [.cells 0 2 [[.sl (l.Names.map eS), .sl (l.Below.map (eA2 eI))]]]⟩) (fun (e__ : Int ⊕ Unit) (b__ : Unit) => match e__, b__ with | (.inl e_10), _ => ⟨[], []⟩ | (.inr ()), _ => ⟨[], [.cells 0 2 [[.sl (l.Names.map eS), .sl (l.Below.map (eA2 eI))]]]⟩) (fun (e__ : Int ⊕ Unit) => match e__ with | (.inl _) => none | (.inr _) => some 0) () he_2 ?_ ?_
  intro i3 b3 hi3
  rcases e_2 with e_case | ⟨⟩
  cases hi3
  obtain rfl := Option.some.inj hi3
  obtain ⟨⟩ := b3
  dsimp only at h ⊢
  cases h; exact fin
  intro af3 m3 c_1 a3 o3 hf3 ho3 ih3
  obtain ⟨⟩ := a3
  dsimp only [lazarettoref01_Top_L1] at hf3 ⊢
  refine tt ?_
  repeat (with_reducible first | intro _ | refine ⟨ss, ?_⟩)
  refine fl hf3 F (fun hf3 _ F => ?_) (fun hf3 _ F => ?_)
  refine bi hf3 fun e_6 hf3 he_6 => ?_
  refine tt ?_
  refine lE (fun (s__ : Bool × Nat) (a__ : Unit) => match s__, a__ with | (ok_4, d_5), _ => ⟨[(1, .one (.ref 0 0 0 0)), (3, .one (.int .i64 (c_1 : Int))), (4, .one (.bool ok_4)), (5, .one (.int .i64 (d_5 : Int)))], [.cells 0 2 [[.sl (l.Names.map eS), .sl (l.Below.map (eA2 eI))]]]⟩) (fun (e__ : Bool) (b__ : Unit) => match e__, b__ with | e_6, _ => ⟨[(1, .one (.ref 0 0 0 0)), (3, .one (.int .i64 (c_1 : Int))), (4, .one (.bool e_6))], [.cells 0 2 [[.sl (l.Names.map eS), .sl (l.Below.map (eA2 eI))]]]⟩) (fun (_ : Bool) => some 2) () he_6 ?_ ?_
  intro i7 b7 hi7
  obtain rfl := Option.some.inj hi7
  obtain ⟨⟩ := b7
  dsimp only at hf3 ⊢
  refine fv hf3 F (fun hf3 _ F => ?_) (fun hf3 _ F => ?_)
  cases hf3
  obtain rfl := sr ho3
  try dsimp only at h
  cases h
  exact fin
  cases hf3
  refine tt ?_
  refine wn c_1 F fun F => ?_
  exact bk ih3 ho3 ()
  intro af7 m7 s7 a7 o7 hf7 ho7 ih7
  obtain ⟨ok_4, d_5⟩ := s7
  obtain ⟨⟩ := a7
  dsimp only [lazarettoref01_Top_L2] at hf7 ⊢
  refine tt ?_
  repeat (with_reducible first | intro _ | refine ⟨ss, ?_⟩)
  refine fl hf7 F (fun hf7 _ F => ?_) (fun hf7 _ F => ?_)
  refine fv hf7 F (fun hf7 _ F => ?_) (fun hf7 _ F => ?_)
  refine bi hf7 fun r_8 hf7 hr_8 => ?_
  refine tt ?_
  repeat (with_reducible first | intro _ | refine ⟨ss, ?_⟩)
  refine cS (lazarettoref01_Leq_ok hr_8) ?_
  cases hf7
  refine tt ?_
  refine wn d_5 F fun F => ?_
  exact bk ih7 ho7 ()
  cases hf7
  refine tt ?_
  exact xt ho7 af7 ()
  cases hf7
  refine tt ?_
  exact xt ho7 af7 ()
  cases hf3
  refine tt ?_
  exact xt ho3 af3 ()
theorem lazarettolaw01_LatticeChecks_ok {l : api_Lattice} {r : Bool} (h : lazarettolaw01_LatticeChecks l = some r) :
    Pu Try.prog 10 [.agg (e_api_Lattice l)] (.one (.bool r)) := by
  have F := trivial; have R := trivial
  refine pA Try.func10 ?_
  simp only [Try.f10]
  unfold lazarettolaw01_LatticeChecks at h
  refine bi h fun r_1 h hr_1 => ?_
  refine tt ?_
  repeat (with_reducible first | intro _ | refine ⟨ss, ?_⟩)
  refine cS (lazarettolaw01_few_ok hr_1) ?_
  refine fv h F (fun h _ F => ?_) (fun h _ F => ?_)
  refine bi h fun r_2 h hr_2 => ?_
  refine tt ?_
  repeat (with_reducible first | intro _ | refine ⟨ss, ?_⟩)
  refine cD (lattice_Check_ok hr_2) ?_
  refine bi h fun r_3 h hr_3 => ?_
  refine tt ?_
  repeat (with_reducible first | intro _ | refine ⟨ss, ?_⟩)
  refine cD (lazarettoref01_Check_ok hr_3) ?_
  refine tt ?_
  repeat (with_reducible first | intro _ | refine ⟨ss, ?_⟩)
  refine fi h F (fun h _ F => ?_) (fun h _ F => ?_)
  refine bi h fun r_4 h hr_4 => ?_
  refine tt ?_
  repeat (with_reducible first | intro _ | refine ⟨ss, ?_⟩)
  refine cD (lattice_Bottom_ok hr_4) ?_
  refine bi h fun r_5 h hr_5 => ?_
  refine tt ?_
  repeat (with_reducible first | intro _ | refine ⟨ss, ?_⟩)
  refine cD (lazarettoref01_Bottom_ok hr_5) ?_
  refine tt ?_
  repeat (with_reducible first | intro _ | refine ⟨ss, ?_⟩)
  refine fi h F (fun h _ F => ?_) (fun h _ F => ?_)
  refine bi h fun r_6 h hr_6 => ?_
  refine tt ?_
  repeat (with_reducible first | intro _ | refine ⟨ss, ?_⟩)
  refine cD (lattice_Top_ok hr_6) ?_
  refine bi h fun r_7 h hr_7 => ?_
  refine tt ?_
  repeat (with_reducible first | intro _ | refine ⟨ss, ?_⟩)
  refine cD (lazarettoref01_Top_ok hr_7) ?_
  refine tt ?_
  repeat (with_reducible first | intro _ | refine ⟨ss, ?_⟩)
  refine fi h F (fun h _ F => ?_) (fun h _ F => ?_)
  refine bi h fun r_8 h hr_8 => ?_
  refine tt ?_
  repeat (with_reducible first | intro _ | refine ⟨ss, ?_⟩)
  refine cD (lazarettolaw01_awake_ok hr_8) ?_
  cases h; exact fin
  cases h; exact fin
  cases h; exact fin
  cases h; exact fin
  refine bi h fun r_9 h hr_9 => ?_
  refine tt ?_
  repeat (with_reducible first | intro _ | refine ⟨ss, ?_⟩)
  refine cS (lazarettolaw01_awake_ok hr_9) ?_
  cases h; exact fin
theorem lazarettolaw01_may_ok {l : api_Lattice} {n : A3 Int} {r : (A3 Int) × Bool} (h : lazarettolaw01_may l n = some r) :
    Pu Try.prog 45 [.agg (e_api_Lattice l), .agg ((eA3 eI) n)] (.tup [.agg ((eA3 eI) r.1), .one (.bool r.2)]) := by
  have F := trivial; have R := trivial
  refine pA Try.func45 ?_
  simp only [Try.f45]
  unfold lazarettolaw01_may at h
  refine bi h fun r_1 h hr_1 => ?_
  refine tt ?_
  repeat (with_reducible first | intro _ | refine ⟨ss, ?_⟩)
  refine cS (lazarettoref01_Check_ok hr_1) ?_
  refine fi h F (fun h _ F => ?_) (fun h _ F => ?_)
  refine bi h fun r_2 h hr_2 => ?_
  refine tt ?_
  repeat (with_reducible first | intro _ | refine ⟨ss, ?_⟩)
  refine cS (lazarettolaw01_few_ok hr_2) ?_
  refine fv h F (fun h _ F => ?_) (fun h _ F => ?_)
  refine bi h fun e_7 h he_7 => ?_
  refine tt ?_
  refine lE (fun (s__ : Int × Int × Int × Nat) (a__ : Unit) => match s__, a__ with | (n_3, n_4, n_5, i_6), _ => ⟨[(2, .one (.ref 0 0 0 0)), (3, .one (.ref 1 0 0 0)), (4, .one (.ref 2 0 0 0)), (6, .one (.int .i64 (i_6 : Int)))], [.cells 0 2 [[.sl (l.Names.map eS), .sl (l.Below.map (eA2 eI))]], .cells 0 3 [[.int .i64 n_3, .int .i64 n_4, .int .i64 n_5]], .cells 0 3 [[.int .i64 0, .int .i64 0, .int .i64 0]]]⟩) (fun (e__ : Int × Int × Int) (b__ : Unit) => match e__, b__ with | (n_12, n_13, n_14), _ => ⟨[(3, .one (.ref 1 0 0 0)), (4, .one (.ref 2 0 0 0))], [.cells 0 2 [[.sl (l.Names.map eS), .sl (l.Below.map (eA2 eI))]], .cells 0 3 [[.int .i64 n_12, .int .i64 n_13, .int .i64 n_14]], .cells 0 3 [[.int .i64 0, .int .i64 0, .int .i64 0]]]⟩) (fun (_ : Int × Int × Int) => some 0) () he_7 ?_ ?_
  intro i8 b8 hi8
  obtain rfl := Option.some.inj hi8
  obtain ⟨n_12, n_13, n_14⟩ := e_7
  obtain ⟨⟩ := b8
  dsimp only at h ⊢
  cases h; exact fin
  intro af8 m8 s8 a8 o8 hf8 ho8 ih8
  obtain ⟨n_3, n_4, n_5, i_6⟩ := s8
  obtain ⟨⟩ := a8
  dsimp only [lazarettolaw01_may_L1] at hf8 ⊢
  refine fi hf8 F (fun hf8 _ F => ?_) (fun hf8 _ F => ?_)
  refine tt ?_
  repeat (with_reducible first | intro _ | refine ⟨ss, ?_⟩)
  refine fe hf8 F (fun hf8 _ F => ?_) (fun hf8 _ F => ?_)
  have F := And.intro (show i_6 = 0 by omega) F
  refine nd hf8 F fun hf8 F => ?_
  cases hf8
  refine tt ?_
  repeat (with_reducible first | intro _ | refine ⟨ss, ?_⟩)
  refine wn i_6 F fun F => ?_
  exact bk ih8 ho8 ()
  refine tt ?_
  repeat (with_reducible first | intro _ | refine ⟨ss, ?_⟩)
  refine fe hf8 F (fun hf8 _ F => ?_) (fun hf8 _ F => ?_)
  have F := And.intro (show i_6 = 1 by omega) F
  refine nd hf8 F fun hf8 F => ?_
  cases hf8
  refine tt ?_
  repeat (with_reducible first | intro _ | refine ⟨ss, ?_⟩)
  refine wn i_6 F fun F => ?_
  exact bk ih8 ho8 ()
  refine tt ?_
  repeat (with_reducible first | intro _ | refine ⟨ss, ?_⟩)
  refine fe hf8 F (fun hf8 _ F => ?_) (fun hf8 _ F => ?_)
  have F := And.intro (show i_6 = 2 by omega) F
  refine nd hf8 F fun hf8 F => ?_
  cases hf8
  refine tt ?_
  repeat (with_reducible first | intro _ | refine ⟨ss, ?_⟩)
  refine wn i_6 F fun F => ?_
  exact bk ih8 ho8 ()
  cases hf8
  cases hf8
  refine tt ?_
  exact xt ho8 af8 ()
  cases h; exact fin
  cases h; exact fin
theorem lazarettolaw01_LatticeLaws_ok {l : api_Lattice} {raw : A3 Int} {r : Bool} (h : lazarettolaw01_LatticeLaws l raw = some r) :
    Pu Try.prog 11 [.agg (e_api_Lattice l), .agg ((eA3 eI) raw)] (.one (.bool r)) := by
  have F := trivial; have R := trivial
  refine pA Try.func11 ?_
  simp only [Try.f11]
  unfold lazarettolaw01_LatticeLaws at h
  refine bi h fun r_1 h hr_1 => ?_
  refine tt ?_
  repeat (with_reducible first | intro _ | refine ⟨ss, ?_⟩)
  refine cS (lazarettolaw01_may_ok hr_1) ?_
  refine tt ?_
  refine fv h F (fun h _ F => ?_) (fun h _ F => ?_)
  refine bi h fun r_2 h hr_2 => ?_
  refine tt ?_
  repeat (with_reducible first | intro _ | refine ⟨ss, ?_⟩)
  refine cD (lattice_Join_ok hr_2) ?_
  refine bi h fun r_3 h hr_3 => ?_
  refine tt ?_
  repeat (with_reducible first | intro _ | refine ⟨ss, ?_⟩)
  refine cD (lattice_Meet_ok hr_3) ?_
  refine bi h fun r_4 h hr_4 => ?_
  refine tt ?_
  repeat (with_reducible first | intro _ | refine ⟨ss, ?_⟩)
  refine cS (lattice_Join_ok hr_4) ?_
  refine fi h F (fun h _ F => ?_) (fun h _ F => ?_)
  refine bi h fun r_5 h hr_5 => ?_
  refine tt ?_
  repeat (with_reducible first | intro _ | refine ⟨ss, ?_⟩)
  refine cS (lattice_Meet_ok hr_5) ?_
  refine fi h F (fun h _ F => ?_) (fun h _ F => ?_)
  refine bi h fun r_6 h hr_6 => ?_
  refine tt ?_
  repeat (with_reducible first | intro _ | refine ⟨ss, ?_⟩)
  refine cS (lattice_Join_ok hr_6) ?_
  refine fi h F (fun h _ F => ?_) (fun h _ F => ?_)
  refine bi h fun r_7 h hr_7 => ?_
  refine tt ?_
  repeat (with_reducible first | intro _ | refine ⟨ss, ?_⟩)
  refine cS (lattice_Join_ok hr_7) ?_
  refine fi h F (fun h _ F => ?_) (fun h _ F => ?_)
  refine bi h fun r_8 h hr_8 => ?_
  refine tt ?_
  repeat (with_reducible first | intro _ | refine ⟨ss, ?_⟩)
  refine cS (lattice_Meet_ok hr_8) ?_
  refine fi h F (fun h _ F => ?_) (fun h _ F => ?_)
  refine bi h fun r_9 h hr_9 => ?_
  refine tt ?_
  repeat (with_reducible first | intro _ | refine ⟨ss, ?_⟩)
  refine cD (lattice_Join_ok hr_9) ?_
  refine bi h fun r_10 h hr_10 => ?_
  refine tt ?_
  repeat (with_reducible first | intro _ | refine ⟨ss, ?_⟩)
  refine cD (lattice_Join_ok hr_10) ?_
  refine bi h fun r_11 h hr_11 => ?_
  refine tt ?_
  repeat (with_reducible first | intro _ | refine ⟨ss, ?_⟩)
  refine cD (lattice_Join_ok hr_11) ?_
  refine tt ?_
  repeat (with_reducible first | intro _ | refine ⟨ss, ?_⟩)
  refine fi h F (fun h _ F => ?_) (fun h _ F => ?_)
  refine bi h fun r_12 h hr_12 => ?_
  refine tt ?_
  repeat (with_reducible first | intro _ | refine ⟨ss, ?_⟩)
  refine cD (lattice_Meet_ok hr_12) ?_
  refine bi h fun r_13 h hr_13 => ?_
  refine tt ?_
  repeat (with_reducible first | intro _ | refine ⟨ss, ?_⟩)
  refine cD (lattice_Meet_ok hr_13) ?_
  refine bi h fun r_14 h hr_14 => ?_
  refine tt ?_
  repeat (with_reducible first | intro _ | refine ⟨ss, ?_⟩)
  refine cD (lattice_Meet_ok hr_14) ?_
  refine tt ?_
  repeat (with_reducible first | intro _ | refine ⟨ss, ?_⟩)
  refine fi h F (fun h _ F => ?_) (fun h _ F => ?_)
  refine bi h fun r_15 h hr_15 => ?_
  refine tt ?_
  repeat (with_reducible first | intro _ | refine ⟨ss, ?_⟩)
  refine cD (lazarettolaw01_awake_ok hr_15) ?_
  cases h; exact fin
  cases h; exact fin
  cases h; exact fin
  cases h; exact fin
  cases h; exact fin
  cases h; exact fin
  cases h; exact fin
  cases h; exact fin
  refine bi h fun r_16 h hr_16 => ?_
  refine tt ?_
  repeat (with_reducible first | intro _ | refine ⟨ss, ?_⟩)
  refine cS (lazarettolaw01_awake_ok hr_16) ?_
  cases h; exact fin
theorem lazarettolaw01_LatticeBounds_ok {l : api_Lattice} {raw : A3 Int} {r : Bool} (h : lazarettolaw01_LatticeBounds l raw = some r) :
    Pu Try.prog 12 [.agg (e_api_Lattice l), .agg ((eA3 eI) raw)] (.one (.bool r)) := by
  have F := trivial; have R := trivial
  refine pA Try.func12 ?_
  simp only [Try.f12]
  unfold lazarettolaw01_LatticeBounds at h
  refine bi h fun r_1 h hr_1 => ?_
  refine tt ?_
  repeat (with_reducible first | intro _ | refine ⟨ss, ?_⟩)
  refine cS (lazarettolaw01_may_ok hr_1) ?_
  refine tt ?_
  refine fv h F (fun h _ F => ?_) (fun h _ F => ?_)
  refine bi h fun r_2 h hr_2 => ?_
  refine tt ?_
  repeat (with_reducible first | intro _ | refine ⟨ss, ?_⟩)
  refine cS (lattice_Leq_ok hr_2) ?_
  refine bi h fun r_3 h hr_3 => ?_
  refine tt ?_
  repeat (with_reducible first | intro _ | refine ⟨ss, ?_⟩)
  refine cD (lattice_Join_ok hr_3) ?_
  refine tt ?_
  repeat (with_reducible first | intro _ | refine ⟨ss, ?_⟩)
  refine fv h F (fun h _ F => ?_) (fun h _ F => ?_)
  refine bi h fun r_4 h hr_4 => ?_
  refine tt ?_
  repeat (with_reducible first | intro _ | refine ⟨ss, ?_⟩)
  refine cD (lattice_Meet_ok hr_4) ?_
  refine tt ?_
  repeat (with_reducible first | intro _ | refine ⟨ss, ?_⟩)
  refine fv h F (fun h _ F => ?_) (fun h _ F => ?_)
  refine bi h fun r_5 h hr_5 => ?_
  refine tt ?_
  repeat (with_reducible first | intro _ | refine ⟨ss, ?_⟩)
  refine cD (lattice_Bottom_ok hr_5) ?_
  refine bi h fun r_6 h hr_6 => ?_
  refine tt ?_
  repeat (with_reducible first | intro _ | refine ⟨ss, ?_⟩)
  refine cD (lattice_Leq_ok hr_6) ?_
  refine tt ?_
  repeat (with_reducible first | intro _ | refine ⟨ss, ?_⟩)
  refine fv h F (fun h _ F => ?_) (fun h _ F => ?_)
  refine bi h fun r_7 h hr_7 => ?_
  refine tt ?_
  repeat (with_reducible first | intro _ | refine ⟨ss, ?_⟩)
  refine cD (lattice_Top_ok hr_7) ?_
  refine bi h fun r_8 h hr_8 => ?_
  refine tt ?_
  repeat (with_reducible first | intro _ | refine ⟨ss, ?_⟩)
  refine cD (lattice_Leq_ok hr_8) ?_
  refine tt ?_
  repeat (with_reducible first | intro _ | refine ⟨ss, ?_⟩)
  refine fv h F (fun h _ F => ?_) (fun h _ F => ?_)
  refine bi h fun r_9 h hr_9 => ?_
  refine tt ?_
  repeat (with_reducible first | intro _ | refine ⟨ss, ?_⟩)
  refine cD (lazarettolaw01_awake_ok hr_9) ?_
  cases h; exact fin
  cases h; exact fin
  cases h; exact fin
  cases h; exact fin
  cases h; exact fin
  refine bi h fun r_10 h hr_10 => ?_
  refine tt ?_
  repeat (with_reducible first | intro _ | refine ⟨ss, ?_⟩)
  refine cS (lazarettolaw01_awake_ok hr_10) ?_
  cases h; exact fin
theorem lazarettolaw01_LatticeChain_ok {l : api_Lattice} {raw : A3 Int} {r : Bool} (h : lazarettolaw01_LatticeChain l raw = some r) :
    Pu Try.prog 13 [.agg (e_api_Lattice l), .agg ((eA3 eI) raw)] (.one (.bool r)) := by
  have F := trivial; have R := trivial
  refine pA Try.func13 ?_
  simp only [Try.f13]
  unfold lazarettolaw01_LatticeChain at h
  refine bi h fun r_1 h hr_1 => ?_
  refine tt ?_
  repeat (with_reducible first | intro _ | refine ⟨ss, ?_⟩)
  refine cS (lazarettolaw01_may_ok hr_1) ?_
  refine tt ?_
  refine fv h F (fun h _ F => ?_) (fun h _ F => ?_)
  refine bi h fun r_2 h hr_2 => ?_
  refine tt ?_
  repeat (with_reducible first | intro _ | refine ⟨ss, ?_⟩)
  refine cS (lattice_Leq_ok hr_2) ?_
  refine fv h F (fun h _ F => ?_) (fun h _ F => ?_)
  refine bi h fun r_3 h hr_3 => ?_
  refine tt ?_
  repeat (with_reducible first | intro _ | refine ⟨ss, ?_⟩)
  refine cS (lattice_Leq_ok hr_3) ?_
  refine fv h F (fun h _ F => ?_) (fun h _ F => ?_)
  refine bi h fun r_4 h hr_4 => ?_
  refine tt ?_
  repeat (with_reducible first | intro _ | refine ⟨ss, ?_⟩)
  refine cS (lattice_Leq_ok hr_4) ?_
  refine fv h F (fun h _ F => ?_) (fun h _ F => ?_)
  refine bi h fun r_5 h hr_5 => ?_
  refine tt ?_
  repeat (with_reducible first | intro _ | refine ⟨ss, ?_⟩)
  refine cS (lattice_Leq_ok hr_5) ?_
  refine fv h F (fun h _ F => ?_) (fun h _ F => ?_)
  refine bi h fun r_6 h hr_6 => ?_
  refine tt ?_
  repeat (with_reducible first | intro _ | refine ⟨ss, ?_⟩)
  refine cS (lattice_Leq_ok hr_6) ?_
  refine fv h F (fun h _ F => ?_) (fun h _ F => ?_)
  refine bi h fun r_7 h hr_7 => ?_
  refine tt ?_
  repeat (with_reducible first | intro _ | refine ⟨ss, ?_⟩)
  refine cS (lattice_Leq_ok hr_7) ?_
  refine fv h F (fun h _ F => ?_) (fun h _ F => ?_)
  refine tt ?_
  refine fi h F (fun h _ F => ?_) (fun h _ F => ?_)
  refine bi h fun r_8 h hr_8 => ?_
  refine tt ?_
  repeat (with_reducible first | intro _ | refine ⟨ss, ?_⟩)
  refine cS (lazarettolaw01_awake_ok hr_8) ?_
  cases h; exact fin
  cases h; exact fin
  refine bi h fun r_9 h hr_9 => ?_
  refine tt ?_
  repeat (with_reducible first | intro _ | refine ⟨ss, ?_⟩)
  refine cS (lazarettolaw01_awake_ok hr_9) ?_
  cases h; exact fin
  refine bi h fun r_10 h hr_10 => ?_
  refine tt ?_
  repeat (with_reducible first | intro _ | refine ⟨ss, ?_⟩)
  refine cS (lazarettolaw01_awake_ok hr_10) ?_
  cases h; exact fin
  cases h; exact fin
  cases h; exact fin
  refine bi h fun r_11 h hr_11 => ?_
  refine tt ?_
  repeat (with_reducible first | intro _ | refine ⟨ss, ?_⟩)
  refine cS (lattice_Leq_ok hr_11) ?_
  refine fv h F (fun h _ F => ?_) (fun h _ F => ?_)
  refine bi h fun r_12 h hr_12 => ?_
  refine tt ?_
  repeat (with_reducible first | intro _ | refine ⟨ss, ?_⟩)
  refine cS (lattice_Leq_ok hr_12) ?_
  refine fv h F (fun h _ F => ?_) (fun h _ F => ?_)
  refine bi h fun r_13 h hr_13 => ?_
  refine tt ?_
  repeat (with_reducible first | intro _ | refine ⟨ss, ?_⟩)
  refine cS (lattice_Leq_ok hr_13) ?_
  refine fv h F (fun h _ F => ?_) (fun h _ F => ?_)
  refine tt ?_
  refine fi h F (fun h _ F => ?_) (fun h _ F => ?_)
  refine bi h fun r_14 h hr_14 => ?_
  refine tt ?_
  repeat (with_reducible first | intro _ | refine ⟨ss, ?_⟩)
  refine cS (lazarettolaw01_awake_ok hr_14) ?_
  cases h; exact fin
  cases h; exact fin
  refine bi h fun r_15 h hr_15 => ?_
  refine tt ?_
  repeat (with_reducible first | intro _ | refine ⟨ss, ?_⟩)
  refine cS (lazarettolaw01_awake_ok hr_15) ?_
  cases h; exact fin
  refine bi h fun r_16 h hr_16 => ?_
  refine tt ?_
  repeat (with_reducible first | intro _ | refine ⟨ss, ?_⟩)
  refine cS (lazarettolaw01_awake_ok hr_16) ?_
  cases h; exact fin
  cases h; exact fin
  refine bi h fun r_17 h hr_17 => ?_
  refine tt ?_
  repeat (with_reducible first | intro _ | refine ⟨ss, ?_⟩)
  refine cS (lattice_Leq_ok hr_17) ?_
  refine fv h F (fun h _ F => ?_) (fun h _ F => ?_)
  refine bi h fun r_18 h hr_18 => ?_
  refine tt ?_
  repeat (with_reducible first | intro _ | refine ⟨ss, ?_⟩)
  refine cS (lattice_Leq_ok hr_18) ?_
  refine fv h F (fun h _ F => ?_) (fun h _ F => ?_)
  refine bi h fun r_19 h hr_19 => ?_
  refine tt ?_
  repeat (with_reducible first | intro _ | refine ⟨ss, ?_⟩)
  refine cS (lattice_Leq_ok hr_19) ?_
  refine fv h F (fun h _ F => ?_) (fun h _ F => ?_)
  refine tt ?_
  refine fi h F (fun h _ F => ?_) (fun h _ F => ?_)
  refine bi h fun r_20 h hr_20 => ?_
  refine tt ?_
  repeat (with_reducible first | intro _ | refine ⟨ss, ?_⟩)
  refine cS (lazarettolaw01_awake_ok hr_20) ?_
  cases h; exact fin
  cases h; exact fin
  refine bi h fun r_21 h hr_21 => ?_
  refine tt ?_
  repeat (with_reducible first | intro _ | refine ⟨ss, ?_⟩)
  refine cS (lazarettolaw01_awake_ok hr_21) ?_
  cases h; exact fin
  refine bi h fun r_22 h hr_22 => ?_
  refine tt ?_
  repeat (with_reducible first | intro _ | refine ⟨ss, ?_⟩)
  refine cS (lazarettolaw01_awake_ok hr_22) ?_
  cases h; exact fin
  cases h; exact fin
  refine bi h fun r_23 h hr_23 => ?_
  refine tt ?_
  repeat (with_reducible first | intro _ | refine ⟨ss, ?_⟩)
  refine cS (lazarettolaw01_awake_ok hr_23) ?_
  cases h; exact fin
end Go.Lz
