/- W01b -/
import Derived.Test.YtbcpfhnlidpcbaaW01
namespace Go.Lz
set_option linter.unusedVariables false
set_option linter.unusedSimpArgs false
open Go.Proofs
attribute [-go_sem] q_cond g_b gd_b
noncomputable section
def lazarettoref01_Join_L3 (l : api_Lattice) (a : Int) (b : Int) (c_1 : Nat) : (Bool × Nat) → Option ((Bool × Nat) ⊕ (Bool))
  | (ok_31, d_32) => if (d_32 : Int) < (l.Names.length : Int) then (if ok_31 = true then ((lazarettoref01_Leq l a (d_32 : Int)).bind fun r_39 => if r_39 = true then ((lazarettoref01_Leq l b (d_32 : Int)).bind fun r_41 => if r_41 = true then ((lazarettoref01_Leq l (c_1 : Int) (d_32 : Int)).bind fun r_43 => some (.inl (r_43, (d_32 + 1)))) else (some (.inl (true, (d_32 + 1))))) else (some (.inl (true, (d_32 + 1))))) else (some (.inr (ok_31)))) else (some (.inr (ok_31)))
def lazarettoref01_Join_L2 (l : api_Lattice) (a : Int) (b : Int) (c_1 : Nat) : (Bool × Nat) → Option ((Bool × Nat) ⊕ (Bool))
  | (ok_10, d_11) => if (d_11 : Int) < (l.Names.length : Int) then (if ok_10 = true then ((lazarettoref01_Leq l a (d_11 : Int)).bind fun r_18 => if r_18 = true then ((lazarettoref01_Leq l b (d_11 : Int)).bind fun r_20 => if r_20 = true then ((lazarettoref01_Leq l (c_1 : Int) (d_11 : Int)).bind fun r_22 => some (.inl (r_22, (d_11 + 1)))) else (some (.inl (true, (d_11 + 1))))) else (some (.inl (true, (d_11 + 1))))) else (some (.inr (ok_10)))) else (some (.inr (ok_10)))
def lazarettoref01_Join_L1 (l : api_Lattice) (a : Int) (b : Int) : Nat → Option ((Nat) ⊕ (Int ⊕ Unit))
  | c_1 => if (c_1 : Int) < (l.Names.length : Int) then ((lazarettoref01_Leq l a (c_1 : Int)).bind fun r_7 => if r_7 = true then ((lazarettoref01_Leq l b (c_1 : Int)).bind fun r_9 => (loop (lazarettoref01_Join_L2 l a b c_1) (r_9, 0)).bind (fun e_12 => if e_12 = true then (some (.inr (.inl ((c_1 : Int))))) else (some (.inl (c_1 + 1))))) else ((loop (lazarettoref01_Join_L3 l a b c_1) (false, 0)).bind (fun e_33 => if e_33 = true then (some (.inr (.inl ((c_1 : Int))))) else (some (.inl (c_1 + 1)))))) else (some (.inr (.inr (()))))
def lazarettoref01_Join (l : api_Lattice) (a : Int) (b : Int) : Option Int :=
  (loop (lazarettoref01_Join_L1 l a b) 0).bind (fun e__ => match e__ with | (.inl e_54) => some e_54 | (.inr ()) => some (-1))
def lazarettoref01_Meet_L3 (l : api_Lattice) (a : Int) (b : Int) (c_1 : Nat) : (Bool × Nat) → Option ((Bool × Nat) ⊕ (Bool))
  | (ok_31, d_32) => if (d_32 : Int) < (l.Names.length : Int) then (if ok_31 = true then ((lazarettoref01_Leq l (d_32 : Int) a).bind fun r_39 => if r_39 = true then ((lazarettoref01_Leq l (d_32 : Int) b).bind fun r_41 => if r_41 = true then ((lazarettoref01_Leq l (d_32 : Int) (c_1 : Int)).bind fun r_43 => some (.inl (r_43, (d_32 + 1)))) else (some (.inl (true, (d_32 + 1))))) else (some (.inl (true, (d_32 + 1))))) else (some (.inr (ok_31)))) else (some (.inr (ok_31)))
def lazarettoref01_Meet_L2 (l : api_Lattice) (a : Int) (b : Int) (c_1 : Nat) : (Bool × Nat) → Option ((Bool × Nat) ⊕ (Bool))
  | (ok_10, d_11) => if (d_11 : Int) < (l.Names.length : Int) then (if ok_10 = true then ((lazarettoref01_Leq l (d_11 : Int) a).bind fun r_18 => if r_18 = true then ((lazarettoref01_Leq l (d_11 : Int) b).bind fun r_20 => if r_20 = true then ((lazarettoref01_Leq l (d_11 : Int) (c_1 : Int)).bind fun r_22 => some (.inl (r_22, (d_11 + 1)))) else (some (.inl (true, (d_11 + 1))))) else (some (.inl (true, (d_11 + 1))))) else (some (.inr (ok_10)))) else (some (.inr (ok_10)))
def lazarettoref01_Meet_L1 (l : api_Lattice) (a : Int) (b : Int) : Nat → Option ((Nat) ⊕ (Int ⊕ Unit))
  | c_1 => if (c_1 : Int) < (l.Names.length : Int) then ((lazarettoref01_Leq l (c_1 : Int) a).bind fun r_7 => if r_7 = true then ((lazarettoref01_Leq l (c_1 : Int) b).bind fun r_9 => (loop (lazarettoref01_Meet_L2 l a b c_1) (r_9, 0)).bind (fun e_12 => if e_12 = true then (some (.inr (.inl ((c_1 : Int))))) else (some (.inl (c_1 + 1))))) else ((loop (lazarettoref01_Meet_L3 l a b c_1) (false, 0)).bind (fun e_33 => if e_33 = true then (some (.inr (.inl ((c_1 : Int))))) else (some (.inl (c_1 + 1)))))) else (some (.inr (.inr (()))))
def lazarettoref01_Meet (l : api_Lattice) (a : Int) (b : Int) : Option Int :=
  (loop (lazarettoref01_Meet_L1 l a b) 0).bind (fun e__ => match e__ with | (.inl e_54) => some e_54 | (.inr ()) => some (-1))
def lazarettoref01_Check_L3 (l : api_Lattice) (a_23 : Nat) (x_29 : Str) : Nat → Option ((Nat) ⊕ (Int ⊕ Unit))
  | b_34 => if (b_34 : Int) < (a_23 : Int) then ((l.Names[b_34]?).bind fun x_40 => if x_29 = x_40 then (some (.inr (.inl (4)))) else ((lazarettoref01_Leq l (a_23 : Int) (b_34 : Int)).bind fun r_45 => if r_45 = true then ((lazarettoref01_Leq l (b_34 : Int) (a_23 : Int)).bind fun r_47 => if r_47 = true then (some (.inr (.inl (4)))) else ((lazarettoref01_Join l (a_23 : Int) (b_34 : Int)).bind fun r_49 => if r_49 < 0 then (some (.inr (.inl (4)))) else ((lazarettoref01_Meet l (a_23 : Int) (b_34 : Int)).bind fun r_53 => if r_53 < 0 then (some (.inr (.inl (4)))) else (some (.inl (b_34 + 1)))))) else ((lazarettoref01_Join l (a_23 : Int) (b_34 : Int)).bind fun r_58 => if r_58 < 0 then (some (.inr (.inl (4)))) else ((lazarettoref01_Meet l (a_23 : Int) (b_34 : Int)).bind fun r_62 => if r_62 < 0 then (some (.inr (.inl (4)))) else (some (.inl (b_34 + 1))))))) else (some (.inr (.inr (()))))
def lazarettoref01_Check_L2 (l : api_Lattice) : Nat → Option ((Nat) ⊕ (Int ⊕ Unit))
  | a_23 => if (a_23 : Int) < (l.Names.length : Int) then ((l.Names[a_23]?).bind fun x_29 => if x_29 = [] then (some (.inr (.inl (4)))) else ((loop (lazarettoref01_Check_L3 l a_23 x_29) 0).bind (fun e__ => match e__ with | (.inl e_69) => some (.inr (.inl (e_69))) | (.inr ()) => some (.inl (a_23 + 1))))) else (some (.inr (.inr (()))))
def lazarettoref01_Check_L1 (l : api_Lattice) : Nat → Option ((Nat) ⊕ (Int ⊕ Unit))
  | i_7 => if (i_7 : Int) < (l.Below.length : Int) then ((l.Below[i_7]?).bind fun x_13 => (lazarettoref01_Is l x_13.a0).bind fun r_15 => if r_15 = true then ((lazarettoref01_Is l x_13.a1).bind fun r_17 => if r_17 = true then (some (.inl (i_7 + 1))) else (some (.inr (.inl (4))))) else (some (.inr (.inl (4))))) else (some (.inr (.inr (()))))
def lazarettoref01_Check (l : api_Lattice) : Option Int :=
  if (l.Names.length : Int) < 1 then (some 3) else (if 8 < (l.Names.length : Int) then (some 3) else ((loop (lazarettoref01_Check_L1 l) 0).bind (fun e__ => match e__ with | (.inl e_22) => some e_22 | (.inr ()) => (loop (lazarettoref01_Check_L2 l) 0).bind (fun e__ => match e__ with | (.inl e_73) => some e_73 | (.inr ()) => some 0))))
def lazarettolaw01_few (l : api_Lattice) : Option Bool :=
  if (l.Names.length : Int) ≤ 12 then (some (decide ((l.Below.length : Int) ≤ 200))) else (some false)
def lattice_best_L2 (l : api_Lattice) (of : (Int → Option Bool)) (ahead : (Int → Int → Option Bool)) (x_1 : Nat) : Nat → Option ((Nat) ⊕ (Unit ⊕ Unit))
  | x_9 => if (x_9 : Int) < (l.Names.length : Int) then ((of (x_9 : Int)).bind fun r_15 => if r_15 = true then ((ahead (x_1 : Int) (x_9 : Int)).bind fun r_17 => if r_17 = true then (some (.inl (x_9 + 1))) else (some (.inr (.inl (()))))) else (some (.inl (x_9 + 1)))) else (some (.inr (.inr (()))))
def lattice_best_L1 (l : api_Lattice) (of : (Int → Option Bool)) (ahead : (Int → Int → Option Bool)) : Nat → Option ((Nat) ⊕ (Int ⊕ Unit))
  | x_1 => if (x_1 : Int) < (l.Names.length : Int) then ((of (x_1 : Int)).bind fun r_7 => if r_7 = true then ((loop (lattice_best_L2 l of ahead x_1) 0).bind (fun e__ => match e__ with | (.inl ()) => some (.inl (x_1 + 1)) | (.inr ()) => some (.inr (.inl ((x_1 : Int)))))) else (some (.inl (x_1 + 1)))) else (some (.inr (.inr (()))))
def lattice_best (l : api_Lattice) (of : (Int → Option Bool)) (ahead : (Int → Int → Option Bool)) : Option Int :=
  (loop (lattice_best_L1 l of ahead) 0).bind (fun e__ => match e__ with | (.inl e_27) => some e_27 | (.inr ()) => some (-1))
def lattice_Join_1 (c0 : List Bool) (c1 : List Bool) (c : Int) : Option Bool :=
  (idx c0 c).bind fun x_1 => if x_1 = true then ((idx c1 c).bind fun x_4 => some x_4) else (some false)
def lattice_Join_2 (c0 : api_Lattice) (c : Int) (d : Int) : Option Bool :=
  (lattice_Leq c0 c d).bind fun r_1 => some r_1
def lattice_Join (l : api_Lattice) (a : Int) (b : Int) : Option Int :=
  (lattice_is l a).bind fun r_1 => if r_1 = true then ((lattice_is l b).bind fun r_3 => if r_3 = true then ((lattice_above l a).bind fun r_5 => (lattice_above l b).bind fun r_6 => (lattice_best l (lattice_Join_1 r_5 r_6) (lattice_Join_2 l)).bind fun r_7 => some r_7) else (some (-1))) else (some (-1))
def lattice_Meet_1 (c0 : api_Lattice) (c1 : Int) (c2 : Int) (c : Int) : Option Bool :=
  (lattice_Leq c0 c c1).bind fun r_1 => if r_1 = true then ((lattice_Leq c0 c c2).bind fun r_3 => some r_3) else (some false)
def lattice_Meet_2 (c0 : api_Lattice) (c : Int) (d : Int) : Option Bool :=
  (lattice_Leq c0 d c).bind fun r_1 => some r_1
def lattice_Meet (l : api_Lattice) (a : Int) (b : Int) : Option Int :=
  (lattice_is l a).bind fun r_1 => if r_1 = true then ((lattice_is l b).bind fun r_3 => if r_3 = true then ((lattice_best l (lattice_Meet_1 l a b) (lattice_Meet_2 l)).bind fun r_5 => some r_5) else (some (-1))) else (some (-1))
def lattice_Check_L3 (l : api_Lattice) (x_25 : Nat) : Nat → Option ((Nat) ⊕ (Int ⊕ Unit))
  | x_34 => if (x_34 : Int) < (x_25 : Int) then ((lattice_Leq l (x_25 : Int) (x_34 : Int)).bind fun r_40 => if r_40 = true then ((lattice_Leq l (x_34 : Int) (x_25 : Int)).bind fun r_42 => if r_42 = true then (some (.inr (.inl (4)))) else ((lattice_Join l (x_25 : Int) (x_34 : Int)).bind fun r_44 => if r_44 < 0 then (some (.inr (.inl (4)))) else ((lattice_Meet l (x_25 : Int) (x_34 : Int)).bind fun r_48 => if r_48 < 0 then (some (.inr (.inl (4)))) else (some (.inl (x_34 + 1)))))) else ((lattice_Join l (x_25 : Int) (x_34 : Int)).bind fun r_53 => if r_53 < 0 then (some (.inr (.inl (4)))) else ((lattice_Meet l (x_25 : Int) (x_34 : Int)).bind fun r_57 => if r_57 < 0 then (some (.inr (.inl (4)))) else (some (.inl (x_34 + 1)))))) else (some (.inr (.inr (()))))
def lattice_Check_L2 (l : api_Lattice) : ((List (Str × Bool)) × Nat) → Option (((List (Str × Bool)) × Nat) ⊕ (Int ⊕ (List (Str × Bool))))
  | (seen_24, x_25) => if (x_25 : Int) < (l.Names.length : Int) then ((l.Names[x_25]?).bind fun x_31 => if ((mget x_31 seen_24).getD false) = true then (some (.inr (.inl (4)))) else ((loop (lattice_Check_L3 l x_25) 0).bind (fun e__ => match e__ with | (.inl e_64) => some (.inr (.inl (e_64))) | (.inr ()) => some (.inl ((mset x_31 true seen_24), (x_25 + 1)))))) else (some (.inr (.inr (seen_24))))
def lattice_Check_L1 (l : api_Lattice) : Nat → Option ((Nat) ⊕ (Int ⊕ Unit))
  | x_7 => if (x_7 : Int) < (l.Below.length : Int) then ((l.Below[x_7]?).bind fun x_13 => (lattice_is l x_13.a0).bind fun r_15 => if r_15 = true then ((lattice_is l x_13.a1).bind fun r_17 => if r_17 = true then (some (.inl (x_7 + 1))) else (some (.inr (.inl (4))))) else (some (.inr (.inl (4))))) else (some (.inr (.inr (()))))
def lattice_Check (l : api_Lattice) : Option Int :=
  if (l.Names.length : Int) < 1 then (some 3) else (if 8 < (l.Names.length : Int) then (some 3) else ((loop (lattice_Check_L1 l) 0).bind (fun e__ => match e__ with | (.inl e_22) => some e_22 | (.inr ()) => (loop (lattice_Check_L2 l) ((mset [] true ([] : List (Str × Bool))), 0)).bind (fun e__ => match e__ with | (.inl e_68) => some e_68 | (.inr seen_69) => some 0))))
def lattice_all (p0 : Int) : Option Bool :=
  some true
def lattice_Bottom_1 (c0 : api_Lattice) (c : Int) (d : Int) : Option Bool :=
  (lattice_Leq c0 c d).bind fun r_1 => some r_1
def lattice_Bottom (l : api_Lattice) : Option Int :=
  (lattice_best l lattice_all (lattice_Bottom_1 l)).bind fun r_1 => some r_1
def lattice_Top_1 (c0 : api_Lattice) (c : Int) (d : Int) : Option Bool :=
  (lattice_Leq c0 d c).bind fun r_1 => some r_1
def lattice_Top (l : api_Lattice) : Option Int :=
  (lattice_best l lattice_all (lattice_Top_1 l)).bind fun r_1 => some r_1
def lazarettolaw01_awake : Option Bool :=
  (lattice_Join (⟨[([108, 111, 119] : Str), ([104, 105, 103, 104] : Str)], [(⟨0, 1⟩ : A2 Int)]⟩ : api_Lattice) 0 1).bind fun r_1 => if r_1 = 1 then ((lattice_Meet (⟨[([108, 111, 119] : Str), ([104, 105, 103, 104] : Str)], [(⟨0, 1⟩ : A2 Int)]⟩ : api_Lattice) 0 1).bind fun r_4 => if r_4 = 0 then ((lattice_Join (⟨[([97] : Str), ([98] : Str), ([99] : Str), ([100] : Str)], [(⟨0, 1⟩ : A2 Int), (⟨0, 2⟩ : A2 Int), (⟨1, 3⟩ : A2 Int), (⟨2, 3⟩ : A2 Int)]⟩ : api_Lattice) 1 2).bind fun r_7 => if r_7 = 3 then ((lattice_Check (⟨[([97] : Str), ([98] : Str), ([99] : Str), ([100] : Str)], [(⟨0, 1⟩ : A2 Int), (⟨0, 2⟩ : A2 Int), (⟨1, 3⟩ : A2 Int), (⟨2, 3⟩ : A2 Int)]⟩ : api_Lattice)).bind fun r_10 => if r_10 = 0 then ((lattice_Bottom (⟨[([97] : Str), ([98] : Str), ([99] : Str), ([100] : Str)], [(⟨0, 1⟩ : A2 Int), (⟨0, 2⟩ : A2 Int), (⟨1, 3⟩ : A2 Int), (⟨2, 3⟩ : A2 Int)]⟩ : api_Lattice)).bind fun r_13 => if r_13 = 0 then ((lattice_Top (⟨[([97] : Str), ([98] : Str), ([99] : Str), ([100] : Str)], [(⟨0, 1⟩ : A2 Int), (⟨0, 2⟩ : A2 Int), (⟨1, 3⟩ : A2 Int), (⟨2, 3⟩ : A2 Int)]⟩ : api_Lattice)).bind fun r_16 => if r_16 = 3 then ((lattice_Leq (⟨[([108, 111, 119] : Str), ([104, 105, 103, 104] : Str)], [(⟨0, 1⟩ : A2 Int)]⟩ : api_Lattice) 0 1).bind fun r_19 => if r_19 = true then ((lattice_Leq (⟨[([108, 111, 119] : Str), ([104, 105, 103, 104] : Str)], [(⟨0, 1⟩ : A2 Int)]⟩ : api_Lattice) 1 0).bind fun r_21 => if r_21 = true then (some false) else ((lattice_Check (⟨[], []⟩ : api_Lattice)).bind fun r_23 => some (decide (r_23 = 3)))) else (some false)) else (some false)) else (some false)) else (some false)) else (some false)) else (some false)) else (some false)
def lazarettolaw01_LatticeOrders (l : api_Lattice) (a : Int) (b : Int) : Option Bool :=
  (lazarettolaw01_few l).bind fun r_1 => if r_1 = true then ((lattice_Leq l a b).bind fun r_3 => (lazarettoref01_Leq l a b).bind fun r_4 => if (r_3 == r_4) = true then ((lattice_Join l a b).bind fun r_6 => (lazarettoref01_Join l a b).bind fun r_7 => if r_6 = r_7 then ((lattice_Meet l a b).bind fun r_10 => (lazarettoref01_Meet l a b).bind fun r_11 => if r_10 = r_11 then ((lazarettolaw01_awake).bind fun r_14 => some r_14) else (some false)) else (some false)) else (some false)) else ((lazarettolaw01_awake).bind fun r_17 => some r_17)
def lazarettoref01_Bottom_L2 (l : api_Lattice) (c_1 : Nat) : (Bool × Nat) → Option ((Bool × Nat) ⊕ (Bool))
  | (ok_7, d_8) => if (d_8 : Int) < (l.Names.length : Int) then (if ok_7 = true then ((lazarettoref01_Leq l (c_1 : Int) (d_8 : Int)).bind fun r_15 => some (.inl (r_15, (d_8 + 1)))) else (some (.inr (ok_7)))) else (some (.inr (ok_7)))
def lazarettoref01_Bottom_L1 (l : api_Lattice) : Nat → Option ((Nat) ⊕ (Int ⊕ Unit))
  | c_1 => if (c_1 : Int) < (l.Names.length : Int) then ((loop (lazarettoref01_Bottom_L2 l c_1) (true, 0)).bind (fun e_9 => if e_9 = true then (some (.inr (.inl ((c_1 : Int))))) else (some (.inl (c_1 + 1))))) else (some (.inr (.inr (()))))
def lazarettoref01_Bottom (l : api_Lattice) : Option Int :=
  (loop (lazarettoref01_Bottom_L1 l) 0).bind (fun e__ => match e__ with | (.inl e_24) => some e_24 | (.inr ()) => some (-1))
def lazarettoref01_Top_L2 (l : api_Lattice) (c_1 : Nat) : (Bool × Nat) → Option ((Bool × Nat) ⊕ (Bool))
  | (ok_7, d_8) => if (d_8 : Int) < (l.Names.length : Int) then (if ok_7 = true then ((lazarettoref01_Leq l (d_8 : Int) (c_1 : Int)).bind fun r_15 => some (.inl (r_15, (d_8 + 1)))) else (some (.inr (ok_7)))) else (some (.inr (ok_7)))
def lazarettoref01_Top_L1 (l : api_Lattice) : Nat → Option ((Nat) ⊕ (Int ⊕ Unit))
  | c_1 => if (c_1 : Int) < (l.Names.length : Int) then ((loop (lazarettoref01_Top_L2 l c_1) (true, 0)).bind (fun e_9 => if e_9 = true then (some (.inr (.inl ((c_1 : Int))))) else (some (.inl (c_1 + 1))))) else (some (.inr (.inr (()))))
def lazarettoref01_Top (l : api_Lattice) : Option Int :=
  (loop (lazarettoref01_Top_L1 l) 0).bind (fun e__ => match e__ with | (.inl e_24) => some e_24 | (.inr ()) => some (-1))
def lazarettolaw01_LatticeChecks (l : api_Lattice) : Option Bool :=
  (lazarettolaw01_few l).bind fun r_1 => if r_1 = true then ((lattice_Check l).bind fun r_3 => (lazarettoref01_Check l).bind fun r_4 => if r_3 = r_4 then ((lattice_Bottom l).bind fun r_7 => (lazarettoref01_Bottom l).bind fun r_8 => if r_7 = r_8 then ((lattice_Top l).bind fun r_11 => (lazarettoref01_Top l).bind fun r_12 => if r_11 = r_12 then ((lazarettolaw01_awake).bind fun r_15 => some r_15) else (some false)) else (some false)) else (some false)) else ((lazarettolaw01_awake).bind fun r_19 => some r_19)
def lazarettolaw01_may_L1 (l : api_Lattice) : (Int × Int × Int × Nat) → Option ((Int × Int × Int × Nat) ⊕ (Int × Int × Int))
  | (n_6, n_7, n_8, i_9) => if (i_9 : Int) < 3 then (if (i_9 : Int) = 0 then (need (¬ (IntKind.u64.wrap (l.Names.length : Int)) = 0) (some (.inl ((w64 ((IntKind.u64.wrap n_6).tmod (IntKind.u64.wrap (l.Names.length : Int)))), n_7, n_8, (i_9 + 1))))) else (if (i_9 : Int) = 1 then (need (¬ (IntKind.u64.wrap (l.Names.length : Int)) = 0) (some (.inl (n_6, (w64 ((IntKind.u64.wrap n_7).tmod (IntKind.u64.wrap (l.Names.length : Int)))), n_8, (i_9 + 1))))) else (if (i_9 : Int) = 2 then (need (¬ (IntKind.u64.wrap (l.Names.length : Int)) = 0) (some (.inl (n_6, n_7, (w64 ((IntKind.u64.wrap n_8).tmod (IntKind.u64.wrap (l.Names.length : Int)))), (i_9 + 1))))) else none))) else (some (.inr ((n_6, n_7, n_8))))
def lazarettolaw01_may (l : api_Lattice) (n : A3 Int) : Option ((A3 Int) × Bool) :=
  (lazarettoref01_Check l).bind fun r_1 => if r_1 = 0 then ((lazarettolaw01_few l).bind fun r_4 => if r_4 = true then ((loop (lazarettolaw01_may_L1 l) (n.a0, n.a1, n.a2, 0)).bind (fun (n_30, n_31, n_32) => some ((⟨n_30, n_31, n_32⟩ : A3 Int), true))) else (some (n, false))) else (some (n, false))
def lazarettolaw01_LatticeLaws (l : api_Lattice) (raw : A3 Int) : Option Bool :=
  (lazarettolaw01_may l raw).bind fun r_1 => if r_1.2 = true then ((lattice_Join l r_1.1.a0 r_1.1.a1).bind fun r_3 => (lattice_Meet l r_1.1.a0 r_1.1.a1).bind fun r_4 => (lattice_Join l r_1.1.a1 r_1.1.a0).bind fun r_5 => if r_3 = r_5 then ((lattice_Meet l r_1.1.a1 r_1.1.a0).bind fun r_8 => if r_4 = r_8 then ((lattice_Join l r_1.1.a0 r_1.1.a0).bind fun r_11 => if r_11 = r_1.1.a0 then ((lattice_Join l r_1.1.a0 r_4).bind fun r_14 => if r_14 = r_1.1.a0 then ((lattice_Meet l r_1.1.a0 r_3).bind fun r_17 => if r_17 = r_1.1.a0 then ((lattice_Join l r_3 r_1.1.a2).bind fun r_20 => (lattice_Join l r_1.1.a1 r_1.1.a2).bind fun r_21 => (lattice_Join l r_1.1.a0 r_21).bind fun r_22 => if r_20 = r_22 then ((lattice_Meet l r_4 r_1.1.a2).bind fun r_25 => (lattice_Meet l r_1.1.a1 r_1.1.a2).bind fun r_26 => (lattice_Meet l r_1.1.a0 r_26).bind fun r_27 => if r_25 = r_27 then ((lazarettolaw01_awake).bind fun r_30 => some r_30) else (some false)) else (some false)) else (some false)) else (some false)) else (some false)) else (some false)) else (some false)) else ((lazarettolaw01_awake).bind fun r_38 => some r_38)
def lazarettolaw01_LatticeBounds (l : api_Lattice) (raw : A3 Int) : Option Bool :=
  (lazarettolaw01_may l raw).bind fun r_1 => if r_1.2 = true then ((lattice_Leq l r_1.1.a0 r_1.1.a1).bind fun r_3 => (lattice_Join l r_1.1.a0 r_1.1.a1).bind fun r_4 => if (r_3 == (decide (r_4 = r_1.1.a1))) = true then ((lattice_Meet l r_1.1.a0 r_1.1.a1).bind fun r_6 => if (r_3 == (decide (r_6 = r_1.1.a0))) = true then ((lattice_Bottom l).bind fun r_8 => (lattice_Leq l r_8 r_1.1.a0).bind fun r_9 => if r_9 = true then ((lattice_Top l).bind fun r_11 => (lattice_Leq l r_1.1.a0 r_11).bind fun r_12 => if r_12 = true then ((lazarettolaw01_awake).bind fun r_14 => some r_14) else (some false)) else (some false)) else (some false)) else (some false)) else ((lazarettolaw01_awake).bind fun r_15 => some r_15)
def lazarettolaw01_LatticeChain (l : api_Lattice) (raw : A3 Int) : Option Bool :=
  (lazarettolaw01_may l raw).bind fun r_1 => if r_1.2 = true then ((lattice_Leq l r_1.1.a0 r_1.1.a1).bind fun r_3 => if r_3 = true then ((lattice_Leq l r_1.1.a1 r_1.1.a2).bind fun r_5 => if r_5 = true then ((lattice_Leq l r_1.1.a0 r_1.1.a2).bind fun r_7 => if r_7 = true then ((lattice_Leq l r_1.1.a0 r_1.1.a0).bind fun r_9 => if r_9 = true then ((lattice_Leq l r_1.1.a0 r_1.1.a1).bind fun r_11 => if r_11 = true then ((lattice_Leq l r_1.1.a1 r_1.1.a0).bind fun r_13 => if r_13 = true then (if r_1.1.a0 = r_1.1.a1 then ((lazarettolaw01_awake).bind fun r_17 => some r_17) else (some false)) else ((lazarettolaw01_awake).bind fun r_19 => some r_19)) else ((lazarettolaw01_awake).bind fun r_20 => some r_20)) else (some false)) else (some false)) else ((lattice_Leq l r_1.1.a0 r_1.1.a0).bind fun r_21 => if r_21 = true then ((lattice_Leq l r_1.1.a0 r_1.1.a1).bind fun r_23 => if r_23 = true then ((lattice_Leq l r_1.1.a1 r_1.1.a0).bind fun r_25 => if r_25 = true then (if r_1.1.a0 = r_1.1.a1 then ((lazarettolaw01_awake).bind fun r_29 => some r_29) else (some false)) else ((lazarettolaw01_awake).bind fun r_31 => some r_31)) else ((lazarettolaw01_awake).bind fun r_32 => some r_32)) else (some false))) else ((lattice_Leq l r_1.1.a0 r_1.1.a0).bind fun r_33 => if r_33 = true then ((lattice_Leq l r_1.1.a0 r_1.1.a1).bind fun r_35 => if r_35 = true then ((lattice_Leq l r_1.1.a1 r_1.1.a0).bind fun r_37 => if r_37 = true then (if r_1.1.a0 = r_1.1.a1 then ((lazarettolaw01_awake).bind fun r_41 => some r_41) else (some false)) else ((lazarettolaw01_awake).bind fun r_43 => some r_43)) else ((lazarettolaw01_awake).bind fun r_44 => some r_44)) else (some false))) else ((lazarettolaw01_awake).bind fun r_45 => some r_45)
end
set_option maxRecDepth 100000 in
theorem lazarettoref01_Join_ok {l : api_Lattice} {a : Int} {b : Int} {r : Int} (h : lazarettoref01_Join l a b = some r) :
    Pu Try.prog 36 [.agg (e_api_Lattice l), .one (.int .i64 a), .one (.int .i64 b)] (.one (.int .i64 r)) := by
  refine pu_of_awp Try.func36 rfl (by kernel_rfl) (by kernel_rfl) (awp_of_S ?_)
  simp only [Try.f36]
  unfold lazarettoref01_Join at h
  obtain ⟨e_2, he_2, h⟩ := bind_inv h
  try simp -implicitDefEqProofs only [go_sem, simprocAttr]
  repeat (first | (with_reducible refine imp_i fun _ => ?_) | (with_reducible refine and_a ?_))
  refine purge_to [1, 2, 3, 7] 1 ((fun (s__ : Nat) (a__ : Unit) => match s__, a__ with | c_1, _ => ⟨[(1, .one (.int .i64 a)), (2, .one (.int .i64 b)), (3, .one (.ref 0 0 0 0)), (7, .one (.int .i64 (c_1 : Int)))], [.cells 0 2 [[.sl (l.Names.map eS), .sl (l.Below.map (eA2 eI))]]]⟩) 0 ()) (by simp) (by simp [go_sem]) (by simp [go_sem]) (by simp [go_sem, copyL, List.map_set] <;> omega) ?_
  refine loop_X (f := lazarettoref01_Join_L1 l a b) (s0 := 0) (fun (s__ : Nat) (a__ : Unit) => match s__, a__ with | c_1, _ => ⟨[(1, .one (.int .i64 a)), (2, .one (.int .i64 b)), (3, .one (.ref 0 0 0 0)), (7, .one (.int .i64 (c_1 : Int)))], [.cells 0 2 [[.sl (l.Names.map eS), .sl (l.Below.map (eA2 eI))]]]⟩) (fun (e__ : Int ⊕ Unit) (b__ : Unit) => match e__, b__ with | (.inl e_54), _ => ⟨[], []⟩ | (.inr ()), _ => ⟨[], [.cells 0 2 [[.sl (l.Names.map eS), .sl (l.Below.map (eA2 eI))]]]⟩) (fun (e__ : Int ⊕ Unit) => match e__ with | (.inl _) => none | (.inr _) => some 0) () he_2 ?_ ?_
  · intro i3 b3 hi3
    rcases e_2 with e_case | ⟨⟩
    · cases hi3
    · obtain rfl := Option.some.inj hi3
      obtain ⟨⟩ := b3
      dsimp only at h ⊢
      obtain rfl := Option.some.inj h
      try simp -implicitDefEqProofs only [go_sem, simprocAttr]
      all_goals (repeat (first | (with_reducible refine imp_i fun _ => ?_) | (with_reducible refine and_a ?_)))
      all_goals (try simp [go_sem])
  · intro af3 m3 c_1 a3 o3 hf3 ho3 ih3
    obtain ⟨⟩ := a3
    dsimp only [lazarettoref01_Join_L1] at hf3 ⊢ ih3
    try simp -implicitDefEqProofs only [go_sem, simprocAttr]
    repeat (first | (with_reducible refine imp_i fun _ => ?_) | (with_reducible refine and_a ?_))
    by_cases hc_4 : (c_1 : Int) < (l.Names.length : Int)
    · replace hf3 := if_t hc_4 hf3
      have hq_5 := eq_true hc_4
      have hn_6 : c_1 < l.Names.length := by omega
      obtain ⟨r_7, hr_7, hf3⟩ := bind_inv hf3
      try simp -implicitDefEqProofs only [go_sem, simprocAttr, hq_5, hn_6]
      repeat (first | (with_reducible refine imp_i fun _ => ?_) | (with_reducible refine and_a ?_))
      refine call_S (lazarettoref01_Leq_ok hr_7) (by simp [go_sem, hq_5, hn_6]) (by simp [go_sem]) (by simp [go_sem]) (by simp [go_sem]) ?_
      try simp -implicitDefEqProofs only [go_sem, simprocAttr, hq_5, hn_6]
      repeat (first | (with_reducible refine imp_i fun _ => ?_) | (with_reducible refine and_a ?_))
      by_cases hc_8 : r_7 = true
      · replace hf3 := if_t hc_8 hf3
        obtain ⟨r_9, hr_9, hf3⟩ := bind_inv hf3
        try simp -implicitDefEqProofs only [go_sem, simprocAttr, hq_5, hn_6, hc_8]
        repeat (first | (with_reducible refine imp_i fun _ => ?_) | (with_reducible refine and_a ?_))
        refine call_S (lazarettoref01_Leq_ok hr_9) (by simp [go_sem, hq_5, hn_6, hc_8]) (by simp [go_sem]) (by simp [go_sem]) (by simp [go_sem]) ?_
        obtain ⟨e_12, he_12, hf3⟩ := bind_inv hf3
        try simp -implicitDefEqProofs only [go_sem, simprocAttr, hq_5, hn_6, hc_8]
        repeat (first | (with_reducible refine imp_i fun _ => ?_) | (with_reducible refine and_a ?_))
        refine purge_to [1, 2, 3, 7, 8, 9] 1 ((fun (s__ : Bool × Nat) (a__ : Unit) => match s__, a__ with | (ok_10, d_11), _ => ⟨[(1, .one (.int .i64 a)), (2, .one (.int .i64 b)), (3, .one (.ref 0 0 0 0)), (7, .one (.int .i64 (c_1 : Int))), (8, .one (.bool ok_10)), (9, .one (.int .i64 (d_11 : Int)))], [.cells 0 2 [[.sl (l.Names.map eS), .sl (l.Below.map (eA2 eI))]]]⟩) (r_9, 0) ()) (by simp) (by simp [go_sem]) (by simp [go_sem]) (by simp [go_sem, copyL, List.map_set, hq_5, hn_6, hc_8] <;> omega) ?_
        refine loop_X (f := lazarettoref01_Join_L2 l a b c_1) (s0 := (r_9, 0)) (fun (s__ : Bool × Nat) (a__ : Unit) => match s__, a__ with | (ok_10, d_11), _ => ⟨[(1, .one (.int .i64 a)), (2, .one (.int .i64 b)), (3, .one (.ref 0 0 0 0)), (7, .one (.int .i64 (c_1 : Int))), (8, .one (.bool ok_10)), (9, .one (.int .i64 (d_11 : Int)))], [.cells 0 2 [[.sl (l.Names.map eS), .sl (l.Below.map (eA2 eI))]]]⟩) (fun (e__ : Bool) (b__ : Unit) => match e__, b__ with | e_12, _ => ⟨[(1, .one (.int .i64 a)), (2, .one (.int .i64 b)), (3, .one (.ref 0 0 0 0)), (7, .one (.int .i64 (c_1 : Int))), (8, .one (.bool e_12))], [.cells 0 2 [[.sl (l.Names.map eS), .sl (l.Below.map (eA2 eI))]]]⟩) (fun (_ : Bool) => some 2) () he_12 ?_ ?_
        · intro i13 b13 hi13
          obtain rfl := Option.some.inj hi13
          obtain ⟨⟩ := b13
          dsimp only at hf3 ⊢
          try simp -implicitDefEqProofs only [go_sem, simprocAttr, hq_5, hn_6, hc_8]
          repeat (first | (with_reducible refine imp_i fun _ => ?_) | (with_reducible refine and_a ?_))
          by_cases hc_29 : e_12 = true
          · replace hf3 := if_t hc_29 hf3
            obtain rfl := Option.some.inj hf3
            obtain rfl := Option.some.inj ho3
            try dsimp only at h
            obtain rfl := Option.some.inj h
            try simp -implicitDefEqProofs only [go_sem, simprocAttr, hq_5, hn_6, hc_8, hc_29]
            all_goals (repeat (first | (with_reducible refine imp_i fun _ => ?_) | (with_reducible refine and_a ?_)))
            all_goals (try simp [go_sem, hq_5, hn_6, hc_8, hc_29])
          · replace hf3 := if_f hc_29 hf3
            have hc_29 := nt_ hc_29
            obtain rfl := Option.some.inj hf3
            try simp -implicitDefEqProofs only [go_sem, simprocAttr, hq_5, hn_6, hc_8, hc_29]
            repeat (first | (with_reducible refine imp_i fun _ => ?_) | (with_reducible refine and_a ?_))
            have hw_30 := wrap_nat (k := c_1) (by omega)
            refine purge_P [1, 2, 3, 7] 1 ((fun (s__ : Nat) (a__ : Unit) => match s__, a__ with | c_1, _ => ⟨[(1, .one (.int .i64 a)), (2, .one (.int .i64 b)), (3, .one (.ref 0 0 0 0)), (7, .one (.int .i64 (c_1 : Int)))], [.cells 0 2 [[.sl (l.Names.map eS), .sl (l.Below.map (eA2 eI))]]]⟩) (c_1 + 1) ()) (by simp) (by simp [go_sem]) (by simp [go_sem]) (by simp [go_sem, copyL, List.map_set, hq_5, hn_6, hc_8, hc_29, hw_30] <;> omega) ?_
            exact ih3 (c_1 + 1) () ho3
        · intro af13 m13 s13 a13 o13 hf13 ho13 ih13
          obtain ⟨ok_10, d_11⟩ := s13
          obtain ⟨⟩ := a13
          dsimp only [lazarettoref01_Join_L2] at hf13 ⊢ ih13
          try simp -implicitDefEqProofs only [go_sem, simprocAttr, hq_5, hn_6, hc_8]
          repeat (first | (with_reducible refine imp_i fun _ => ?_) | (with_reducible refine and_a ?_))
          by_cases hc_14 : (d_11 : Int) < (l.Names.length : Int)
          · replace hf13 := if_t hc_14 hf13
            have hq_15 := eq_true hc_14
            have hn_16 : d_11 < l.Names.length := by omega
            try simp -implicitDefEqProofs only [go_sem, simprocAttr, hq_5, hn_6, hc_8, hq_15, hn_16]
            repeat (first | (with_reducible refine imp_i fun _ => ?_) | (with_reducible refine and_a ?_))
            by_cases hc_17 : ok_10 = true
            · replace hf13 := if_t hc_17 hf13
              obtain ⟨r_18, hr_18, hf13⟩ := bind_inv hf13
              try simp -implicitDefEqProofs only [go_sem, simprocAttr, hq_5, hn_6, hc_8, hq_15, hn_16, hc_17]
              repeat (first | (with_reducible refine imp_i fun _ => ?_) | (with_reducible refine and_a ?_))
              refine call_S (lazarettoref01_Leq_ok hr_18) (by simp [go_sem, hq_5, hn_6, hc_8, hq_15, hn_16, hc_17]) (by simp [go_sem]) (by simp [go_sem]) (by simp [go_sem]) ?_
              try simp -implicitDefEqProofs only [go_sem, simprocAttr, hq_5, hn_6, hc_8, hq_15, hn_16, hc_17]
              repeat (first | (with_reducible refine imp_i fun _ => ?_) | (with_reducible refine and_a ?_))
              by_cases hc_19 : r_18 = true
              · replace hf13 := if_t hc_19 hf13
                obtain ⟨r_20, hr_20, hf13⟩ := bind_inv hf13
                try simp -implicitDefEqProofs only [go_sem, simprocAttr, hq_5, hn_6, hc_8, hq_15, hn_16, hc_17, hc_19]
                repeat (first | (with_reducible refine imp_i fun _ => ?_) | (with_reducible refine and_a ?_))
                refine call_S (lazarettoref01_Leq_ok hr_20) (by simp [go_sem, hq_5, hn_6, hc_8, hq_15, hn_16, hc_17, hc_19]) (by simp [go_sem]) (by simp [go_sem]) (by simp [go_sem]) ?_
                try simp -implicitDefEqProofs only [go_sem, simprocAttr, hq_5, hn_6, hc_8, hq_15, hn_16, hc_17, hc_19]
                repeat (first | (with_reducible refine imp_i fun _ => ?_) | (with_reducible refine and_a ?_))
                by_cases hc_21 : r_20 = true
                · replace hf13 := if_t hc_21 hf13
                  obtain ⟨r_22, hr_22, hf13⟩ := bind_inv hf13
                  try simp -implicitDefEqProofs only [go_sem, simprocAttr, hq_5, hn_6, hc_8, hq_15, hn_16, hc_17, hc_19, hc_21]
                  repeat (first | (with_reducible refine imp_i fun _ => ?_) | (with_reducible refine and_a ?_))
                  refine call_S (lazarettoref01_Leq_ok hr_22) (by simp [go_sem, hq_5, hn_6, hc_8, hq_15, hn_16, hc_17, hc_19, hc_21]) (by simp [go_sem]) (by simp [go_sem]) (by simp [go_sem]) ?_
                  obtain rfl := Option.some.inj hf13
                  try simp -implicitDefEqProofs only [go_sem, simprocAttr, hq_5, hn_6, hc_8, hq_15, hn_16, hc_17, hc_19, hc_21]
                  repeat (first | (with_reducible refine imp_i fun _ => ?_) | (with_reducible refine and_a ?_))
                  have hw_23 := wrap_nat (k := d_11) (by omega)
                  refine purge_P [1, 2, 3, 7, 8, 9] 1 ((fun (s__ : Bool × Nat) (a__ : Unit) => match s__, a__ with | (ok_10, d_11), _ => ⟨[(1, .one (.int .i64 a)), (2, .one (.int .i64 b)), (3, .one (.ref 0 0 0 0)), (7, .one (.int .i64 (c_1 : Int))), (8, .one (.bool ok_10)), (9, .one (.int .i64 (d_11 : Int)))], [.cells 0 2 [[.sl (l.Names.map eS), .sl (l.Below.map (eA2 eI))]]]⟩) (r_22, (d_11 + 1)) ()) (by simp) (by simp [go_sem]) (by simp [go_sem]) (by simp [go_sem, copyL, List.map_set, hq_5, hn_6, hc_8, hq_15, hn_16, hc_17, hc_19, hc_21, hw_23] <;> omega) ?_
                  exact ih13 (r_22, (d_11 + 1)) () ho13
                · replace hf13 := if_f hc_21 hf13
                  have hc_21 := nt_ hc_21
                  obtain rfl := Option.some.inj hf13
                  try simp -implicitDefEqProofs only [go_sem, simprocAttr, hq_5, hn_6, hc_8, hq_15, hn_16, hc_17, hc_19, hc_21]
                  repeat (first | (with_reducible refine imp_i fun _ => ?_) | (with_reducible refine and_a ?_))
                  have hw_24 := wrap_nat (k := d_11) (by omega)
                  refine purge_P [1, 2, 3, 7, 8, 9] 1 ((fun (s__ : Bool × Nat) (a__ : Unit) => match s__, a__ with | (ok_10, d_11), _ => ⟨[(1, .one (.int .i64 a)), (2, .one (.int .i64 b)), (3, .one (.ref 0 0 0 0)), (7, .one (.int .i64 (c_1 : Int))), (8, .one (.bool ok_10)), (9, .one (.int .i64 (d_11 : Int)))], [.cells 0 2 [[.sl (l.Names.map eS), .sl (l.Below.map (eA2 eI))]]]⟩) (true, (d_11 + 1)) ()) (by simp) (by simp [go_sem]) (by simp [go_sem]) (by simp [go_sem, copyL, List.map_set, hq_5, hn_6, hc_8, hq_15, hn_16, hc_17, hc_19, hc_21, hw_24] <;> omega) ?_
                  exact ih13 (true, (d_11 + 1)) () ho13
              · replace hf13 := if_f hc_19 hf13
                have hc_19 := nt_ hc_19
                obtain rfl := Option.some.inj hf13
                try simp -implicitDefEqProofs only [go_sem, simprocAttr, hq_5, hn_6, hc_8, hq_15, hn_16, hc_17, hc_19]
                repeat (first | (with_reducible refine imp_i fun _ => ?_) | (with_reducible refine and_a ?_))
                have hw_25 := wrap_nat (k := d_11) (by omega)
                refine purge_P [1, 2, 3, 7, 8, 9] 1 ((fun (s__ : Bool × Nat) (a__ : Unit) => match s__, a__ with | (ok_10, d_11), _ => ⟨[(1, .one (.int .i64 a)), (2, .one (.int .i64 b)), (3, .one (.ref 0 0 0 0)), (7, .one (.int .i64 (c_1 : Int))), (8, .one (.bool ok_10)), (9, .one (.int .i64 (d_11 : Int)))], [.cells 0 2 [[.sl (l.Names.map eS), .sl (l.Below.map (eA2 eI))]]]⟩) (true, (d_11 + 1)) ()) (by simp) (by simp [go_sem]) (by simp [go_sem]) (by simp [go_sem, copyL, List.map_set, hq_5, hn_6, hc_8, hq_15, hn_16, hc_17, hc_19, hw_25] <;> omega) ?_
                exact ih13 (true, (d_11 + 1)) () ho13
            · replace hf13 := if_f hc_17 hf13
              have hc_17 := nt_ hc_17
              obtain rfl := Option.some.inj hf13
              obtain rfl := Option.some.inj ho13
              try simp -implicitDefEqProofs only [go_sem, simprocAttr, hq_5, hn_6, hc_8, hq_15, hn_16, hc_17]
              repeat (first | (with_reducible refine imp_i fun _ => ?_) | (with_reducible refine and_a ?_))
              refine purge_E [1, 2, 3, 7, 8] 1 ((fun (e__ : Bool) (b__ : Unit) => match e__, b__ with | e_12, _ => ⟨[(1, .one (.int .i64 a)), (2, .one (.int .i64 b)), (3, .one (.ref 0 0 0 0)), (7, .one (.int .i64 (c_1 : Int))), (8, .one (.bool e_12))], [.cells 0 2 [[.sl (l.Names.map eS), .sl (l.Below.map (eA2 eI))]]]⟩) ok_10 ()) (by simp) (by simp [go_sem]) (by simp [go_sem]) (by simp [go_sem, copyL, List.map_set, hq_5, hn_6, hc_8, hq_15, hn_16, hc_17] <;> omega) ?_
              exact af13 _ () rfl
          · replace hf13 := if_f hc_14 hf13
            have hq_26 := eq_false hc_14
            have hn_27 : ¬ d_11 < l.Names.length := by omega
            obtain rfl := Option.some.inj hf13
            obtain rfl := Option.some.inj ho13
            try simp -implicitDefEqProofs only [go_sem, simprocAttr, hq_5, hn_6, hc_8, hq_26, hn_27]
            repeat (first | (with_reducible refine imp_i fun _ => ?_) | (with_reducible refine and_a ?_))
            refine purge_E [1, 2, 3, 7, 8] 1 ((fun (e__ : Bool) (b__ : Unit) => match e__, b__ with | e_12, _ => ⟨[(1, .one (.int .i64 a)), (2, .one (.int .i64 b)), (3, .one (.ref 0 0 0 0)), (7, .one (.int .i64 (c_1 : Int))), (8, .one (.bool e_12))], [.cells 0 2 [[.sl (l.Names.map eS), .sl (l.Below.map (eA2 eI))]]]⟩) ok_10 ()) (by simp) (by simp [go_sem]) (by simp [go_sem]) (by simp [go_sem, copyL, List.map_set, hq_5, hn_6, hc_8, hq_26, hn_27] <;> omega) ?_
            exact af13 _ () rfl
      · replace hf3 := if_f hc_8 hf3
        have hc_8 := nt_ hc_8
        obtain ⟨e_33, he_33, hf3⟩ := bind_inv hf3
        try simp -implicitDefEqProofs only [go_sem, simprocAttr, hq_5, hn_6, hc_8]
        repeat (first | (with_reducible refine imp_i fun _ => ?_) | (with_reducible refine and_a ?_))
        refine purge_to [1, 2, 3, 7, 8, 9] 1 ((fun (s__ : Bool × Nat) (a__ : Unit) => match s__, a__ with | (ok_31, d_32), _ => ⟨[(1, .one (.int .i64 a)), (2, .one (.int .i64 b)), (3, .one (.ref 0 0 0 0)), (7, .one (.int .i64 (c_1 : Int))), (8, .one (.bool ok_31)), (9, .one (.int .i64 (d_32 : Int)))], [.cells 0 2 [[.sl (l.Names.map eS), .sl (l.Below.map (eA2 eI))]]]⟩) (false, 0) ()) (by simp) (by simp [go_sem]) (by simp [go_sem]) (by simp [go_sem, copyL, List.map_set, hq_5, hn_6, hc_8] <;> omega) ?_
        refine loop_X (f := lazarettoref01_Join_L3 l a b c_1) (s0 := (false, 0)) (fun (s__ : Bool × Nat) (a__ : Unit) => match s__, a__ with | (ok_31, d_32), _ => ⟨[(1, .one (.int .i64 a)), (2, .one (.int .i64 b)), (3, .one (.ref 0 0 0 0)), (7, .one (.int .i64 (c_1 : Int))), (8, .one (.bool ok_31)), (9, .one (.int .i64 (d_32 : Int)))], [.cells 0 2 [[.sl (l.Names.map eS), .sl (l.Below.map (eA2 eI))]]]⟩) (fun (e__ : Bool) (b__ : Unit) => match e__, b__ with | e_33, _ => ⟨[(1, .one (.int .i64 a)), (2, .one (.int .i64 b)), (3, .one (.ref 0 0 0 0)), (7, .one (.int .i64 (c_1 : Int))), (8, .one (.bool e_33))], [.cells 0 2 [[.sl (l.Names.map eS), .sl (l.Below.map (eA2 eI))]]]⟩) (fun (_ : Bool) => some 2) () he_33 ?_ ?_
        · intro i34 b34 hi34
          obtain rfl := Option.some.inj hi34
          obtain ⟨⟩ := b34
          dsimp only at hf3 ⊢
          try simp -implicitDefEqProofs only [go_sem, simprocAttr, hq_5, hn_6, hc_8]
          repeat (first | (with_reducible refine imp_i fun _ => ?_) | (with_reducible refine and_a ?_))
          by_cases hc_50 : e_33 = true
          · replace hf3 := if_t hc_50 hf3
            obtain rfl := Option.some.inj hf3
            obtain rfl := Option.some.inj ho3
            try dsimp only at h
            obtain rfl := Option.some.inj h
            try simp -implicitDefEqProofs only [go_sem, simprocAttr, hq_5, hn_6, hc_8, hc_50]
            all_goals (repeat (first | (with_reducible refine imp_i fun _ => ?_) | (with_reducible refine and_a ?_)))
            all_goals (try simp [go_sem, hq_5, hn_6, hc_8, hc_50])
          · replace hf3 := if_f hc_50 hf3
            have hc_50 := nt_ hc_50
            obtain rfl := Option.some.inj hf3
            try simp -implicitDefEqProofs only [go_sem, simprocAttr, hq_5, hn_6, hc_8, hc_50]
            repeat (first | (with_reducible refine imp_i fun _ => ?_) | (with_reducible refine and_a ?_))
            have hw_51 := wrap_nat (k := c_1) (by omega)
            refine purge_P [1, 2, 3, 7] 1 ((fun (s__ : Nat) (a__ : Unit) => match s__, a__ with | c_1, _ => ⟨[(1, .one (.int .i64 a)), (2, .one (.int .i64 b)), (3, .one (.ref 0 0 0 0)), (7, .one (.int .i64 (c_1 : Int)))], [.cells 0 2 [[.sl (l.Names.map eS), .sl (l.Below.map (eA2 eI))]]]⟩) (c_1 + 1) ()) (by simp) (by simp [go_sem]) (by simp [go_sem]) (by simp [go_sem, copyL, List.map_set, hq_5, hn_6, hc_8, hc_50, hw_51] <;> omega) ?_
            exact ih3 (c_1 + 1) () ho3
        · intro af34 m34 s34 a34 o34 hf34 ho34 ih34
          obtain ⟨ok_31, d_32⟩ := s34
          obtain ⟨⟩ := a34
          dsimp only [lazarettoref01_Join_L3] at hf34 ⊢ ih34
          try simp -implicitDefEqProofs only [go_sem, simprocAttr, hq_5, hn_6, hc_8]
          repeat (first | (with_reducible refine imp_i fun _ => ?_) | (with_reducible refine and_a ?_))
          by_cases hc_35 : (d_32 : Int) < (l.Names.length : Int)
          · replace hf34 := if_t hc_35 hf34
            have hq_36 := eq_true hc_35
            have hn_37 : d_32 < l.Names.length := by omega
            try simp -implicitDefEqProofs only [go_sem, simprocAttr, hq_5, hn_6, hc_8, hq_36, hn_37]
            repeat (first | (with_reducible refine imp_i fun _ => ?_) | (with_reducible refine and_a ?_))
            by_cases hc_38 : ok_31 = true
            · replace hf34 := if_t hc_38 hf34
              obtain ⟨r_39, hr_39, hf34⟩ := bind_inv hf34
              try simp -implicitDefEqProofs only [go_sem, simprocAttr, hq_5, hn_6, hc_8, hq_36, hn_37, hc_38]
              repeat (first | (with_reducible refine imp_i fun _ => ?_) | (with_reducible refine and_a ?_))
              refine call_S (lazarettoref01_Leq_ok hr_39) (by simp [go_sem, hq_5, hn_6, hc_8, hq_36, hn_37, hc_38]) (by simp [go_sem]) (by simp [go_sem]) (by simp [go_sem]) ?_
              try simp -implicitDefEqProofs only [go_sem, simprocAttr, hq_5, hn_6, hc_8, hq_36, hn_37, hc_38]
              repeat (first | (with_reducible refine imp_i fun _ => ?_) | (with_reducible refine and_a ?_))
              by_cases hc_40 : r_39 = true
              · replace hf34 := if_t hc_40 hf34
                obtain ⟨r_41, hr_41, hf34⟩ := bind_inv hf34
                try simp -implicitDefEqProofs only [go_sem, simprocAttr, hq_5, hn_6, hc_8, hq_36, hn_37, hc_38, hc_40]
                repeat (first | (with_reducible refine imp_i fun _ => ?_) | (with_reducible refine and_a ?_))
                refine call_S (lazarettoref01_Leq_ok hr_41) (by simp [go_sem, hq_5, hn_6, hc_8, hq_36, hn_37, hc_38, hc_40]) (by simp [go_sem]) (by simp [go_sem]) (by simp [go_sem]) ?_
                try simp -implicitDefEqProofs only [go_sem, simprocAttr, hq_5, hn_6, hc_8, hq_36, hn_37, hc_38, hc_40]
                repeat (first | (with_reducible refine imp_i fun _ => ?_) | (with_reducible refine and_a ?_))
                by_cases hc_42 : r_41 = true
                · replace hf34 := if_t hc_42 hf34
                  obtain ⟨r_43, hr_43, hf34⟩ := bind_inv hf34
                  try simp -implicitDefEqProofs only [go_sem, simprocAttr, hq_5, hn_6, hc_8, hq_36, hn_37, hc_38, hc_40, hc_42]
                  repeat (first | (with_reducible refine imp_i fun _ => ?_) | (with_reducible refine and_a ?_))
                  refine call_S (lazarettoref01_Leq_ok hr_43) (by simp [go_sem, hq_5, hn_6, hc_8, hq_36, hn_37, hc_38, hc_40, hc_42]) (by simp [go_sem]) (by simp [go_sem]) (by simp [go_sem]) ?_
                  obtain rfl := Option.some.inj hf34
                  try simp -implicitDefEqProofs only [go_sem, simprocAttr, hq_5, hn_6, hc_8, hq_36, hn_37, hc_38, hc_40, hc_42]
                  repeat (first | (with_reducible refine imp_i fun _ => ?_) | (with_reducible refine and_a ?_))
                  have hw_44 := wrap_nat (k := d_32) (by omega)
                  refine purge_P [1, 2, 3, 7, 8, 9] 1 ((fun (s__ : Bool × Nat) (a__ : Unit) => match s__, a__ with | (ok_31, d_32), _ => ⟨[(1, .one (.int .i64 a)), (2, .one (.int .i64 b)), (3, .one (.ref 0 0 0 0)), (7, .one (.int .i64 (c_1 : Int))), (8, .one (.bool ok_31)), (9, .one (.int .i64 (d_32 : Int)))], [.cells 0 2 [[.sl (l.Names.map eS), .sl (l.Below.map (eA2 eI))]]]⟩) (r_43, (d_32 + 1)) ()) (by simp) (by simp [go_sem]) (by simp [go_sem]) (by simp [go_sem, copyL, List.map_set, hq_5, hn_6, hc_8, hq_36, hn_37, hc_38, hc_40, hc_42, hw_44] <;> omega) ?_
                  exact ih34 (r_43, (d_32 + 1)) () ho34
                · replace hf34 := if_f hc_42 hf34
                  have hc_42 := nt_ hc_42
                  obtain rfl := Option.some.inj hf34
                  try simp -implicitDefEqProofs only [go_sem, simprocAttr, hq_5, hn_6, hc_8, hq_36, hn_37, hc_38, hc_40, hc_42]
                  repeat (first | (with_reducible refine imp_i fun _ => ?_) | (with_reducible refine and_a ?_))
                  have hw_45 := wrap_nat (k := d_32) (by omega)
                  refine purge_P [1, 2, 3, 7, 8, 9] 1 ((fun (s__ : Bool × Nat) (a__ : Unit) => match s__, a__ with | (ok_31, d_32), _ => ⟨[(1, .one (.int .i64 a)), (2, .one (.int .i64 b)), (3, .one (.ref 0 0 0 0)), (7, .one (.int .i64 (c_1 : Int))), (8, .one (.bool ok_31)), (9, .one (.int .i64 (d_32 : Int)))], [.cells 0 2 [[.sl (l.Names.map eS), .sl (l.Below.map (eA2 eI))]]]⟩) (true, (d_32 + 1)) ()) (by simp) (by simp [go_sem]) (by simp [go_sem]) (by simp [go_sem, copyL, List.map_set, hq_5, hn_6, hc_8, hq_36, hn_37, hc_38, hc_40, hc_42, hw_45] <;> omega) ?_
                  exact ih34 (true, (d_32 + 1)) () ho34
              · replace hf34 := if_f hc_40 hf34
                have hc_40 := nt_ hc_40
                obtain rfl := Option.some.inj hf34
                try simp -implicitDefEqProofs only [go_sem, simprocAttr, hq_5, hn_6, hc_8, hq_36, hn_37, hc_38, hc_40]
                repeat (first | (with_reducible refine imp_i fun _ => ?_) | (with_reducible refine and_a ?_))
                have hw_46 := wrap_nat (k := d_32) (by omega)
                refine purge_P [1, 2, 3, 7, 8, 9] 1 ((fun (s__ : Bool × Nat) (a__ : Unit) => match s__, a__ with | (ok_31, d_32), _ => ⟨[(1, .one (.int .i64 a)), (2, .one (.int .i64 b)), (3, .one (.ref 0 0 0 0)), (7, .one (.int .i64 (c_1 : Int))), (8, .one (.bool ok_31)), (9, .one (.int .i64 (d_32 : Int)))], [.cells 0 2 [[.sl (l.Names.map eS), .sl (l.Below.map (eA2 eI))]]]⟩) (true, (d_32 + 1)) ()) (by simp) (by simp [go_sem]) (by simp [go_sem]) (by simp [go_sem, copyL, List.map_set, hq_5, hn_6, hc_8, hq_36, hn_37, hc_38, hc_40, hw_46] <;> omega) ?_
                exact ih34 (true, (d_32 + 1)) () ho34
            · replace hf34 := if_f hc_38 hf34
              have hc_38 := nt_ hc_38
              obtain rfl := Option.some.inj hf34
              obtain rfl := Option.some.inj ho34
              try simp -implicitDefEqProofs only [go_sem, simprocAttr, hq_5, hn_6, hc_8, hq_36, hn_37, hc_38]
              repeat (first | (with_reducible refine imp_i fun _ => ?_) | (with_reducible refine and_a ?_))
              refine purge_E [1, 2, 3, 7, 8] 1 ((fun (e__ : Bool) (b__ : Unit) => match e__, b__ with | e_33, _ => ⟨[(1, .one (.int .i64 a)), (2, .one (.int .i64 b)), (3, .one (.ref 0 0 0 0)), (7, .one (.int .i64 (c_1 : Int))), (8, .one (.bool e_33))], [.cells 0 2 [[.sl (l.Names.map eS), .sl (l.Below.map (eA2 eI))]]]⟩) ok_31 ()) (by simp) (by simp [go_sem]) (by simp [go_sem]) (by simp [go_sem, copyL, List.map_set, hq_5, hn_6, hc_8, hq_36, hn_37, hc_38] <;> omega) ?_
              exact af34 _ () rfl
          · replace hf34 := if_f hc_35 hf34
            have hq_47 := eq_false hc_35
            have hn_48 : ¬ d_32 < l.Names.length := by omega
            obtain rfl := Option.some.inj hf34
            obtain rfl := Option.some.inj ho34
            try simp -implicitDefEqProofs only [go_sem, simprocAttr, hq_5, hn_6, hc_8, hq_47, hn_48]
            repeat (first | (with_reducible refine imp_i fun _ => ?_) | (with_reducible refine and_a ?_))
            refine purge_E [1, 2, 3, 7, 8] 1 ((fun (e__ : Bool) (b__ : Unit) => match e__, b__ with | e_33, _ => ⟨[(1, .one (.int .i64 a)), (2, .one (.int .i64 b)), (3, .one (.ref 0 0 0 0)), (7, .one (.int .i64 (c_1 : Int))), (8, .one (.bool e_33))], [.cells 0 2 [[.sl (l.Names.map eS), .sl (l.Below.map (eA2 eI))]]]⟩) ok_31 ()) (by simp) (by simp [go_sem]) (by simp [go_sem]) (by simp [go_sem, copyL, List.map_set, hq_5, hn_6, hc_8, hq_47, hn_48] <;> omega) ?_
            exact af34 _ () rfl
    · replace hf3 := if_f hc_4 hf3
      have hq_52 := eq_false hc_4
      have hn_53 : ¬ c_1 < l.Names.length := by omega
      obtain rfl := Option.some.inj hf3
      obtain rfl := Option.some.inj ho3
      try simp -implicitDefEqProofs only [go_sem, simprocAttr, hq_52, hn_53]
      repeat (first | (with_reducible refine imp_i fun _ => ?_) | (with_reducible refine and_a ?_))
      refine purge_E [] 1 ((fun (e__ : Int ⊕ Unit) (b__ : Unit) => match e__, b__ with | (.inl e_54), _ => ⟨[], []⟩ | (.inr ()), _ => ⟨[], [.cells 0 2 [[.sl (l.Names.map eS), .sl (l.Below.map (eA2 eI))]]]⟩) (.inr ()) ()) (by simp) (by simp [go_sem]) (by simp [go_sem]) (by simp [go_sem, copyL, List.map_set, hq_52, hn_53] <;> omega) ?_
      exact af3 _ () rfl
set_option maxRecDepth 100000 in
theorem lazarettoref01_Meet_ok {l : api_Lattice} {a : Int} {b : Int} {r : Int} (h : lazarettoref01_Meet l a b = some r) :
    Pu Try.prog 38 [.agg (e_api_Lattice l), .one (.int .i64 a), .one (.int .i64 b)] (.one (.int .i64 r)) := by
  refine pu_of_awp Try.func38 rfl (by kernel_rfl) (by kernel_rfl) (awp_of_S ?_)
  simp only [Try.f38]
  unfold lazarettoref01_Meet at h
  obtain ⟨e_2, he_2, h⟩ := bind_inv h
  try simp -implicitDefEqProofs only [go_sem, simprocAttr]
  repeat (first | (with_reducible refine imp_i fun _ => ?_) | (with_reducible refine and_a ?_))
  refine purge_to [1, 2, 3, 7] 1 ((fun (s__ : Nat) (a__ : Unit) => match s__, a__ with | c_1, _ => ⟨[(1, .one (.int .i64 a)), (2, .one (.int .i64 b)), (3, .one (.ref 0 0 0 0)), (7, .one (.int .i64 (c_1 : Int)))], [.cells 0 2 [[.sl (l.Names.map eS), .sl (l.Below.map (eA2 eI))]]]⟩) 0 ()) (by simp) (by simp [go_sem]) (by simp [go_sem]) (by simp [go_sem, copyL, List.map_set] <;> omega) ?_
  refine loop_X (f := lazarettoref01_Meet_L1 l a b) (s0 := 0) (fun (s__ : Nat) (a__ : Unit) => match s__, a__ with | c_1, _ => ⟨[(1, .one (.int .i64 a)), (2, .one (.int .i64 b)), (3, .one (.ref 0 0 0 0)), (7, .one (.int .i64 (c_1 : Int)))], [.cells 0 2 [[.sl (l.Names.map eS), .sl (l.Below.map (eA2 eI))]]]⟩) (fun (e__ : Int ⊕ Unit) (b__ : Unit) => match e__, b__ with | (.inl e_54), _ => ⟨[], []⟩ | (.inr ()), _ => ⟨[], [.cells 0 2 [[.sl (l.Names.map eS), .sl (l.Below.map (eA2 eI))]]]⟩) (fun (e__ : Int ⊕ Unit) => match e__ with | (.inl _) => none | (.inr _) => some 0) () he_2 ?_ ?_
  · intro i3 b3 hi3
    rcases e_2 with e_case | ⟨⟩
    · cases hi3
    · obtain rfl := Option.some.inj hi3
      obtain ⟨⟩ := b3
      dsimp only at h ⊢
      obtain rfl := Option.some.inj h
      try simp -implicitDefEqProofs only [go_sem, simprocAttr]
      all_goals (repeat (first | (with_reducible refine imp_i fun _ => ?_) | (with_reducible refine and_a ?_)))
      all_goals (try simp [go_sem])
  · intro af3 m3 c_1 a3 o3 hf3 ho3 ih3
    obtain ⟨⟩ := a3
    dsimp only [lazarettoref01_Meet_L1] at hf3 ⊢ ih3
    try simp -implicitDefEqProofs only [go_sem, simprocAttr]
    repeat (first | (with_reducible refine imp_i fun _ => ?_) | (with_reducible refine and_a ?_))
    by_cases hc_4 : (c_1 : Int) < (l.Names.length : Int)
    · replace hf3 := if_t hc_4 hf3
      have hq_5 := eq_true hc_4
      have hn_6 : c_1 < l.Names.length := by omega
      obtain ⟨r_7, hr_7, hf3⟩ := bind_inv hf3
      try simp -implicitDefEqProofs only [go_sem, simprocAttr, hq_5, hn_6]
      repeat (first | (with_reducible refine imp_i fun _ => ?_) | (with_reducible refine and_a ?_))
      refine call_S (lazarettoref01_Leq_ok hr_7) (by simp [go_sem, hq_5, hn_6]) (by simp [go_sem]) (by simp [go_sem]) (by simp [go_sem]) ?_
      try simp -implicitDefEqProofs only [go_sem, simprocAttr, hq_5, hn_6]
      repeat (first | (with_reducible refine imp_i fun _ => ?_) | (with_reducible refine and_a ?_))
      by_cases hc_8 : r_7 = true
      · replace hf3 := if_t hc_8 hf3
        obtain ⟨r_9, hr_9, hf3⟩ := bind_inv hf3
        try simp -implicitDefEqProofs only [go_sem, simprocAttr, hq_5, hn_6, hc_8]
        repeat (first | (with_reducible refine imp_i fun _ => ?_) | (with_reducible refine and_a ?_))
        refine call_S (lazarettoref01_Leq_ok hr_9) (by simp [go_sem, hq_5, hn_6, hc_8]) (by simp [go_sem]) (by simp [go_sem]) (by simp [go_sem]) ?_
        obtain ⟨e_12, he_12, hf3⟩ := bind_inv hf3
        try simp -implicitDefEqProofs only [go_sem, simprocAttr, hq_5, hn_6, hc_8]
        repeat (first | (with_reducible refine imp_i fun _ => ?_) | (with_reducible refine and_a ?_))
        refine purge_to [1, 2, 3, 7, 8, 9] 1 ((fun (s__ : Bool × Nat) (a__ : Unit) => match s__, a__ with | (ok_10, d_11), _ => ⟨[(1, .one (.int .i64 a)), (2, .one (.int .i64 b)), (3, .one (.ref 0 0 0 0)), (7, .one (.int .i64 (c_1 : Int))), (8, .one (.bool ok_10)), (9, .one (.int .i64 (d_11 : Int)))], [.cells 0 2 [[.sl (l.Names.map eS), .sl (l.Below.map (eA2 eI))]]]⟩) (r_9, 0) ()) (by simp) (by simp [go_sem]) (by simp [go_sem]) (by simp [go_sem, copyL, List.map_set, hq_5, hn_6, hc_8] <;> omega) ?_
        refine loop_X (f := lazarettoref01_Meet_L2 l a b c_1) (s0 := (r_9, 0)) (fun (s__ : Bool × Nat) (a__ : Unit) => match s__, a__ with | (ok_10, d_11), _ => ⟨[(1, .one (.int .i64 a)), (2, .one (.int .i64 b)), (3, .one (.ref 0 0 0 0)), (7, .one (.int .i64 (c_1 : Int))), (8, .one (.bool ok_10)), (9, .one (.int .i64 (d_11 : Int)))], [.cells 0 2 [[.sl (l.Names.map eS), .sl (l.Below.map (eA2 eI))]]]⟩) (fun (e__ : Bool) (b__ : Unit) => match e__, b__ with | e_12, _ => ⟨[(1, .one (.int .i64 a)), (2, .one (.int .i64 b)), (3, .one (.ref 0 0 0 0)), (7, .one (.int .i64 (c_1 : Int))), (8, .one (.bool e_12))], [.cells 0 2 [[.sl (l.Names.map eS), .sl (l.Below.map (eA2 eI))]]]⟩) (fun (_ : Bool) => some 2) () he_12 ?_ ?_
        · intro i13 b13 hi13
          obtain rfl := Option.some.inj hi13
          obtain ⟨⟩ := b13
          dsimp only at hf3 ⊢
          try simp -implicitDefEqProofs only [go_sem, simprocAttr, hq_5, hn_6, hc_8]
          repeat (first | (with_reducible refine imp_i fun _ => ?_) | (with_reducible refine and_a ?_))
          by_cases hc_29 : e_12 = true
          · replace hf3 := if_t hc_29 hf3
            obtain rfl := Option.some.inj hf3
            obtain rfl := Option.some.inj ho3
            try dsimp only at h
            obtain rfl := Option.some.inj h
            try simp -implicitDefEqProofs only [go_sem, simprocAttr, hq_5, hn_6, hc_8, hc_29]
            all_goals (repeat (first | (with_reducible refine imp_i fun _ => ?_) | (with_reducible refine and_a ?_)))
            all_goals (try simp [go_sem, hq_5, hn_6, hc_8, hc_29])
          · replace hf3 := if_f hc_29 hf3
            have hc_29 := nt_ hc_29
            obtain rfl := Option.some.inj hf3
            try simp -implicitDefEqProofs only [go_sem, simprocAttr, hq_5, hn_6, hc_8, hc_29]
            repeat (first | (with_reducible refine imp_i fun _ => ?_) | (with_reducible refine and_a ?_))
            have hw_30 := wrap_nat (k := c_1) (by omega)
            refine purge_P [1, 2, 3, 7] 1 ((fun (s__ : Nat) (a__ : Unit) => match s__, a__ with | c_1, _ => ⟨[(1, .one (.int .i64 a)), (2, .one (.int .i64 b)), (3, .one (.ref 0 0 0 0)), (7, .one (.int .i64 (c_1 : Int)))], [.cells 0 2 [[.sl (l.Names.map eS), .sl (l.Below.map (eA2 eI))]]]⟩) (c_1 + 1) ()) (by simp) (by simp [go_sem]) (by simp [go_sem]) (by simp [go_sem, copyL, List.map_set, hq_5, hn_6, hc_8, hc_29, hw_30] <;> omega) ?_
            exact ih3 (c_1 + 1) () ho3
        · intro af13 m13 s13 a13 o13 hf13 ho13 ih13
          obtain ⟨ok_10, d_11⟩ := s13
          obtain ⟨⟩ := a13
          dsimp only [lazarettoref01_Meet_L2] at hf13 ⊢ ih13
          try simp -implicitDefEqProofs only [go_sem, simprocAttr, hq_5, hn_6, hc_8]
          repeat (first | (with_reducible refine imp_i fun _ => ?_) | (with_reducible refine and_a ?_))
          by_cases hc_14 : (d_11 : Int) < (l.Names.length : Int)
          · replace hf13 := if_t hc_14 hf13
            have hq_15 := eq_true hc_14
            have hn_16 : d_11 < l.Names.length := by omega
            try simp -implicitDefEqProofs only [go_sem, simprocAttr, hq_5, hn_6, hc_8, hq_15, hn_16]
            repeat (first | (with_reducible refine imp_i fun _ => ?_) | (with_reducible refine and_a ?_))
            by_cases hc_17 : ok_10 = true
            · replace hf13 := if_t hc_17 hf13
              obtain ⟨r_18, hr_18, hf13⟩ := bind_inv hf13
              try simp -implicitDefEqProofs only [go_sem, simprocAttr, hq_5, hn_6, hc_8, hq_15, hn_16, hc_17]
              repeat (first | (with_reducible refine imp_i fun _ => ?_) | (with_reducible refine and_a ?_))
              refine call_S (lazarettoref01_Leq_ok hr_18) (by simp [go_sem, hq_5, hn_6, hc_8, hq_15, hn_16, hc_17]) (by simp [go_sem]) (by simp [go_sem]) (by simp [go_sem]) ?_
              try simp -implicitDefEqProofs only [go_sem, simprocAttr, hq_5, hn_6, hc_8, hq_15, hn_16, hc_17]
              repeat (first | (with_reducible refine imp_i fun _ => ?_) | (with_reducible refine and_a ?_))
              by_cases hc_19 : r_18 = true
              · replace hf13 := if_t hc_19 hf13
                obtain ⟨r_20, hr_20, hf13⟩ := bind_inv hf13
                try simp -implicitDefEqProofs only [go_sem, simprocAttr, hq_5, hn_6, hc_8, hq_15, hn_16, hc_17, hc_19]
                repeat (first | (with_reducible refine imp_i fun _ => ?_) | (with_reducible refine and_a ?_))
                refine call_S (lazarettoref01_Leq_ok hr_20) (by simp [go_sem, hq_5, hn_6, hc_8, hq_15, hn_16, hc_17, hc_19]) (by simp [go_sem]) (by simp [go_sem]) (by simp [go_sem]) ?_
                try simp -implicitDefEqProofs only [go_sem, simprocAttr, hq_5, hn_6, hc_8, hq_15, hn_16, hc_17, hc_19]
                repeat (first | (with_reducible refine imp_i fun _ => ?_) | (with_reducible refine and_a ?_))
                by_cases hc_21 : r_20 = true
                · replace hf13 := if_t hc_21 hf13
                  obtain ⟨r_22, hr_22, hf13⟩ := bind_inv hf13
                  try simp -implicitDefEqProofs only [go_sem, simprocAttr, hq_5, hn_6, hc_8, hq_15, hn_16, hc_17, hc_19, hc_21]
                  repeat (first | (with_reducible refine imp_i fun _ => ?_) | (with_reducible refine and_a ?_))
                  refine call_S (lazarettoref01_Leq_ok hr_22) (by simp [go_sem, hq_5, hn_6, hc_8, hq_15, hn_16, hc_17, hc_19, hc_21]) (by simp [go_sem]) (by simp [go_sem]) (by simp [go_sem]) ?_
                  obtain rfl := Option.some.inj hf13
                  try simp -implicitDefEqProofs only [go_sem, simprocAttr, hq_5, hn_6, hc_8, hq_15, hn_16, hc_17, hc_19, hc_21]
                  repeat (first | (with_reducible refine imp_i fun _ => ?_) | (with_reducible refine and_a ?_))
                  have hw_23 := wrap_nat (k := d_11) (by omega)
                  refine purge_P [1, 2, 3, 7, 8, 9] 1 ((fun (s__ : Bool × Nat) (a__ : Unit) => match s__, a__ with | (ok_10, d_11), _ => ⟨[(1, .one (.int .i64 a)), (2, .one (.int .i64 b)), (3, .one (.ref 0 0 0 0)), (7, .one (.int .i64 (c_1 : Int))), (8, .one (.bool ok_10)), (9, .one (.int .i64 (d_11 : Int)))], [.cells 0 2 [[.sl (l.Names.map eS), .sl (l.Below.map (eA2 eI))]]]⟩) (r_22, (d_11 + 1)) ()) (by simp) (by simp [go_sem]) (by simp [go_sem]) (by simp [go_sem, copyL, List.map_set, hq_5, hn_6, hc_8, hq_15, hn_16, hc_17, hc_19, hc_21, hw_23] <;> omega) ?_
                  exact ih13 (r_22, (d_11 + 1)) () ho13
                · replace hf13 := if_f hc_21 hf13
                  have hc_21 := nt_ hc_21
                  obtain rfl := Option.some.inj hf13
                  try simp -implicitDefEqProofs only [go_sem, simprocAttr, hq_5, hn_6, hc_8, hq_15, hn_16, hc_17, hc_19, hc_21]
                  repeat (first | (with_reducible refine imp_i fun _ => ?_) | (with_reducible refine and_a ?_))
                  have hw_24 := wrap_nat (k := d_11) (by omega)
                  refine purge_P [1, 2, 3, 7, 8, 9] 1 ((fun (s__ : Bool × Nat) (a__ : Unit) => match s__, a__ with | (ok_10, d_11), _ => ⟨[(1, .one (.int .i64 a)), (2, .one (.int .i64 b)), (3, .one (.ref 0 0 0 0)), (7, .one (.int .i64 (c_1 : Int))), (8, .one (.bool ok_10)), (9, .one (.int .i64 (d_11 : Int)))], [.cells 0 2 [[.sl (l.Names.map eS), .sl (l.Below.map (eA2 eI))]]]⟩) (true, (d_11 + 1)) ()) (by simp) (by simp [go_sem]) (by simp [go_sem]) (by simp [go_sem, copyL, List.map_set, hq_5, hn_6, hc_8, hq_15, hn_16, hc_17, hc_19, hc_21, hw_24] <;> omega) ?_
                  exact ih13 (true, (d_11 + 1)) () ho13
              · replace hf13 := if_f hc_19 hf13
                have hc_19 := nt_ hc_19
                obtain rfl := Option.some.inj hf13
                try simp -implicitDefEqProofs only [go_sem, simprocAttr, hq_5, hn_6, hc_8, hq_15, hn_16, hc_17, hc_19]
                repeat (first | (with_reducible refine imp_i fun _ => ?_) | (with_reducible refine and_a ?_))
                have hw_25 := wrap_nat (k := d_11) (by omega)
                refine purge_P [1, 2, 3, 7, 8, 9] 1 ((fun (s__ : Bool × Nat) (a__ : Unit) => match s__, a__ with | (ok_10, d_11), _ => ⟨[(1, .one (.int .i64 a)), (2, .one (.int .i64 b)), (3, .one (.ref 0 0 0 0)), (7, .one (.int .i64 (c_1 : Int))), (8, .one (.bool ok_10)), (9, .one (.int .i64 (d_11 : Int)))], [.cells 0 2 [[.sl (l.Names.map eS), .sl (l.Below.map (eA2 eI))]]]⟩) (true, (d_11 + 1)) ()) (by simp) (by simp [go_sem]) (by simp [go_sem]) (by simp [go_sem, copyL, List.map_set, hq_5, hn_6, hc_8, hq_15, hn_16, hc_17, hc_19, hw_25] <;> omega) ?_
                exact ih13 (true, (d_11 + 1)) () ho13
            · replace hf13 := if_f hc_17 hf13
              have hc_17 := nt_ hc_17
              obtain rfl := Option.some.inj hf13
              obtain rfl := Option.some.inj ho13
              try simp -implicitDefEqProofs only [go_sem, simprocAttr, hq_5, hn_6, hc_8, hq_15, hn_16, hc_17]
              repeat (first | (with_reducible refine imp_i fun _ => ?_) | (with_reducible refine and_a ?_))
              refine purge_E [1, 2, 3, 7, 8] 1 ((fun (e__ : Bool) (b__ : Unit) => match e__, b__ with | e_12, _ => ⟨[(1, .one (.int .i64 a)), (2, .one (.int .i64 b)), (3, .one (.ref 0 0 0 0)), (7, .one (.int .i64 (c_1 : Int))), (8, .one (.bool e_12))], [.cells 0 2 [[.sl (l.Names.map eS), .sl (l.Below.map (eA2 eI))]]]⟩) ok_10 ()) (by simp) (by simp [go_sem]) (by simp [go_sem]) (by simp [go_sem, copyL, List.map_set, hq_5, hn_6, hc_8, hq_15, hn_16, hc_17] <;> omega) ?_
              exact af13 _ () rfl
          · replace hf13 := if_f hc_14 hf13
            have hq_26 := eq_false hc_14
            have hn_27 : ¬ d_11 < l.Names.length := by omega
            obtain rfl := Option.some.inj hf13
            obtain rfl := Option.some.inj ho13
            try simp -implicitDefEqProofs only [go_sem, simprocAttr, hq_5, hn_6, hc_8, hq_26, hn_27]
            repeat (first | (with_reducible refine imp_i fun _ => ?_) | (with_reducible refine and_a ?_))
            refine purge_E [1, 2, 3, 7, 8] 1 ((fun (e__ : Bool) (b__ : Unit) => match e__, b__ with | e_12, _ => ⟨[(1, .one (.int .i64 a)), (2, .one (.int .i64 b)), (3, .one (.ref 0 0 0 0)), (7, .one (.int .i64 (c_1 : Int))), (8, .one (.bool e_12))], [.cells 0 2 [[.sl (l.Names.map eS), .sl (l.Below.map (eA2 eI))]]]⟩) ok_10 ()) (by simp) (by simp [go_sem]) (by simp [go_sem]) (by simp [go_sem, copyL, List.map_set, hq_5, hn_6, hc_8, hq_26, hn_27] <;> omega) ?_
            exact af13 _ () rfl
      · replace hf3 := if_f hc_8 hf3
        have hc_8 := nt_ hc_8
        obtain ⟨e_33, he_33, hf3⟩ := bind_inv hf3
        try simp -implicitDefEqProofs only [go_sem, simprocAttr, hq_5, hn_6, hc_8]
        repeat (first | (with_reducible refine imp_i fun _ => ?_) | (with_reducible refine and_a ?_))
        refine purge_to [1, 2, 3, 7, 8, 9] 1 ((fun (s__ : Bool × Nat) (a__ : Unit) => match s__, a__ with | (ok_31, d_32), _ => ⟨[(1, .one (.int .i64 a)), (2, .one (.int .i64 b)), (3, .one (.ref 0 0 0 0)), (7, .one (.int .i64 (c_1 : Int))), (8, .one (.bool ok_31)), (9, .one (.int .i64 (d_32 : Int)))], [.cells 0 2 [[.sl (l.Names.map eS), .sl (l.Below.map (eA2 eI))]]]⟩) (false, 0) ()) (by simp) (by simp [go_sem]) (by simp [go_sem]) (by simp [go_sem, copyL, List.map_set, hq_5, hn_6, hc_8] <;> omega) ?_
        refine loop_X (f := lazarettoref01_Meet_L3 l a b c_1) (s0 := (false, 0)) (fun (s__ : Bool × Nat) (a__ : Unit) => match s__, a__ with | (ok_31, d_32), _ => ⟨[(1, .one (.int .i64 a)), (2, .one (.int .i64 b)), (3, .one (.ref 0 0 0 0)), (7, .one (.int .i64 (c_1 : Int))), (8, .one (.bool ok_31)), (9, .one (.int .i64 (d_32 : Int)))], [.cells 0 2 [[.sl (l.Names.map eS), .sl (l.Below.map (eA2 eI))]]]⟩) (fun (e__ : Bool) (b__ : Unit) => match e__, b__ with | e_33, _ => ⟨[(1, .one (.int .i64 a)), (2, .one (.int .i64 b)), (3, .one (.ref 0 0 0 0)), (7, .one (.int .i64 (c_1 : Int))), (8, .one (.bool e_33))], [.cells 0 2 [[.sl (l.Names.map eS), .sl (l.Below.map (eA2 eI))]]]⟩) (fun (_ : Bool) => some 2) () he_33 ?_ ?_
        · intro i34 b34 hi34
          obtain rfl := Option.some.inj hi34
          obtain ⟨⟩ := b34
          dsimp only at hf3 ⊢
          try simp -implicitDefEqProofs only [go_sem, simprocAttr, hq_5, hn_6, hc_8]
          repeat (first | (with_reducible refine imp_i fun _ => ?_) | (with_reducible refine and_a ?_))
          by_cases hc_50 : e_33 = true
          · replace hf3 := if_t hc_50 hf3
            obtain rfl := Option.some.inj hf3
            obtain rfl := Option.some.inj ho3
            try dsimp only at h
            obtain rfl := Option.some.inj h
            try simp -implicitDefEqProofs only [go_sem, simprocAttr, hq_5, hn_6, hc_8, hc_50]
            all_goals (repeat (first | (with_reducible refine imp_i fun _ => ?_) | (with_reducible refine and_a ?_)))
            all_goals (try simp [go_sem, hq_5, hn_6, hc_8, hc_50])
          · replace hf3 := if_f hc_50 hf3
            have hc_50 := nt_ hc_50
            obtain rfl := Option.some.inj hf3
            try simp -implicitDefEqProofs only [go_sem, simprocAttr, hq_5, hn_6, hc_8, hc_50]
            repeat (first | (with_reducible refine imp_i fun _ => ?_) | (with_reducible refine and_a ?_))
            have hw_51 := wrap_nat (k := c_1) (by omega)
            refine purge_P [1, 2, 3, 7] 1 ((fun (s__ : Nat) (a__ : Unit) => match s__, a__ with | c_1, _ => ⟨[(1, .one (.int .i64 a)), (2, .one (.int .i64 b)), (3, .one (.ref 0 0 0 0)), (7, .one (.int .i64 (c_1 : Int)))], [.cells 0 2 [[.sl (l.Names.map eS), .sl (l.Below.map (eA2 eI))]]]⟩) (c_1 + 1) ()) (by simp) (by simp [go_sem]) (by simp [go_sem]) (by simp [go_sem, copyL, List.map_set, hq_5, hn_6, hc_8, hc_50, hw_51] <;> omega) ?_
            exact ih3 (c_1 + 1) () ho3
        · intro af34 m34 s34 a34 o34 hf34 ho34 ih34
          obtain ⟨ok_31, d_32⟩ := s34
          obtain ⟨⟩ := a34
          dsimp only [lazarettoref01_Meet_L3] at hf34 ⊢ ih34
          try simp -implicitDefEqProofs only [go_sem, simprocAttr, hq_5, hn_6, hc_8]
          repeat (first | (with_reducible refine imp_i fun _ => ?_) | (with_reducible refine and_a ?_))
          by_cases hc_35 : (d_32 : Int) < (l.Names.length : Int)
          · replace hf34 := if_t hc_35 hf34
            have hq_36 := eq_true hc_35
            have hn_37 : d_32 < l.Names.length := by omega
            try simp -implicitDefEqProofs only [go_sem, simprocAttr, hq_5, hn_6, hc_8, hq_36, hn_37]
            repeat (first | (with_reducible refine imp_i fun _ => ?_) | (with_reducible refine and_a ?_))
            by_cases hc_38 : ok_31 = true
            · replace hf34 := if_t hc_38 hf34
              obtain ⟨r_39, hr_39, hf34⟩ := bind_inv hf34
              try simp -implicitDefEqProofs only [go_sem, simprocAttr, hq_5, hn_6, hc_8, hq_36, hn_37, hc_38]
              repeat (first | (with_reducible refine imp_i fun _ => ?_) | (with_reducible refine and_a ?_))
              refine call_S (lazarettoref01_Leq_ok hr_39) (by simp [go_sem, hq_5, hn_6, hc_8, hq_36, hn_37, hc_38]) (by simp [go_sem]) (by simp [go_sem]) (by simp [go_sem]) ?_
              try simp -implicitDefEqProofs only [go_sem, simprocAttr, hq_5, hn_6, hc_8, hq_36, hn_37, hc_38]
              repeat (first | (with_reducible refine imp_i fun _ => ?_) | (with_reducible refine and_a ?_))
              by_cases hc_40 : r_39 = true
              · replace hf34 := if_t hc_40 hf34
                obtain ⟨r_41, hr_41, hf34⟩ := bind_inv hf34
                try simp -implicitDefEqProofs only [go_sem, simprocAttr, hq_5, hn_6, hc_8, hq_36, hn_37, hc_38, hc_40]
                repeat (first | (with_reducible refine imp_i fun _ => ?_) | (with_reducible refine and_a ?_))
                refine call_S (lazarettoref01_Leq_ok hr_41) (by simp [go_sem, hq_5, hn_6, hc_8, hq_36, hn_37, hc_38, hc_40]) (by simp [go_sem]) (by simp [go_sem]) (by simp [go_sem]) ?_
                try simp -implicitDefEqProofs only [go_sem, simprocAttr, hq_5, hn_6, hc_8, hq_36, hn_37, hc_38, hc_40]
                repeat (first | (with_reducible refine imp_i fun _ => ?_) | (with_reducible refine and_a ?_))
                by_cases hc_42 : r_41 = true
                · replace hf34 := if_t hc_42 hf34
                  obtain ⟨r_43, hr_43, hf34⟩ := bind_inv hf34
                  try simp -implicitDefEqProofs only [go_sem, simprocAttr, hq_5, hn_6, hc_8, hq_36, hn_37, hc_38, hc_40, hc_42]
                  repeat (first | (with_reducible refine imp_i fun _ => ?_) | (with_reducible refine and_a ?_))
                  refine call_S (lazarettoref01_Leq_ok hr_43) (by simp [go_sem, hq_5, hn_6, hc_8, hq_36, hn_37, hc_38, hc_40, hc_42]) (by simp [go_sem]) (by simp [go_sem]) (by simp [go_sem]) ?_
                  obtain rfl := Option.some.inj hf34
                  try simp -implicitDefEqProofs only [go_sem, simprocAttr, hq_5, hn_6, hc_8, hq_36, hn_37, hc_38, hc_40, hc_42]
                  repeat (first | (with_reducible refine imp_i fun _ => ?_) | (with_reducible refine and_a ?_))
                  have hw_44 := wrap_nat (k := d_32) (by omega)
                  refine purge_P [1, 2, 3, 7, 8, 9] 1 ((fun (s__ : Bool × Nat) (a__ : Unit) => match s__, a__ with | (ok_31, d_32), _ => ⟨[(1, .one (.int .i64 a)), (2, .one (.int .i64 b)), (3, .one (.ref 0 0 0 0)), (7, .one (.int .i64 (c_1 : Int))), (8, .one (.bool ok_31)), (9, .one (.int .i64 (d_32 : Int)))], [.cells 0 2 [[.sl (l.Names.map eS), .sl (l.Below.map (eA2 eI))]]]⟩) (r_43, (d_32 + 1)) ()) (by simp) (by simp [go_sem]) (by simp [go_sem]) (by simp [go_sem, copyL, List.map_set, hq_5, hn_6, hc_8, hq_36, hn_37, hc_38, hc_40, hc_42, hw_44] <;> omega) ?_
                  exact ih34 (r_43, (d_32 + 1)) () ho34
                · replace hf34 := if_f hc_42 hf34
                  have hc_42 := nt_ hc_42
                  obtain rfl := Option.some.inj hf34
                  try simp -implicitDefEqProofs only [go_sem, simprocAttr, hq_5, hn_6, hc_8, hq_36, hn_37, hc_38, hc_40, hc_42]
                  repeat (first | (with_reducible refine imp_i fun _ => ?_) | (with_reducible refine and_a ?_))
                  have hw_45 := wrap_nat (k := d_32) (by omega)
                  refine purge_P [1, 2, 3, 7, 8, 9] 1 ((fun (s__ : Bool × Nat) (a__ : Unit) => match s__, a__ with | (ok_31, d_32), _ => ⟨[(1, .one (.int .i64 a)), (2, .one (.int .i64 b)), (3, .one (.ref 0 0 0 0)), (7, .one (.int .i64 (c_1 : Int))), (8, .one (.bool ok_31)), (9, .one (.int .i64 (d_32 : Int)))], [.cells 0 2 [[.sl (l.Names.map eS), .sl (l.Below.map (eA2 eI))]]]⟩) (true, (d_32 + 1)) ()) (by simp) (by simp [go_sem]) (by simp [go_sem]) (by simp [go_sem, copyL, List.map_set, hq_5, hn_6, hc_8, hq_36, hn_37, hc_38, hc_40, hc_42, hw_45] <;> omega) ?_
                  exact ih34 (true, (d_32 + 1)) () ho34
              · replace hf34 := if_f hc_40 hf34
                have hc_40 := nt_ hc_40
                obtain rfl := Option.some.inj hf34
                try simp -implicitDefEqProofs only [go_sem, simprocAttr, hq_5, hn_6, hc_8, hq_36, hn_37, hc_38, hc_40]
                repeat (first | (with_reducible refine imp_i fun _ => ?_) | (with_reducible refine and_a ?_))
                have hw_46 := wrap_nat (k := d_32) (by omega)
                refine purge_P [1, 2, 3, 7, 8, 9] 1 ((fun (s__ : Bool × Nat) (a__ : Unit) => match s__, a__ with | (ok_31, d_32), _ => ⟨[(1, .one (.int .i64 a)), (2, .one (.int .i64 b)), (3, .one (.ref 0 0 0 0)), (7, .one (.int .i64 (c_1 : Int))), (8, .one (.bool ok_31)), (9, .one (.int .i64 (d_32 : Int)))], [.cells 0 2 [[.sl (l.Names.map eS), .sl (l.Below.map (eA2 eI))]]]⟩) (true, (d_32 + 1)) ()) (by simp) (by simp [go_sem]) (by simp [go_sem]) (by simp [go_sem, copyL, List.map_set, hq_5, hn_6, hc_8, hq_36, hn_37, hc_38, hc_40, hw_46] <;> omega) ?_
                exact ih34 (true, (d_32 + 1)) () ho34
            · replace hf34 := if_f hc_38 hf34
              have hc_38 := nt_ hc_38
              obtain rfl := Option.some.inj hf34
              obtain rfl := Option.some.inj ho34
              try simp -implicitDefEqProofs only [go_sem, simprocAttr, hq_5, hn_6, hc_8, hq_36, hn_37, hc_38]
              repeat (first | (with_reducible refine imp_i fun _ => ?_) | (with_reducible refine and_a ?_))
              refine purge_E [1, 2, 3, 7, 8] 1 ((fun (e__ : Bool) (b__ : Unit) => match e__, b__ with | e_33, _ => ⟨[(1, .one (.int .i64 a)), (2, .one (.int .i64 b)), (3, .one (.ref 0 0 0 0)), (7, .one (.int .i64 (c_1 : Int))), (8, .one (.bool e_33))], [.cells 0 2 [[.sl (l.Names.map eS), .sl (l.Below.map (eA2 eI))]]]⟩) ok_31 ()) (by simp) (by simp [go_sem]) (by simp [go_sem]) (by simp [go_sem, copyL, List.map_set, hq_5, hn_6, hc_8, hq_36, hn_37, hc_38] <;> omega) ?_
              exact af34 _ () rfl
          · replace hf34 := if_f hc_35 hf34
            have hq_47 := eq_false hc_35
            have hn_48 : ¬ d_32 < l.Names.length := by omega
            obtain rfl := Option.some.inj hf34
            obtain rfl := Option.some.inj ho34
            try simp -implicitDefEqProofs only [go_sem, simprocAttr, hq_5, hn_6, hc_8, hq_47, hn_48]
            repeat (first | (with_reducible refine imp_i fun _ => ?_) | (with_reducible refine and_a ?_))
            refine purge_E [1, 2, 3, 7, 8] 1 ((fun (e__ : Bool) (b__ : Unit) => match e__, b__ with | e_33, _ => ⟨[(1, .one (.int .i64 a)), (2, .one (.int .i64 b)), (3, .one (.ref 0 0 0 0)), (7, .one (.int .i64 (c_1 : Int))), (8, .one (.bool e_33))], [.cells 0 2 [[.sl (l.Names.map eS), .sl (l.Below.map (eA2 eI))]]]⟩) ok_31 ()) (by simp) (by simp [go_sem]) (by simp [go_sem]) (by simp [go_sem, copyL, List.map_set, hq_5, hn_6, hc_8, hq_47, hn_48] <;> omega) ?_
            exact af34 _ () rfl
    · replace hf3 := if_f hc_4 hf3
      have hq_52 := eq_false hc_4
      have hn_53 : ¬ c_1 < l.Names.length := by omega
      obtain rfl := Option.some.inj hf3
      obtain rfl := Option.some.inj ho3
      try simp -implicitDefEqProofs only [go_sem, simprocAttr, hq_52, hn_53]
      repeat (first | (with_reducible refine imp_i fun _ => ?_) | (with_reducible refine and_a ?_))
      refine purge_E [] 1 ((fun (e__ : Int ⊕ Unit) (b__ : Unit) => match e__, b__ with | (.inl e_54), _ => ⟨[], []⟩ | (.inr ()), _ => ⟨[], [.cells 0 2 [[.sl (l.Names.map eS), .sl (l.Below.map (eA2 eI))]]]⟩) (.inr ()) ()) (by simp) (by simp [go_sem]) (by simp [go_sem]) (by simp [go_sem, copyL, List.map_set, hq_52, hn_53] <;> omega) ?_
      exact af3 _ () rfl
set_option maxRecDepth 100000 in
theorem lazarettoref01_Check_ok {l : api_Lattice} {r : Int} (h : lazarettoref01_Check l = some r) :
    Pu Try.prog 40 [.agg (e_api_Lattice l)] (.one (.int .i64 r)) := by
  refine pu_of_awp Try.func40 rfl (by kernel_rfl) (by kernel_rfl) (awp_of_S ?_)
  simp only [Try.f40]
  unfold lazarettoref01_Check at h
  try simp -implicitDefEqProofs only [go_sem, simprocAttr]
  repeat (first | (with_reducible refine imp_i fun _ => ?_) | (with_reducible refine and_a ?_))
  by_cases hc_1 : (l.Names.length : Int) < 1
  · replace h := if_t hc_1 h
    have hq_2 := eq_true hc_1
    obtain rfl := Option.some.inj h
    try simp -implicitDefEqProofs only [go_sem, simprocAttr, hq_2]
    all_goals (repeat (first | (with_reducible refine imp_i fun _ => ?_) | (with_reducible refine and_a ?_)))
    all_goals (try simp [go_sem, hq_2])
  · replace h := if_f hc_1 h
    have hq_3 := eq_false hc_1
    try simp -implicitDefEqProofs only [go_sem, simprocAttr, hq_3]
    repeat (first | (with_reducible refine imp_i fun _ => ?_) | (with_reducible refine and_a ?_))
    by_cases hc_4 : 8 < (l.Names.length : Int)
    · replace h := if_t hc_4 h
      have hq_5 := eq_true hc_4
      obtain rfl := Option.some.inj h
      try simp -implicitDefEqProofs only [go_sem, simprocAttr, hq_3, hq_5]
      all_goals (repeat (first | (with_reducible refine imp_i fun _ => ?_) | (with_reducible refine and_a ?_)))
      all_goals (try simp [go_sem, hq_3, hq_5])
    · replace h := if_f hc_4 h
      have hq_6 := eq_false hc_4
      obtain ⟨e_8, he_8, h⟩ := bind_inv h
      try simp -implicitDefEqProofs only [go_sem, simprocAttr, hq_3, hq_6]
      repeat (first | (with_reducible refine imp_i fun _ => ?_) | (with_reducible refine and_a ?_))
      refine purge_to [1, 3, 4] 1 ((fun (s__ : Nat) (a__ : Unit) => match s__, a__ with | i_7, _ => ⟨[(1, .one (.ref 0 0 0 0)), (3, .one (.int .i64 (l.Names.length : Int))), (4, .one (.int .i64 (i_7 : Int)))], [.cells 0 2 [[.sl (l.Names.map eS), .sl (l.Below.map (eA2 eI))]]]⟩) 0 ()) (by simp) (by simp [go_sem]) (by simp [go_sem]) (by simp [go_sem, copyL, List.map_set, hq_3, hq_6] <;> omega) ?_
      refine loop_X (f := lazarettoref01_Check_L1 l) (s0 := 0) (fun (s__ : Nat) (a__ : Unit) => match s__, a__ with | i_7, _ => ⟨[(1, .one (.ref 0 0 0 0)), (3, .one (.int .i64 (l.Names.length : Int))), (4, .one (.int .i64 (i_7 : Int)))], [.cells 0 2 [[.sl (l.Names.map eS), .sl (l.Below.map (eA2 eI))]]]⟩) (fun (e__ : Int ⊕ Unit) (b__ : Unit) => match e__, b__ with | (.inl e_22), _ => ⟨[], []⟩ | (.inr ()), _ => ⟨[(1, .one (.ref 0 0 0 0)), (3, .one (.int .i64 (l.Names.length : Int)))], [.cells 0 2 [[.sl (l.Names.map eS), .sl (l.Below.map (eA2 eI))]]]⟩) (fun (e__ : Int ⊕ Unit) => match e__ with | (.inl _) => none | (.inr _) => some 0) () he_8 ?_ ?_
      · intro i9 b9 hi9
        rcases e_8 with e_case | ⟨⟩
        · cases hi9
        · obtain rfl := Option.some.inj hi9
          obtain ⟨⟩ := b9
          dsimp only at h ⊢
          obtain ⟨e_24, he_24, h⟩ := bind_inv h
          try simp -implicitDefEqProofs only [go_sem, simprocAttr, hq_3, hq_6]
          repeat (first | (with_reducible refine imp_i fun _ => ?_) | (with_reducible refine and_a ?_))
          refine purge_to [1, 3, 5] 1 ((fun (s__ : Nat) (a__ : Unit) => match s__, a__ with | a_23, _ => ⟨[(1, .one (.ref 0 0 0 0)), (3, .one (.int .i64 (l.Names.length : Int))), (5, .one (.int .i64 (a_23 : Int)))], [.cells 0 2 [[.sl (l.Names.map eS), .sl (l.Below.map (eA2 eI))]]]⟩) 0 ()) (by simp) (by simp [go_sem]) (by simp [go_sem]) (by simp [go_sem, copyL, List.map_set, hq_3, hq_6] <;> omega) ?_
          refine loop_X (f := lazarettoref01_Check_L2 l) (s0 := 0) (fun (s__ : Nat) (a__ : Unit) => match s__, a__ with | a_23, _ => ⟨[(1, .one (.ref 0 0 0 0)), (3, .one (.int .i64 (l.Names.length : Int))), (5, .one (.int .i64 (a_23 : Int)))], [.cells 0 2 [[.sl (l.Names.map eS), .sl (l.Below.map (eA2 eI))]]]⟩) (fun (e__ : Int ⊕ Unit) (b__ : Unit) => match e__, b__ with | (.inl e_73), _ => ⟨[], []⟩ | (.inr ()), _ => ⟨[], [.cells 0 2 [[.sl (l.Names.map eS), .sl (l.Below.map (eA2 eI))]]]⟩) (fun (e__ : Int ⊕ Unit) => match e__ with | (.inl _) => none | (.inr _) => some 2) () he_24 ?_ ?_
          · intro i25 b25 hi25
            rcases e_24 with e_case | ⟨⟩
            · cases hi25
            · obtain rfl := Option.some.inj hi25
              obtain ⟨⟩ := b25
              dsimp only at h ⊢
              obtain rfl := Option.some.inj h
              try simp -implicitDefEqProofs only [go_sem, simprocAttr, hq_3, hq_6]
              all_goals (repeat (first | (with_reducible refine imp_i fun _ => ?_) | (with_reducible refine and_a ?_)))
              all_goals (try simp [go_sem, hq_3, hq_6])
          · intro af25 m25 a_23 a25 o25 hf25 ho25 ih25
            obtain ⟨⟩ := a25
            dsimp only [lazarettoref01_Check_L2] at hf25 ⊢ ih25
            try simp -implicitDefEqProofs only [go_sem, simprocAttr, hq_3, hq_6]
            repeat (first | (with_reducible refine imp_i fun _ => ?_) | (with_reducible refine and_a ?_))
            by_cases hc_26 : (a_23 : Int) < (l.Names.length : Int)
            · replace hf25 := if_t hc_26 hf25
              have hq_27 := eq_true hc_26
              have hn_28 : a_23 < l.Names.length := by omega
              obtain ⟨x_29, hx_29, hf25⟩ := bind_inv hf25
              obtain ⟨f_301, f_302, f_303, f_304⟩ := nat_facts hx_29
              try simp -implicitDefEqProofs only [go_sem, simprocAttr, hq_3, hq_6, hq_27, hn_28, f_301, f_302, f_303, f_304]
              repeat (first | (with_reducible refine imp_i fun _ => ?_) | (with_reducible refine and_a ?_))
              by_cases hc_31 : x_29 = []
              · replace hf25 := if_t hc_31 hf25
                have hq_32 := eq_true hc_31
                obtain rfl := Option.some.inj hf25
                obtain rfl := Option.some.inj ho25
                try dsimp only at h
                obtain rfl := Option.some.inj h
                try simp -implicitDefEqProofs only [go_sem, simprocAttr, hq_3, hq_6, hq_27, hn_28, f_301, f_302, f_303, f_304, hq_32]
                all_goals (repeat (first | (with_reducible refine imp_i fun _ => ?_) | (with_reducible refine and_a ?_)))
                all_goals (try simp [go_sem, hq_3, hq_6, hq_27, hn_28, f_301, f_302, f_303, f_304, hq_32])
              · replace hf25 := if_f hc_31 hf25
                have hq_33 := eq_false hc_31
                obtain ⟨e_35, he_35, hf25⟩ := bind_inv hf25
                try simp -implicitDefEqProofs only [go_sem, simprocAttr, hq_3, hq_6, hq_27, hn_28, f_301, f_302, f_303, f_304, hq_33]
                repeat (first | (with_reducible refine imp_i fun _ => ?_) | (with_reducible refine and_a ?_))
                refine purge_to [1, 3, 5, 6] 1 ((fun (s__ : Nat) (a__ : Unit) => match s__, a__ with | b_34, _ => ⟨[(1, .one (.ref 0 0 0 0)), (3, .one (.int .i64 (l.Names.length : Int))), (5, .one (.int .i64 (a_23 : Int))), (6, .one (.int .i64 (b_34 : Int)))], [.cells 0 2 [[.sl (l.Names.map eS), .sl (l.Below.map (eA2 eI))]]]⟩) 0 ()) (by simp) (by simp [go_sem]) (by simp [go_sem]) (by simp [go_sem, copyL, List.map_set, hq_3, hq_6, hq_27, hn_28, f_301, f_302, f_303, f_304, hq_33] <;> omega) ?_
                refine loop_X (f := lazarettoref01_Check_L3 l a_23 x_29) (s0 := 0) (fun (s__ : Nat) (a__ : Unit) => match s__, a__ with | b_34, _ => ⟨[(1, .one (.ref 0 0 0 0)), (3, .one (.int .i64 (l.Names.length : Int))), (5, .one (.int .i64 (a_23 : Int))), (6, .one (.int .i64 (b_34 : Int)))], [.cells 0 2 [[.sl (l.Names.map eS), .sl (l.Below.map (eA2 eI))]]]⟩) (fun (e__ : Int ⊕ Unit) (b__ : Unit) => match e__, b__ with | (.inl e_69), _ => ⟨[], []⟩ | (.inr ()), _ => ⟨[(1, .one (.ref 0 0 0 0)), (3, .one (.int .i64 (l.Names.length : Int))), (5, .one (.int .i64 (a_23 : Int)))], [.cells 0 2 [[.sl (l.Names.map eS), .sl (l.Below.map (eA2 eI))]]]⟩) (fun (e__ : Int ⊕ Unit) => match e__ with | (.inl _) => none | (.inr _) => some 4) () he_35 ?_ ?_
                · intro i36 b36 hi36
                  rcases e_35 with e_case | ⟨⟩
                  · cases hi36
                  · obtain rfl := Option.some.inj hi36
                    obtain ⟨⟩ := b36
                    dsimp only at hf25 ⊢
                    obtain rfl := Option.some.inj hf25
                    try simp -implicitDefEqProofs only [go_sem, simprocAttr, hq_3, hq_6, hq_27, hn_28, f_301, f_302, f_303, f_304, hq_33]
                    repeat (first | (with_reducible refine imp_i fun _ => ?_) | (with_reducible refine and_a ?_))
                    have hw_70 := wrap_nat (k := a_23) (by omega)
                    refine purge_P [1, 3, 5] 1 ((fun (s__ : Nat) (a__ : Unit) => match s__, a__ with | a_23, _ => ⟨[(1, .one (.ref 0 0 0 0)), (3, .one (.int .i64 (l.Names.length : Int))), (5, .one (.int .i64 (a_23 : Int)))], [.cells 0 2 [[.sl (l.Names.map eS), .sl (l.Below.map (eA2 eI))]]]⟩) (a_23 + 1) ()) (by simp) (by simp [go_sem]) (by simp [go_sem]) (by simp [go_sem, copyL, List.map_set, hq_3, hq_6, hq_27, hn_28, f_301, f_302, f_303, f_304, hq_33, hw_70] <;> omega) ?_
                    exact ih25 (a_23 + 1) () ho25
                · intro af36 m36 b_34 a36 o36 hf36 ho36 ih36
                  obtain ⟨⟩ := a36
                  dsimp only [lazarettoref01_Check_L3] at hf36 ⊢ ih36
                  try simp -implicitDefEqProofs only [go_sem, simprocAttr, hq_3, hq_6, hq_27, hn_28, f_301, f_302, f_303, f_304, hq_33]
                  repeat (first | (with_reducible refine imp_i fun _ => ?_) | (with_reducible refine and_a ?_))
                  by_cases hc_37 : (b_34 : Int) < (a_23 : Int)
                  · replace hf36 := if_t hc_37 hf36
                    have hq_38 := eq_true hc_37
                    have hn_39 : b_34 < a_23 := by omega
                    obtain ⟨x_40, hx_40, hf36⟩ := bind_inv hf36
                    obtain ⟨f_411, f_412, f_413, f_414⟩ := nat_facts hx_40
                    try simp -implicitDefEqProofs only [go_sem, simprocAttr, hq_3, hq_6, hq_27, hn_28, f_301, f_302, f_303, f_304, hq_33, hq_38, hn_39, f_411, f_412, f_413, f_414]
                    repeat (first | (with_reducible refine imp_i fun _ => ?_) | (with_reducible refine and_a ?_))
                    by_cases hc_42 : x_29 = x_40
                    · replace hf36 := if_t hc_42 hf36
                      have hq_43 := eq_true hc_42
                      obtain rfl := Option.some.inj hf36
                      obtain rfl := Option.some.inj ho36
                      try dsimp only at hf25
                      obtain rfl := Option.some.inj hf25
                      obtain rfl := Option.some.inj ho25
                      try dsimp only at h
                      obtain rfl := Option.some.inj h
                      try simp -implicitDefEqProofs only [go_sem, simprocAttr, hq_3, hq_6, hq_27, hn_28, f_301, f_302, f_303, f_304, hq_33, hq_38, hn_39, f_411, f_412, f_413, f_414, hq_43]
                      all_goals (repeat (first | (with_reducible refine imp_i fun _ => ?_) | (with_reducible refine and_a ?_)))
                      all_goals (try simp [go_sem, hq_3, hq_6, hq_27, hn_28, f_301, f_302, f_303, f_304, hq_33, hq_38, hn_39, f_411, f_412, f_413, f_414, hq_43])
                    · replace hf36 := if_f hc_42 hf36
                      have hq_44 := eq_false hc_42
                      obtain ⟨r_45, hr_45, hf36⟩ := bind_inv hf36
                      try simp -implicitDefEqProofs only [go_sem, simprocAttr, hq_3, hq_6, hq_27, hn_28, f_301, f_302, f_303, f_304, hq_33, hq_38, hn_39, f_411, f_412, f_413, f_414, hq_44]
                      repeat (first | (with_reducible refine imp_i fun _ => ?_) | (with_reducible refine and_a ?_))
                      refine call_D (lazarettoref01_Leq_ok hr_45) (by simp [go_sem, hq_3, hq_6, hq_27, hn_28, f_301, f_302, f_303, f_304, hq_33, hq_38, hn_39, f_411, f_412, f_413, f_414, hq_44]) (by simp [go_sem]) (by simp [go_sem]) (by simp [go_sem]) ?_
                      try simp -implicitDefEqProofs only [go_sem, simprocAttr, hq_3, hq_6, hq_27, hn_28, f_301, f_302, f_303, f_304, hq_33, hq_38, hn_39, f_411, f_412, f_413, f_414, hq_44]
                      repeat (first | (with_reducible refine imp_i fun _ => ?_) | (with_reducible refine and_a ?_))
                      by_cases hc_46 : r_45 = true
                      · replace hf36 := if_t hc_46 hf36
                        obtain ⟨r_47, hr_47, hf36⟩ := bind_inv hf36
                        try simp -implicitDefEqProofs only [go_sem, simprocAttr, hq_3, hq_6, hq_27, hn_28, f_301, f_302, f_303, f_304, hq_33, hq_38, hn_39, f_411, f_412, f_413, f_414, hq_44, hc_46]
                        repeat (first | (with_reducible refine imp_i fun _ => ?_) | (with_reducible refine and_a ?_))
                        refine call_D (lazarettoref01_Leq_ok hr_47) (by simp [go_sem, hq_3, hq_6, hq_27, hn_28, f_301, f_302, f_303, f_304, hq_33, hq_38, hn_39, f_411, f_412, f_413, f_414, hq_44, hc_46]) (by simp [go_sem]) (by simp [go_sem]) (by simp [go_sem]) ?_
                        try simp -implicitDefEqProofs only [go_sem, simprocAttr, hq_3, hq_6, hq_27, hn_28, f_301, f_302, f_303, f_304, hq_33, hq_38, hn_39, f_411, f_412, f_413, f_414, hq_44, hc_46]
                        repeat (first | (with_reducible refine imp_i fun _ => ?_) | (with_reducible refine and_a ?_))
                        by_cases hc_48 : r_47 = true
                        · replace hf36 := if_t hc_48 hf36
                          obtain rfl := Option.some.inj hf36
                          obtain rfl := Option.some.inj ho36
                          try dsimp only at hf25
                          obtain rfl := Option.some.inj hf25
                          obtain rfl := Option.some.inj ho25
                          try dsimp only at h
                          obtain rfl := Option.some.inj h
                          try simp -implicitDefEqProofs only [go_sem, simprocAttr, hq_3, hq_6, hq_27, hn_28, f_301, f_302, f_303, f_304, hq_33, hq_38, hn_39, f_411, f_412, f_413, f_414, hq_44, hc_46, hc_48]
                          all_goals (repeat (first | (with_reducible refine imp_i fun _ => ?_) | (with_reducible refine and_a ?_)))
                          all_goals (try simp [go_sem, hq_3, hq_6, hq_27, hn_28, f_301, f_302, f_303, f_304, hq_33, hq_38, hn_39, f_411, f_412, f_413, f_414, hq_44, hc_46, hc_48])
                        · replace hf36 := if_f hc_48 hf36
                          have hc_48 := nt_ hc_48
                          obtain ⟨r_49, hr_49, hf36⟩ := bind_inv hf36
                          try simp -implicitDefEqProofs only [go_sem, simprocAttr, hq_3, hq_6, hq_27, hn_28, f_301, f_302, f_303, f_304, hq_33, hq_38, hn_39, f_411, f_412, f_413, f_414, hq_44, hc_46, hc_48]
                          repeat (first | (with_reducible refine imp_i fun _ => ?_) | (with_reducible refine and_a ?_))
                          refine call_D (lazarettoref01_Join_ok hr_49) (by simp [go_sem, hq_3, hq_6, hq_27, hn_28, f_301, f_302, f_303, f_304, hq_33, hq_38, hn_39, f_411, f_412, f_413, f_414, hq_44, hc_46, hc_48]) (by simp [go_sem]) (by simp [go_sem]) (by simp [go_sem]) ?_
                          try simp -implicitDefEqProofs only [go_sem, simprocAttr, hq_3, hq_6, hq_27, hn_28, f_301, f_302, f_303, f_304, hq_33, hq_38, hn_39, f_411, f_412, f_413, f_414, hq_44, hc_46, hc_48]
                          repeat (first | (with_reducible refine imp_i fun _ => ?_) | (with_reducible refine and_a ?_))
                          by_cases hc_50 : r_49 < 0
                          · replace hf36 := if_t hc_50 hf36
                            have hq_51 := eq_true hc_50
                            obtain rfl := Option.some.inj hf36
                            obtain rfl := Option.some.inj ho36
                            try dsimp only at hf25
                            obtain rfl := Option.some.inj hf25
                            obtain rfl := Option.some.inj ho25
                            try dsimp only at h
                            obtain rfl := Option.some.inj h
                            try simp -implicitDefEqProofs only [go_sem, simprocAttr, hq_3, hq_6, hq_27, hn_28, f_301, f_302, f_303, f_304, hq_33, hq_38, hn_39, f_411, f_412, f_413, f_414, hq_44, hc_46, hc_48, hq_51]
                            all_goals (repeat (first | (with_reducible refine imp_i fun _ => ?_) | (with_reducible refine and_a ?_)))
                            all_goals (try simp [go_sem, hq_3, hq_6, hq_27, hn_28, f_301, f_302, f_303, f_304, hq_33, hq_38, hn_39, f_411, f_412, f_413, f_414, hq_44, hc_46, hc_48, hq_51])
                          · replace hf36 := if_f hc_50 hf36
                            have hq_52 := eq_false hc_50
                            obtain ⟨r_53, hr_53, hf36⟩ := bind_inv hf36
                            try simp -implicitDefEqProofs only [go_sem, simprocAttr, hq_3, hq_6, hq_27, hn_28, f_301, f_302, f_303, f_304, hq_33, hq_38, hn_39, f_411, f_412, f_413, f_414, hq_44, hc_46, hc_48, hq_52]
                            repeat (first | (with_reducible refine imp_i fun _ => ?_) | (with_reducible refine and_a ?_))
                            refine call_D (lazarettoref01_Meet_ok hr_53) (by simp [go_sem, hq_3, hq_6, hq_27, hn_28, f_301, f_302, f_303, f_304, hq_33, hq_38, hn_39, f_411, f_412, f_413, f_414, hq_44, hc_46, hc_48, hq_52]) (by simp [go_sem]) (by simp [go_sem]) (by simp [go_sem]) ?_
                            try simp -implicitDefEqProofs only [go_sem, simprocAttr, hq_3, hq_6, hq_27, hn_28, f_301, f_302, f_303, f_304, hq_33, hq_38, hn_39, f_411, f_412, f_413, f_414, hq_44, hc_46, hc_48, hq_52]
                            repeat (first | (with_reducible refine imp_i fun _ => ?_) | (with_reducible refine and_a ?_))
                            by_cases hc_54 : r_53 < 0
                            · replace hf36 := if_t hc_54 hf36
                              have hq_55 := eq_true hc_54
                              obtain rfl := Option.some.inj hf36
                              obtain rfl := Option.some.inj ho36
                              try dsimp only at hf25
                              obtain rfl := Option.some.inj hf25
                              obtain rfl := Option.some.inj ho25
                              try dsimp only at h
                              obtain rfl := Option.some.inj h
                              try simp -implicitDefEqProofs only [go_sem, simprocAttr, hq_3, hq_6, hq_27, hn_28, f_301, f_302, f_303, f_304, hq_33, hq_38, hn_39, f_411, f_412, f_413, f_414, hq_44, hc_46, hc_48, hq_52, hq_55]
                              all_goals (repeat (first | (with_reducible refine imp_i fun _ => ?_) | (with_reducible refine and_a ?_)))
                              all_goals (try simp [go_sem, hq_3, hq_6, hq_27, hn_28, f_301, f_302, f_303, f_304, hq_33, hq_38, hn_39, f_411, f_412, f_413, f_414, hq_44, hc_46, hc_48, hq_52, hq_55])
                            · replace hf36 := if_f hc_54 hf36
                              have hq_56 := eq_false hc_54
                              obtain rfl := Option.some.inj hf36
                              try simp -implicitDefEqProofs only [go_sem, simprocAttr, hq_3, hq_6, hq_27, hn_28, f_301, f_302, f_303, f_304, hq_33, hq_38, hn_39, f_411, f_412, f_413, f_414, hq_44, hc_46, hc_48, hq_52, hq_56]
                              repeat (first | (with_reducible refine imp_i fun _ => ?_) | (with_reducible refine and_a ?_))
                              have hw_57 := wrap_nat (k := b_34) (by omega)
                              refine purge_P [1, 3, 5, 6] 1 ((fun (s__ : Nat) (a__ : Unit) => match s__, a__ with | b_34, _ => ⟨[(1, .one (.ref 0 0 0 0)), (3, .one (.int .i64 (l.Names.length : Int))), (5, .one (.int .i64 (a_23 : Int))), (6, .one (.int .i64 (b_34 : Int)))], [.cells 0 2 [[.sl (l.Names.map eS), .sl (l.Below.map (eA2 eI))]]]⟩) (b_34 + 1) ()) (by simp) (by simp [go_sem]) (by simp [go_sem]) (by simp [go_sem, copyL, List.map_set, hq_3, hq_6, hq_27, hn_28, f_301, f_302, f_303, f_304, hq_33, hq_38, hn_39, f_411, f_412, f_413, f_414, hq_44, hc_46, hc_48, hq_52, hq_56, hw_57] <;> omega) ?_
                              exact ih36 (b_34 + 1) () ho36
                      · replace hf36 := if_f hc_46 hf36
                        have hc_46 := nt_ hc_46
                        obtain ⟨r_58, hr_58, hf36⟩ := bind_inv hf36
                        try simp -implicitDefEqProofs only [go_sem, simprocAttr, hq_3, hq_6, hq_27, hn_28, f_301, f_302, f_303, f_304, hq_33, hq_38, hn_39, f_411, f_412, f_413, f_414, hq_44, hc_46]
                        repeat (first | (with_reducible refine imp_i fun _ => ?_) | (with_reducible refine and_a ?_))
                        refine call_D (lazarettoref01_Join_ok hr_58) (by simp [go_sem, hq_3, hq_6, hq_27, hn_28, f_301, f_302, f_303, f_304, hq_33, hq_38, hn_39, f_411, f_412, f_413, f_414, hq_44, hc_46]) (by simp [go_sem]) (by simp [go_sem]) (by simp [go_sem]) ?_
                        try simp -implicitDefEqProofs only [go_sem, simprocAttr, hq_3, hq_6, hq_27, hn_28, f_301, f_302, f_303, f_304, hq_33, hq_38, hn_39, f_411, f_412, f_413, f_414, hq_44, hc_46]
                        repeat (first | (with_reducible refine imp_i fun _ => ?_) | (with_reducible refine and_a ?_))
                        by_cases hc_59 : r_58 < 0
                        · replace hf36 := if_t hc_59 hf36
                          have hq_60 := eq_true hc_59
                          obtain rfl := Option.some.inj hf36
                          obtain rfl := Option.some.inj ho36
                          try dsimp only at hf25
                          obtain rfl := Option.some.inj hf25
                          obtain rfl := Option.some.inj ho25
                          try dsimp only at h
                          obtain rfl := Option.some.inj h
                          try simp -implicitDefEqProofs only [go_sem, simprocAttr, hq_3, hq_6, hq_27, hn_28, f_301, f_302, f_303, f_304, hq_33, hq_38, hn_39, f_411, f_412, f_413, f_414, hq_44, hc_46, hq_60]
                          all_goals (repeat (first | (with_reducible refine imp_i fun _ => ?_) | (with_reducible refine and_a ?_)))
                          all_goals (try simp [go_sem, hq_3, hq_6, hq_27, hn_28, f_301, f_302, f_303, f_304, hq_33, hq_38, hn_39, f_411, f_412, f_413, f_414, hq_44, hc_46, hq_60])
                        · replace hf36 := if_f hc_59 hf36
                          have hq_61 := eq_false hc_59
                          obtain ⟨r_62, hr_62, hf36⟩ := bind_inv hf36
                          try simp -implicitDefEqProofs only [go_sem, simprocAttr, hq_3, hq_6, hq_27, hn_28, f_301, f_302, f_303, f_304, hq_33, hq_38, hn_39, f_411, f_412, f_413, f_414, hq_44, hc_46, hq_61]
                          repeat (first | (with_reducible refine imp_i fun _ => ?_) | (with_reducible refine and_a ?_))
                          refine call_D (lazarettoref01_Meet_ok hr_62) (by simp [go_sem, hq_3, hq_6, hq_27, hn_28, f_301, f_302, f_303, f_304, hq_33, hq_38, hn_39, f_411, f_412, f_413, f_414, hq_44, hc_46, hq_61]) (by simp [go_sem]) (by simp [go_sem]) (by simp [go_sem]) ?_
                          try simp -implicitDefEqProofs only [go_sem, simprocAttr, hq_3, hq_6, hq_27, hn_28, f_301, f_302, f_303, f_304, hq_33, hq_38, hn_39, f_411, f_412, f_413, f_414, hq_44, hc_46, hq_61]
                          repeat (first | (with_reducible refine imp_i fun _ => ?_) | (with_reducible refine and_a ?_))
                          by_cases hc_63 : r_62 < 0
                          · replace hf36 := if_t hc_63 hf36
                            have hq_64 := eq_true hc_63
                            obtain rfl := Option.some.inj hf36
                            obtain rfl := Option.some.inj ho36
                            try dsimp only at hf25
                            obtain rfl := Option.some.inj hf25
                            obtain rfl := Option.some.inj ho25
                            try dsimp only at h
                            obtain rfl := Option.some.inj h
                            try simp -implicitDefEqProofs only [go_sem, simprocAttr, hq_3, hq_6, hq_27, hn_28, f_301, f_302, f_303, f_304, hq_33, hq_38, hn_39, f_411, f_412, f_413, f_414, hq_44, hc_46, hq_61, hq_64]
                            all_goals (repeat (first | (with_reducible refine imp_i fun _ => ?_) | (with_reducible refine and_a ?_)))
                            all_goals (try simp [go_sem, hq_3, hq_6, hq_27, hn_28, f_301, f_302, f_303, f_304, hq_33, hq_38, hn_39, f_411, f_412, f_413, f_414, hq_44, hc_46, hq_61, hq_64])
                          · replace hf36 := if_f hc_63 hf36
                            have hq_65 := eq_false hc_63
                            obtain rfl := Option.some.inj hf36
                            try simp -implicitDefEqProofs only [go_sem, simprocAttr, hq_3, hq_6, hq_27, hn_28, f_301, f_302, f_303, f_304, hq_33, hq_38, hn_39, f_411, f_412, f_413, f_414, hq_44, hc_46, hq_61, hq_65]
                            repeat (first | (with_reducible refine imp_i fun _ => ?_) | (with_reducible refine and_a ?_))
                            have hw_66 := wrap_nat (k := b_34) (by omega)
                            refine purge_P [1, 3, 5, 6] 1 ((fun (s__ : Nat) (a__ : Unit) => match s__, a__ with | b_34, _ => ⟨[(1, .one (.ref 0 0 0 0)), (3, .one (.int .i64 (l.Names.length : Int))), (5, .one (.int .i64 (a_23 : Int))), (6, .one (.int .i64 (b_34 : Int)))], [.cells 0 2 [[.sl (l.Names.map eS), .sl (l.Below.map (eA2 eI))]]]⟩) (b_34 + 1) ()) (by simp) (by simp [go_sem]) (by simp [go_sem]) (by simp [go_sem, copyL, List.map_set, hq_3, hq_6, hq_27, hn_28, f_301, f_302, f_303, f_304, hq_33, hq_38, hn_39, f_411, f_412, f_413, f_414, hq_44, hc_46, hq_61, hq_65, hw_66] <;> omega) ?_
                            exact ih36 (b_34 + 1) () ho36
                  · replace hf36 := if_f hc_37 hf36
                    have hq_67 := eq_false hc_37
                    have hn_68 : ¬ b_34 < a_23 := by omega
                    obtain rfl := Option.some.inj hf36
                    obtain rfl := Option.some.inj ho36
                    try simp -implicitDefEqProofs only [go_sem, simprocAttr, hq_3, hq_6, hq_27, hn_28, f_301, f_302, f_303, f_304, hq_33, hq_67, hn_68]
                    repeat (first | (with_reducible refine imp_i fun _ => ?_) | (with_reducible refine and_a ?_))
                    refine purge_E [1, 3, 5] 1 ((fun (e__ : Int ⊕ Unit) (b__ : Unit) => match e__, b__ with | (.inl e_69), _ => ⟨[], []⟩ | (.inr ()), _ => ⟨[(1, .one (.ref 0 0 0 0)), (3, .one (.int .i64 (l.Names.length : Int))), (5, .one (.int .i64 (a_23 : Int)))], [.cells 0 2 [[.sl (l.Names.map eS), .sl (l.Below.map (eA2 eI))]]]⟩) (.inr ()) ()) (by simp) (by simp [go_sem]) (by simp [go_sem]) (by simp [go_sem, copyL, List.map_set, hq_3, hq_6, hq_27, hn_28, f_301, f_302, f_303, f_304, hq_33, hq_67, hn_68] <;> omega) ?_
                    exact af36 _ () rfl
            · replace hf25 := if_f hc_26 hf25
              have hq_71 := eq_false hc_26
              have hn_72 : ¬ a_23 < l.Names.length := by omega
              obtain rfl := Option.some.inj hf25
              obtain rfl := Option.some.inj ho25
              try simp -implicitDefEqProofs only [go_sem, simprocAttr, hq_3, hq_6, hq_71, hn_72]
              repeat (first | (with_reducible refine imp_i fun _ => ?_) | (with_reducible refine and_a ?_))
              refine purge_E [] 1 ((fun (e__ : Int ⊕ Unit) (b__ : Unit) => match e__, b__ with | (.inl e_73), _ => ⟨[], []⟩ | (.inr ()), _ => ⟨[], [.cells 0 2 [[.sl (l.Names.map eS), .sl (l.Below.map (eA2 eI))]]]⟩) (.inr ()) ()) (by simp) (by simp [go_sem]) (by simp [go_sem]) (by simp [go_sem, copyL, List.map_set, hq_3, hq_6, hq_71, hn_72] <;> omega) ?_
              exact af25 _ () rfl
      · intro af9 m9 i_7 a9 o9 hf9 ho9 ih9
        obtain ⟨⟩ := a9
        dsimp only [lazarettoref01_Check_L1] at hf9 ⊢ ih9
        try simp -implicitDefEqProofs only [go_sem, simprocAttr, hq_3, hq_6]
        repeat (first | (with_reducible refine imp_i fun _ => ?_) | (with_reducible refine and_a ?_))
        by_cases hc_10 : (i_7 : Int) < (l.Below.length : Int)
        · replace hf9 := if_t hc_10 hf9
          have hq_11 := eq_true hc_10
          have hn_12 : i_7 < l.Below.length := by omega
          obtain ⟨x_13, hx_13, hf9⟩ := bind_inv hf9
          obtain ⟨f_141, f_142, f_143, f_144⟩ := nat_facts hx_13
          obtain ⟨r_15, hr_15, hf9⟩ := bind_inv hf9
          try simp -implicitDefEqProofs only [go_sem, simprocAttr, hq_3, hq_6, hq_11, hn_12, f_141, f_142, f_143, f_144]
          repeat (first | (with_reducible refine imp_i fun _ => ?_) | (with_reducible refine and_a ?_))
          refine call_D (lazarettoref01_Is_ok hr_15) (by simp [go_sem, hq_3, hq_6, hq_11, hn_12, f_141, f_142, f_143, f_144]) (by simp [go_sem]) (by simp [go_sem]) (by simp [go_sem]) ?_
          try simp -implicitDefEqProofs only [go_sem, simprocAttr, hq_3, hq_6, hq_11, hn_12, f_141, f_142, f_143, f_144]
          repeat (first | (with_reducible refine imp_i fun _ => ?_) | (with_reducible refine and_a ?_))
          by_cases hc_16 : r_15 = true
          · replace hf9 := if_t hc_16 hf9
            obtain ⟨r_17, hr_17, hf9⟩ := bind_inv hf9
            try simp -implicitDefEqProofs only [go_sem, simprocAttr, hq_3, hq_6, hq_11, hn_12, f_141, f_142, f_143, f_144, hc_16]
            repeat (first | (with_reducible refine imp_i fun _ => ?_) | (with_reducible refine and_a ?_))
            refine call_D (lazarettoref01_Is_ok hr_17) (by simp [go_sem, hq_3, hq_6, hq_11, hn_12, f_141, f_142, f_143, f_144, hc_16]) (by simp [go_sem]) (by simp [go_sem]) (by simp [go_sem]) ?_
            try simp -implicitDefEqProofs only [go_sem, simprocAttr, hq_3, hq_6, hq_11, hn_12, f_141, f_142, f_143, f_144, hc_16]
            repeat (first | (with_reducible refine imp_i fun _ => ?_) | (with_reducible refine and_a ?_))
            by_cases hc_18 : r_17 = true
            · replace hf9 := if_t hc_18 hf9
              obtain rfl := Option.some.inj hf9
              try simp -implicitDefEqProofs only [go_sem, simprocAttr, hq_3, hq_6, hq_11, hn_12, f_141, f_142, f_143, f_144, hc_16, hc_18]
              repeat (first | (with_reducible refine imp_i fun _ => ?_) | (with_reducible refine and_a ?_))
              have hw_19 := wrap_nat (k := i_7) (by omega)
              refine purge_P [1, 3, 4] 1 ((fun (s__ : Nat) (a__ : Unit) => match s__, a__ with | i_7, _ => ⟨[(1, .one (.ref 0 0 0 0)), (3, .one (.int .i64 (l.Names.length : Int))), (4, .one (.int .i64 (i_7 : Int)))], [.cells 0 2 [[.sl (l.Names.map eS), .sl (l.Below.map (eA2 eI))]]]⟩) (i_7 + 1) ()) (by simp) (by simp [go_sem]) (by simp [go_sem]) (by simp [go_sem, copyL, List.map_set, hq_3, hq_6, hq_11, hn_12, f_141, f_142, f_143, f_144, hc_16, hc_18, hw_19] <;> omega) ?_
              exact ih9 (i_7 + 1) () ho9
            · replace hf9 := if_f hc_18 hf9
              have hc_18 := nt_ hc_18
              obtain rfl := Option.some.inj hf9
              obtain rfl := Option.some.inj ho9
              try dsimp only at h
              obtain rfl := Option.some.inj h
              try simp -implicitDefEqProofs only [go_sem, simprocAttr, hq_3, hq_6, hq_11, hn_12, f_141, f_142, f_143, f_144, hc_16, hc_18]
              all_goals (repeat (first | (with_reducible refine imp_i fun _ => ?_) | (with_reducible refine and_a ?_)))
              all_goals (try simp [go_sem, hq_3, hq_6, hq_11, hn_12, f_141, f_142, f_143, f_144, hc_16, hc_18])
          · replace hf9 := if_f hc_16 hf9
            have hc_16 := nt_ hc_16
            obtain rfl := Option.some.inj hf9
            obtain rfl := Option.some.inj ho9
            try dsimp only at h
            obtain rfl := Option.some.inj h
            try simp -implicitDefEqProofs only [go_sem, simprocAttr, hq_3, hq_6, hq_11, hn_12, f_141, f_142, f_143, f_144, hc_16]
            all_goals (repeat (first | (with_reducible refine imp_i fun _ => ?_) | (with_reducible refine and_a ?_)))
            all_goals (try simp [go_sem, hq_3, hq_6, hq_11, hn_12, f_141, f_142, f_143, f_144, hc_16])
        · replace hf9 := if_f hc_10 hf9
          have hq_20 := eq_false hc_10
          have hn_21 : ¬ i_7 < l.Below.length := by omega
          obtain rfl := Option.some.inj hf9
          obtain rfl := Option.some.inj ho9
          try simp -implicitDefEqProofs only [go_sem, simprocAttr, hq_3, hq_6, hq_20, hn_21]
          repeat (first | (with_reducible refine imp_i fun _ => ?_) | (with_reducible refine and_a ?_))
          refine purge_E [1, 3] 1 ((fun (e__ : Int ⊕ Unit) (b__ : Unit) => match e__, b__ with | (.inl e_22), _ => ⟨[], []⟩ | (.inr ()), _ => ⟨[(1, .one (.ref 0 0 0 0)), (3, .one (.int .i64 (l.Names.length : Int)))], [.cells 0 2 [[.sl (l.Names.map eS), .sl (l.Below.map (eA2 eI))]]]⟩) (.inr ()) ()) (by simp) (by simp [go_sem]) (by simp [go_sem]) (by simp [go_sem, copyL, List.map_set, hq_3, hq_6, hq_20, hn_21] <;> omega) ?_
          exact af9 _ () rfl
set_option maxRecDepth 100000 in
theorem lazarettolaw01_few_ok {l : api_Lattice} {r : Bool} (h : lazarettolaw01_few l = some r) :
    Pu Try.prog 32 [.agg (e_api_Lattice l)] (.one (.bool r)) := by
  refine pu_of_awp Try.func32 rfl (by kernel_rfl) (by kernel_rfl) (awp_of_S ?_)
  simp only [Try.f32]
  unfold lazarettolaw01_few at h
  try simp -implicitDefEqProofs only [go_sem, simprocAttr]
  repeat (first | (with_reducible refine imp_i fun _ => ?_) | (with_reducible refine and_a ?_))
  by_cases hc_1 : (l.Names.length : Int) ≤ 12
  · replace h := if_t hc_1 h
    have hq_2 := eq_true hc_1
    obtain rfl := Option.some.inj h
    try simp -implicitDefEqProofs only [go_sem, simprocAttr, hq_2]
    all_goals (repeat (first | (with_reducible refine imp_i fun _ => ?_) | (with_reducible refine and_a ?_)))
    all_goals (try simp [go_sem, hq_2])
  · replace h := if_f hc_1 h
    have hq_3 := eq_false hc_1
    obtain rfl := Option.some.inj h
    try simp -implicitDefEqProofs only [go_sem, simprocAttr, hq_3]
    all_goals (repeat (first | (with_reducible refine imp_i fun _ => ?_) | (with_reducible refine and_a ?_)))
    all_goals (try simp [go_sem, hq_3])
set_option maxRecDepth 100000 in
theorem lattice_best_ok {l : api_Lattice} {of : (Int → Option Bool)} {ahead : (Int → Int → Option Bool)} {r : Int}
    {of_f : FuncId} {of_c : List C} (of_cl : Clo of_c) (of_ok : ∀ (x0 : Int) (r : Bool), of x0 = some r → Pu Try.prog of_f ([.one (.int .i64 x0)] ++ of_c.map V.one) (.one (.bool r)))
    {ahead_f : FuncId} {ahead_c : List C} (ahead_cl : Clo ahead_c) (ahead_ok : ∀ (x0 : Int) (x1 : Int) (r : Bool), ahead x0 x1 = some r → Pu Try.prog ahead_f ([.one (.int .i64 x0), .one (.int .i64 x1)] ++ ahead_c.map V.one) (.one (.bool r))) (h : lattice_best l of ahead = some r) :
    Pu Try.prog 63 [.agg (e_api_Lattice l), .one (.fn of_f of_c), .one (.fn ahead_f ahead_c)] (.one (.int .i64 r)) := by
  refine pu_of_awp Try.func63 rfl (by kernel_rfl) (by kernel_rfl) (awp_of_S ?_)
  simp only [Try.f63]
  unfold lattice_best at h
  have of_v := of_cl.vw
  have of_l := of_cl.lt
  have of_vv := of_cl.vws
  have of_ll := of_cl.lts
  have ahead_v := ahead_cl.vw
  have ahead_l := ahead_cl.lt
  have ahead_vv := ahead_cl.vws
  have ahead_ll := ahead_cl.lts
  obtain ⟨e_2, he_2, h⟩ := bind_inv h
  try simp -implicitDefEqProofs only [go_sem, simprocAttr, of_v, of_l, of_vv, of_ll, ahead_v, ahead_l, ahead_vv, ahead_ll]
  repeat (first | (with_reducible refine imp_i fun _ => ?_) | (with_reducible refine and_a ?_))
  refine purge_to [1, 2, 3, 11, 12] 1 ((fun (s__ : Nat) (a__ : Unit) => match s__, a__ with | x_1, _ => ⟨[(1, .one (.fn of_f of_c)), (2, .one (.fn ahead_f ahead_c)), (3, .one (.ref 0 0 0 0)), (11, .one (.int .i64 (l.Names.length : Int))), (12, .one (.int .i64 (x_1 : Int)))], [.cells 0 2 [[.sl (l.Names.map eS), .sl (l.Below.map (eA2 eI))]]]⟩) 0 ()) (by simp) (by simp [go_sem, of_v, of_l, of_vv, of_ll, ahead_v, ahead_l, ahead_vv, ahead_ll]) (by simp [go_sem, of_v, of_l, of_vv, of_ll, ahead_v, ahead_l, ahead_vv, ahead_ll]) (by simp [go_sem, copyL, List.map_set, of_v, of_l, of_vv, of_ll, ahead_v, ahead_l, ahead_vv, ahead_ll] <;> omega) ?_
  refine loop_X (f := lattice_best_L1 l of ahead) (s0 := 0) (fun (s__ : Nat) (a__ : Unit) => match s__, a__ with | x_1, _ => ⟨[(1, .one (.fn of_f of_c)), (2, .one (.fn ahead_f ahead_c)), (3, .one (.ref 0 0 0 0)), (11, .one (.int .i64 (l.Names.length : Int))), (12, .one (.int .i64 (x_1 : Int)))], [.cells 0 2 [[.sl (l.Names.map eS), .sl (l.Below.map (eA2 eI))]]]⟩) (fun (e__ : Int ⊕ Unit) (b__ : Unit) => match e__, b__ with | (.inl e_27), _ => ⟨[], []⟩ | (.inr ()), _ => ⟨[], [.cells 0 2 [[.sl (l.Names.map eS), .sl (l.Below.map (eA2 eI))]]]⟩) (fun (e__ : Int ⊕ Unit) => match e__ with | (.inl _) => none | (.inr _) => some 0) () he_2 ?_ ?_
  · intro i3 b3 hi3
    rcases e_2 with e_case | ⟨⟩
    · cases hi3
    · obtain rfl := Option.some.inj hi3
      obtain ⟨⟩ := b3
      dsimp only at h ⊢
      obtain rfl := Option.some.inj h
      try simp -implicitDefEqProofs only [go_sem, simprocAttr, of_v, of_l, of_vv, of_ll, ahead_v, ahead_l, ahead_vv, ahead_ll]
      all_goals (repeat (first | (with_reducible refine imp_i fun _ => ?_) | (with_reducible refine and_a ?_)))
      all_goals (try simp [go_sem, of_v, of_l, of_vv, of_ll, ahead_v, ahead_l, ahead_vv, ahead_ll])
  · intro af3 m3 x_1 a3 o3 hf3 ho3 ih3
    obtain ⟨⟩ := a3
    dsimp only [lattice_best_L1] at hf3 ⊢ ih3
    try simp -implicitDefEqProofs only [go_sem, simprocAttr, of_v, of_l, of_vv, of_ll, ahead_v, ahead_l, ahead_vv, ahead_ll]
    repeat (first | (with_reducible refine imp_i fun _ => ?_) | (with_reducible refine and_a ?_))
    by_cases hc_4 : (x_1 : Int) < (l.Names.length : Int)
    · replace hf3 := if_t hc_4 hf3
      have hq_5 := eq_true hc_4
      have hn_6 : x_1 < l.Names.length := by omega
      obtain ⟨r_7, hr_7, hf3⟩ := bind_inv hf3
      try simp -implicitDefEqProofs only [go_sem, simprocAttr, of_v, of_l, of_vv, of_ll, ahead_v, ahead_l, ahead_vv, ahead_ll, hq_5, hn_6]
      repeat (first | (with_reducible refine imp_i fun _ => ?_) | (with_reducible refine and_a ?_))
      refine call_S (of_ok _ _ hr_7) (by simp [go_sem, of_v, of_l, of_vv, of_ll, ahead_v, ahead_l, ahead_vv, ahead_ll, hq_5, hn_6]) (by simp [go_sem, of_v, of_l, of_vv, of_ll, ahead_v, ahead_l, ahead_vv, ahead_ll]) (by simp [go_sem, of_v, of_l, of_vv, of_ll, ahead_v, ahead_l, ahead_vv, ahead_ll]) (by simp [go_sem, of_v, of_l, of_vv, of_ll, ahead_v, ahead_l, ahead_vv, ahead_ll]) ?_
      try simp -implicitDefEqProofs only [go_sem, simprocAttr, of_v, of_l, of_vv, of_ll, ahead_v, ahead_l, ahead_vv, ahead_ll, hq_5, hn_6]
      repeat (first | (with_reducible refine imp_i fun _ => ?_) | (with_reducible refine and_a ?_))
      by_cases hc_8 : r_7 = true
      · replace hf3 := if_t hc_8 hf3
        obtain ⟨e_10, he_10, hf3⟩ := bind_inv hf3
        try simp -implicitDefEqProofs only [go_sem, simprocAttr, of_v, of_l, of_vv, of_ll, ahead_v, ahead_l, ahead_vv, ahead_ll, hq_5, hn_6, hc_8]
        repeat (first | (with_reducible refine imp_i fun _ => ?_) | (with_reducible refine and_a ?_))
        refine purge_to [1, 2, 3, 7, 11, 12, 21, 22] 1 ((fun (s__ : Nat) (a__ : Unit) => match s__, a__ with | x_9, _ => ⟨[(1, .one (.fn of_f of_c)), (2, .one (.fn ahead_f ahead_c)), (3, .one (.ref 0 0 0 0)), (7, .one (.int .i64 (x_1 : Int))), (11, .one (.int .i64 (l.Names.length : Int))), (12, .one (.int .i64 (x_1 : Int))), (21, .one (.int .i64 (l.Names.length : Int))), (22, .one (.int .i64 (x_9 : Int)))], [.cells 0 2 [[.sl (l.Names.map eS), .sl (l.Below.map (eA2 eI))]]]⟩) 0 ()) (by simp) (by simp [go_sem, of_v, of_l, of_vv, of_ll, ahead_v, ahead_l, ahead_vv, ahead_ll]) (by simp [go_sem, of_v, of_l, of_vv, of_ll, ahead_v, ahead_l, ahead_vv, ahead_ll]) (by simp [go_sem, copyL, List.map_set, of_v, of_l, of_vv, of_ll, ahead_v, ahead_l, ahead_vv, ahead_ll, hq_5, hn_6, hc_8] <;> omega) ?_
        refine loop_X (f := lattice_best_L2 l of ahead x_1) (s0 := 0) (fun (s__ : Nat) (a__ : Unit) => match s__, a__ with | x_9, _ => ⟨[(1, .one (.fn of_f of_c)), (2, .one (.fn ahead_f ahead_c)), (3, .one (.ref 0 0 0 0)), (7, .one (.int .i64 (x_1 : Int))), (11, .one (.int .i64 (l.Names.length : Int))), (12, .one (.int .i64 (x_1 : Int))), (21, .one (.int .i64 (l.Names.length : Int))), (22, .one (.int .i64 (x_9 : Int)))], [.cells 0 2 [[.sl (l.Names.map eS), .sl (l.Below.map (eA2 eI))]]]⟩) (fun (e__ : Unit ⊕ Unit) (b__ : Unit) => match e__, b__ with | (.inl ()), _ => ⟨[(1, .one (.fn of_f of_c)), (2, .one (.fn ahead_f ahead_c)), (3, .one (.ref 0 0 0 0)), (11, .one (.int .i64 (l.Names.length : Int))), (12, .one (.int .i64 (x_1 : Int)))], [.cells 0 2 [[.sl (l.Names.map eS), .sl (l.Below.map (eA2 eI))]]]⟩ | (.inr ()), _ => ⟨[(7, .one (.int .i64 (x_1 : Int)))], [.cells 0 2 [[.sl (l.Names.map eS), .sl (l.Below.map (eA2 eI))]]]⟩) (fun (e__ : Unit ⊕ Unit) => match e__ with | (.inl _) => some 1 | (.inr _) => some 2) () he_10 ?_ ?_
        · intro i11 b11 hi11
          rcases e_10 with ⟨⟩ | ⟨⟩
          · obtain rfl := Option.some.inj hi11
            obtain ⟨⟩ := b11
            dsimp only at hf3 ⊢
            obtain rfl := Option.some.inj hf3
            try simp -implicitDefEqProofs only [go_sem, simprocAttr, of_v, of_l, of_vv, of_ll, ahead_v, ahead_l, ahead_vv, ahead_ll, hq_5, hn_6, hc_8]
            repeat (first | (with_reducible refine imp_i fun _ => ?_) | (with_reducible refine and_a ?_))
            have hw_23 := wrap_nat (k := x_1) (by omega)
            refine purge_P [1, 2, 3, 11, 12] 1 ((fun (s__ : Nat) (a__ : Unit) => match s__, a__ with | x_1, _ => ⟨[(1, .one (.fn of_f of_c)), (2, .one (.fn ahead_f ahead_c)), (3, .one (.ref 0 0 0 0)), (11, .one (.int .i64 (l.Names.length : Int))), (12, .one (.int .i64 (x_1 : Int)))], [.cells 0 2 [[.sl (l.Names.map eS), .sl (l.Below.map (eA2 eI))]]]⟩) (x_1 + 1) ()) (by simp) (by simp [go_sem, of_v, of_l, of_vv, of_ll, ahead_v, ahead_l, ahead_vv, ahead_ll]) (by simp [go_sem, of_v, of_l, of_vv, of_ll, ahead_v, ahead_l, ahead_vv, ahead_ll]) (by simp [go_sem, copyL, List.map_set, of_v, of_l, of_vv, of_ll, ahead_v, ahead_l, ahead_vv, ahead_ll, hq_5, hn_6, hc_8, hw_23] <;> omega) ?_
            exact ih3 (x_1 + 1) () ho3
          · obtain rfl := Option.some.inj hi11
            obtain ⟨⟩ := b11
            dsimp only at hf3 ⊢
            obtain rfl := Option.some.inj hf3
            obtain rfl := Option.some.inj ho3
            try dsimp only at h
            obtain rfl := Option.some.inj h
            try simp -implicitDefEqProofs only [go_sem, simprocAttr, of_v, of_l, of_vv, of_ll, ahead_v, ahead_l, ahead_vv, ahead_ll, hq_5, hn_6, hc_8]
            all_goals (repeat (first | (with_reducible refine imp_i fun _ => ?_) | (with_reducible refine and_a ?_)))
            all_goals (try simp [go_sem, of_v, of_l, of_vv, of_ll, ahead_v, ahead_l, ahead_vv, ahead_ll, hq_5, hn_6, hc_8])
        · intro af11 m11 x_9 a11 o11 hf11 ho11 ih11
          obtain ⟨⟩ := a11
          dsimp only [lattice_best_L2] at hf11 ⊢ ih11
          try simp -implicitDefEqProofs only [go_sem, simprocAttr, of_v, of_l, of_vv, of_ll, ahead_v, ahead_l, ahead_vv, ahead_ll, hq_5, hn_6, hc_8]
          repeat (first | (with_reducible refine imp_i fun _ => ?_) | (with_reducible refine and_a ?_))
          by_cases hc_12 : (x_9 : Int) < (l.Names.length : Int)
          · replace hf11 := if_t hc_12 hf11
            have hq_13 := eq_true hc_12
            have hn_14 : x_9 < l.Names.length := by omega
            obtain ⟨r_15, hr_15, hf11⟩ := bind_inv hf11
            try simp -implicitDefEqProofs only [go_sem, simprocAttr, of_v, of_l, of_vv, of_ll, ahead_v, ahead_l, ahead_vv, ahead_ll, hq_5, hn_6, hc_8, hq_13, hn_14]
            repeat (first | (with_reducible refine imp_i fun _ => ?_) | (with_reducible refine and_a ?_))
            refine call_S (of_ok _ _ hr_15) (by simp [go_sem, of_v, of_l, of_vv, of_ll, ahead_v, ahead_l, ahead_vv, ahead_ll, hq_5, hn_6, hc_8, hq_13, hn_14]) (by simp [go_sem, of_v, of_l, of_vv, of_ll, ahead_v, ahead_l, ahead_vv, ahead_ll]) (by simp [go_sem, of_v, of_l, of_vv, of_ll, ahead_v, ahead_l, ahead_vv, ahead_ll]) (by simp [go_sem, of_v, of_l, of_vv, of_ll, ahead_v, ahead_l, ahead_vv, ahead_ll]) ?_
            try simp -implicitDefEqProofs only [go_sem, simprocAttr, of_v, of_l, of_vv, of_ll, ahead_v, ahead_l, ahead_vv, ahead_ll, hq_5, hn_6, hc_8, hq_13, hn_14]
            repeat (first | (with_reducible refine imp_i fun _ => ?_) | (with_reducible refine and_a ?_))
            by_cases hc_16 : r_15 = true
            · replace hf11 := if_t hc_16 hf11
              obtain ⟨r_17, hr_17, hf11⟩ := bind_inv hf11
              try simp -implicitDefEqProofs only [go_sem, simprocAttr, of_v, of_l, of_vv, of_ll, ahead_v, ahead_l, ahead_vv, ahead_ll, hq_5, hn_6, hc_8, hq_13, hn_14, hc_16]
              repeat (first | (with_reducible refine imp_i fun _ => ?_) | (with_reducible refine and_a ?_))
              refine call_S (ahead_ok _ _ _ hr_17) (by simp [go_sem, of_v, of_l, of_vv, of_ll, ahead_v, ahead_l, ahead_vv, ahead_ll, hq_5, hn_6, hc_8, hq_13, hn_14, hc_16]) (by simp [go_sem, of_v, of_l, of_vv, of_ll, ahead_v, ahead_l, ahead_vv, ahead_ll]) (by simp [go_sem, of_v, of_l, of_vv, of_ll, ahead_v, ahead_l, ahead_vv, ahead_ll]) (by simp [go_sem, of_v, of_l, of_vv, of_ll, ahead_v, ahead_l, ahead_vv, ahead_ll]) ?_
              try simp -implicitDefEqProofs only [go_sem, simprocAttr, of_v, of_l, of_vv, of_ll, ahead_v, ahead_l, ahead_vv, ahead_ll, hq_5, hn_6, hc_8, hq_13, hn_14, hc_16]
              repeat (first | (with_reducible refine imp_i fun _ => ?_) | (with_reducible refine and_a ?_))
              by_cases hc_18 : r_17 = true
              · replace hf11 := if_t hc_18 hf11
                obtain rfl := Option.some.inj hf11
                try simp -implicitDefEqProofs only [go_sem, simprocAttr, of_v, of_l, of_vv, of_ll, ahead_v, ahead_l, ahead_vv, ahead_ll, hq_5, hn_6, hc_8, hq_13, hn_14, hc_16, hc_18]
                repeat (first | (with_reducible refine imp_i fun _ => ?_) | (with_reducible refine and_a ?_))
                have hw_19 := wrap_nat (k := x_9) (by omega)
                refine purge_P [1, 2, 3, 7, 11, 12, 21, 22] 1 ((fun (s__ : Nat) (a__ : Unit) => match s__, a__ with | x_9, _ => ⟨[(1, .one (.fn of_f of_c)), (2, .one (.fn ahead_f ahead_c)), (3, .one (.ref 0 0 0 0)), (7, .one (.int .i64 (x_1 : Int))), (11, .one (.int .i64 (l.Names.length : Int))), (12, .one (.int .i64 (x_1 : Int))), (21, .one (.int .i64 (l.Names.length : Int))), (22, .one (.int .i64 (x_9 : Int)))], [.cells 0 2 [[.sl (l.Names.map eS), .sl (l.Below.map (eA2 eI))]]]⟩) (x_9 + 1) ()) (by simp) (by simp [go_sem, of_v, of_l, of_vv, of_ll, ahead_v, ahead_l, ahead_vv, ahead_ll]) (by simp [go_sem, of_v, of_l, of_vv, of_ll, ahead_v, ahead_l, ahead_vv, ahead_ll]) (by simp [go_sem, copyL, List.map_set, of_v, of_l, of_vv, of_ll, ahead_v, ahead_l, ahead_vv, ahead_ll, hq_5, hn_6, hc_8, hq_13, hn_14, hc_16, hc_18, hw_19] <;> omega) ?_
                exact ih11 (x_9 + 1) () ho11
              · replace hf11 := if_f hc_18 hf11
                have hc_18 := nt_ hc_18
                obtain rfl := Option.some.inj hf11
                obtain rfl := Option.some.inj ho11
                try simp -implicitDefEqProofs only [go_sem, simprocAttr, of_v, of_l, of_vv, of_ll, ahead_v, ahead_l, ahead_vv, ahead_ll, hq_5, hn_6, hc_8, hq_13, hn_14, hc_16, hc_18]
                repeat (first | (with_reducible refine imp_i fun _ => ?_) | (with_reducible refine and_a ?_))
                refine purge_E [1, 2, 3, 11, 12] 1 ((fun (e__ : Unit ⊕ Unit) (b__ : Unit) => match e__, b__ with | (.inl ()), _ => ⟨[(1, .one (.fn of_f of_c)), (2, .one (.fn ahead_f ahead_c)), (3, .one (.ref 0 0 0 0)), (11, .one (.int .i64 (l.Names.length : Int))), (12, .one (.int .i64 (x_1 : Int)))], [.cells 0 2 [[.sl (l.Names.map eS), .sl (l.Below.map (eA2 eI))]]]⟩ | (.inr ()), _ => ⟨[(7, .one (.int .i64 (x_1 : Int)))], [.cells 0 2 [[.sl (l.Names.map eS), .sl (l.Below.map (eA2 eI))]]]⟩) (.inl ()) ()) (by simp) (by simp [go_sem, of_v, of_l, of_vv, of_ll, ahead_v, ahead_l, ahead_vv, ahead_ll]) (by simp [go_sem, of_v, of_l, of_vv, of_ll, ahead_v, ahead_l, ahead_vv, ahead_ll]) (by simp [go_sem, copyL, List.map_set, of_v, of_l, of_vv, of_ll, ahead_v, ahead_l, ahead_vv, ahead_ll, hq_5, hn_6, hc_8, hq_13, hn_14, hc_16, hc_18] <;> omega) ?_
                exact af11 _ () rfl
            · replace hf11 := if_f hc_16 hf11
              have hc_16 := nt_ hc_16
              obtain rfl := Option.some.inj hf11
              try simp -implicitDefEqProofs only [go_sem, simprocAttr, of_v, of_l, of_vv, of_ll, ahead_v, ahead_l, ahead_vv, ahead_ll, hq_5, hn_6, hc_8, hq_13, hn_14, hc_16]
              repeat (first | (with_reducible refine imp_i fun _ => ?_) | (with_reducible refine and_a ?_))
              have hw_20 := wrap_nat (k := x_9) (by omega)
              refine purge_P [1, 2, 3, 7, 11, 12, 21, 22] 1 ((fun (s__ : Nat) (a__ : Unit) => match s__, a__ with | x_9, _ => ⟨[(1, .one (.fn of_f of_c)), (2, .one (.fn ahead_f ahead_c)), (3, .one (.ref 0 0 0 0)), (7, .one (.int .i64 (x_1 : Int))), (11, .one (.int .i64 (l.Names.length : Int))), (12, .one (.int .i64 (x_1 : Int))), (21, .one (.int .i64 (l.Names.length : Int))), (22, .one (.int .i64 (x_9 : Int)))], [.cells 0 2 [[.sl (l.Names.map eS), .sl (l.Below.map (eA2 eI))]]]⟩) (x_9 + 1) ()) (by simp) (by simp [go_sem, of_v, of_l, of_vv, of_ll, ahead_v, ahead_l, ahead_vv, ahead_ll]) (by simp [go_sem, of_v, of_l, of_vv, of_ll, ahead_v, ahead_l, ahead_vv, ahead_ll]) (by simp [go_sem, copyL, List.map_set, of_v, of_l, of_vv, of_ll, ahead_v, ahead_l, ahead_vv, ahead_ll, hq_5, hn_6, hc_8, hq_13, hn_14, hc_16, hw_20] <;> omega) ?_
              exact ih11 (x_9 + 1) () ho11
          · replace hf11 := if_f hc_12 hf11
            have hq_21 := eq_false hc_12
            have hn_22 : ¬ x_9 < l.Names.length := by omega
            obtain rfl := Option.some.inj hf11
            obtain rfl := Option.some.inj ho11
            try simp -implicitDefEqProofs only [go_sem, simprocAttr, of_v, of_l, of_vv, of_ll, ahead_v, ahead_l, ahead_vv, ahead_ll, hq_5, hn_6, hc_8, hq_21, hn_22]
            repeat (first | (with_reducible refine imp_i fun _ => ?_) | (with_reducible refine and_a ?_))
            refine purge_E [7] 1 ((fun (e__ : Unit ⊕ Unit) (b__ : Unit) => match e__, b__ with | (.inl ()), _ => ⟨[(1, .one (.fn of_f of_c)), (2, .one (.fn ahead_f ahead_c)), (3, .one (.ref 0 0 0 0)), (11, .one (.int .i64 (l.Names.length : Int))), (12, .one (.int .i64 (x_1 : Int)))], [.cells 0 2 [[.sl (l.Names.map eS), .sl (l.Below.map (eA2 eI))]]]⟩ | (.inr ()), _ => ⟨[(7, .one (.int .i64 (x_1 : Int)))], [.cells 0 2 [[.sl (l.Names.map eS), .sl (l.Below.map (eA2 eI))]]]⟩) (.inr ()) ()) (by simp) (by simp [go_sem, of_v, of_l, of_vv, of_ll, ahead_v, ahead_l, ahead_vv, ahead_ll]) (by simp [go_sem, of_v, of_l, of_vv, of_ll, ahead_v, ahead_l, ahead_vv, ahead_ll]) (by simp [go_sem, copyL, List.map_set, of_v, of_l, of_vv, of_ll, ahead_v, ahead_l, ahead_vv, ahead_ll, hq_5, hn_6, hc_8, hq_21, hn_22] <;> omega) ?_
            exact af11 _ () rfl
      · replace hf3 := if_f hc_8 hf3
        have hc_8 := nt_ hc_8
        obtain rfl := Option.some.inj hf3
        try simp -implicitDefEqProofs only [go_sem, simprocAttr, of_v, of_l, of_vv, of_ll, ahead_v, ahead_l, ahead_vv, ahead_ll, hq_5, hn_6, hc_8]
        repeat (first | (with_reducible refine imp_i fun _ => ?_) | (with_reducible refine and_a ?_))
        have hw_24 := wrap_nat (k := x_1) (by omega)
        refine purge_P [1, 2, 3, 11, 12] 1 ((fun (s__ : Nat) (a__ : Unit) => match s__, a__ with | x_1, _ => ⟨[(1, .one (.fn of_f of_c)), (2, .one (.fn ahead_f ahead_c)), (3, .one (.ref 0 0 0 0)), (11, .one (.int .i64 (l.Names.length : Int))), (12, .one (.int .i64 (x_1 : Int)))], [.cells 0 2 [[.sl (l.Names.map eS), .sl (l.Below.map (eA2 eI))]]]⟩) (x_1 + 1) ()) (by simp) (by simp [go_sem, of_v, of_l, of_vv, of_ll, ahead_v, ahead_l, ahead_vv, ahead_ll]) (by simp [go_sem, of_v, of_l, of_vv, of_ll, ahead_v, ahead_l, ahead_vv, ahead_ll]) (by simp [go_sem, copyL, List.map_set, of_v, of_l, of_vv, of_ll, ahead_v, ahead_l, ahead_vv, ahead_ll, hq_5, hn_6, hc_8, hw_24] <;> omega) ?_
        exact ih3 (x_1 + 1) () ho3
    · replace hf3 := if_f hc_4 hf3
      have hq_25 := eq_false hc_4
      have hn_26 : ¬ x_1 < l.Names.length := by omega
      obtain rfl := Option.some.inj hf3
      obtain rfl := Option.some.inj ho3
      try simp -implicitDefEqProofs only [go_sem, simprocAttr, of_v, of_l, of_vv, of_ll, ahead_v, ahead_l, ahead_vv, ahead_ll, hq_25, hn_26]
      repeat (first | (with_reducible refine imp_i fun _ => ?_) | (with_reducible refine and_a ?_))
      refine purge_E [] 1 ((fun (e__ : Int ⊕ Unit) (b__ : Unit) => match e__, b__ with | (.inl e_27), _ => ⟨[], []⟩ | (.inr ()), _ => ⟨[], [.cells 0 2 [[.sl (l.Names.map eS), .sl (l.Below.map (eA2 eI))]]]⟩) (.inr ()) ()) (by simp) (by simp [go_sem, of_v, of_l, of_vv, of_ll, ahead_v, ahead_l, ahead_vv, ahead_ll]) (by simp [go_sem, of_v, of_l, of_vv, of_ll, ahead_v, ahead_l, ahead_vv, ahead_ll]) (by simp [go_sem, copyL, List.map_set, of_v, of_l, of_vv, of_ll, ahead_v, ahead_l, ahead_vv, ahead_ll, hq_25, hn_26] <;> omega) ?_
      exact af3 _ () rfl
set_option maxRecDepth 100000 in
theorem lattice_Join_1_ok {c0 : List Bool} {c1 : List Bool} {c : Int} {r : Bool} (h : lattice_Join_1 c0 c1 c = some r) :
    Pu Try.prog 64 [.one (.int .i64 c), .one (.iptr ((eL eB) c0) 0), .one (.iptr ((eL eB) c1) 0)] (.one (.bool r)) := by
  refine pu_of_awp Try.func64 rfl (by kernel_rfl) (by kernel_rfl) (awp_of_S ?_)
  simp only [Try.f64]
  unfold lattice_Join_1 at h
  obtain ⟨x_1, hx_1, h⟩ := bind_inv h
  obtain ⟨f_21, f_22, f_23, f_24⟩ := idx_facts hx_1
  try simp -implicitDefEqProofs only [go_sem, simprocAttr, f_21, f_22, f_23, f_24]
  repeat (first | (with_reducible refine imp_i fun _ => ?_) | (with_reducible refine and_a ?_))
  by_cases hc_3 : x_1 = true
  · replace h := if_t hc_3 h
    obtain ⟨x_4, hx_4, h⟩ := bind_inv h
    obtain ⟨f_51, f_52, f_53, f_54⟩ := idx_facts hx_4
    obtain rfl := Option.some.inj h
    try simp -implicitDefEqProofs only [go_sem, simprocAttr, f_21, f_22, f_23, f_24, hc_3, f_51, f_52, f_53, f_54]
    all_goals (repeat (first | (with_reducible refine imp_i fun _ => ?_) | (with_reducible refine and_a ?_)))
    all_goals (try simp [go_sem, f_21, f_22, f_23, f_24, hc_3, f_51, f_52, f_53, f_54])
  · replace h := if_f hc_3 h
    have hc_3 := nt_ hc_3
    obtain rfl := Option.some.inj h
    try simp -implicitDefEqProofs only [go_sem, simprocAttr, f_21, f_22, f_23, f_24, hc_3]
    all_goals (repeat (first | (with_reducible refine imp_i fun _ => ?_) | (with_reducible refine and_a ?_)))
    all_goals (try simp [go_sem, f_21, f_22, f_23, f_24, hc_3])
set_option maxRecDepth 100000 in
theorem lattice_Join_2_ok {c0 : api_Lattice} {c : Int} {d : Int} {r : Bool} (h : lattice_Join_2 c0 c d = some r) :
    Pu Try.prog 65 [.one (.int .i64 c), .one (.int .i64 d), .one (.iptr (e_api_Lattice c0) 0)] (.one (.bool r)) := by
  refine pu_of_awp Try.func65 rfl (by kernel_rfl) (by kernel_rfl) (awp_of_S ?_)
  simp only [Try.f65]
  unfold lattice_Join_2 at h
  obtain ⟨r_1, hr_1, h⟩ := bind_inv h
  try simp -implicitDefEqProofs only [go_sem, simprocAttr]
  repeat (first | (with_reducible refine imp_i fun _ => ?_) | (with_reducible refine and_a ?_))
  refine call_S (lattice_Leq_ok hr_1) (by simp [go_sem]) (by simp [go_sem]) (by simp [go_sem]) (by simp [go_sem]) ?_
  obtain rfl := Option.some.inj h
  try simp -implicitDefEqProofs only [go_sem, simprocAttr]
  all_goals (repeat (first | (with_reducible refine imp_i fun _ => ?_) | (with_reducible refine and_a ?_)))
  all_goals (try simp [go_sem])
set_option maxRecDepth 100000 in
theorem lattice_Join_ok {l : api_Lattice} {a : Int} {b : Int} {r : Int} (h : lattice_Join l a b = some r) :
    Pu Try.prog 35 [.agg (e_api_Lattice l), .one (.int .i64 a), .one (.int .i64 b)] (.one (.int .i64 r)) := by
  refine pu_of_awp Try.func35 rfl (by kernel_rfl) (by kernel_rfl) (awp_of_S ?_)
  simp only [Try.f35]
  unfold lattice_Join at h
  obtain ⟨r_1, hr_1, h⟩ := bind_inv h
  try simp -implicitDefEqProofs only [go_sem, simprocAttr]
  repeat (first | (with_reducible refine imp_i fun _ => ?_) | (with_reducible refine and_a ?_))
  refine call_S (lattice_is_ok hr_1) (by simp [go_sem]) (by simp [go_sem]) (by simp [go_sem]) (by simp [go_sem]) ?_
  try simp -implicitDefEqProofs only [go_sem, simprocAttr]
  repeat (first | (with_reducible refine imp_i fun _ => ?_) | (with_reducible refine and_a ?_))
  by_cases hc_2 : r_1 = true
  · replace h := if_t hc_2 h
    obtain ⟨r_3, hr_3, h⟩ := bind_inv h
    try simp -implicitDefEqProofs only [go_sem, simprocAttr, hc_2]
    repeat (first | (with_reducible refine imp_i fun _ => ?_) | (with_reducible refine and_a ?_))
    refine call_S (lattice_is_ok hr_3) (by simp [go_sem, hc_2]) (by simp [go_sem]) (by simp [go_sem]) (by simp [go_sem]) ?_
    try simp -implicitDefEqProofs only [go_sem, simprocAttr, hc_2]
    repeat (first | (with_reducible refine imp_i fun _ => ?_) | (with_reducible refine and_a ?_))
    by_cases hc_4 : r_3 = true
    · replace h := if_t hc_4 h
      obtain ⟨r_5, hr_5, h⟩ := bind_inv h
      try simp -implicitDefEqProofs only [go_sem, simprocAttr, hc_2, hc_4]
      repeat (first | (with_reducible refine imp_i fun _ => ?_) | (with_reducible refine and_a ?_))
      refine call_D (lattice_above_ok hr_5) (by simp [go_sem, hc_2, hc_4]) (by simp [go_sem]) (by simp [go_sem]) (by simp [go_sem]) ?_
      obtain ⟨r_6, hr_6, h⟩ := bind_inv h
      try simp -implicitDefEqProofs only [go_sem, simprocAttr, hc_2, hc_4]
      repeat (first | (with_reducible refine imp_i fun _ => ?_) | (with_reducible refine and_a ?_))
      refine call_D (lattice_above_ok hr_6) (by simp [go_sem, hc_2, hc_4]) (by simp [go_sem]) (by simp [go_sem]) (by simp [go_sem]) ?_
      obtain ⟨r_7, hr_7, h⟩ := bind_inv h
      try simp -implicitDefEqProofs only [go_sem, simprocAttr, hc_2, hc_4]
      repeat (first | (with_reducible refine imp_i fun _ => ?_) | (with_reducible refine and_a ?_))
      refine call_S (lattice_best_ok (of_f := 64) (of_c := [.iptr [.sl (r_5.map eB)] 0, .iptr [.sl (r_6.map eB)] 0]) (by first | exact Clo.nil | exact ⟨by simp [go_sem], by simp [go_sem]⟩) (fun _ r h => lattice_Join_1_ok h) (ahead_f := 65) (ahead_c := [.iptr [.sl (l.Names.map eS), .sl (l.Below.map (eA2 eI))] 0]) (by first | exact Clo.nil | exact ⟨by simp [go_sem], by simp [go_sem]⟩) (fun _ _ r h => lattice_Join_2_ok h) hr_7) (by simp [go_sem, hc_2, hc_4]) (by simp [go_sem]) (by simp [go_sem]) (by simp [go_sem]) ?_
      obtain rfl := Option.some.inj h
      try simp -implicitDefEqProofs only [go_sem, simprocAttr, hc_2, hc_4]
      all_goals (repeat (first | (with_reducible refine imp_i fun _ => ?_) | (with_reducible refine and_a ?_)))
      all_goals (try simp [go_sem, hc_2, hc_4])
    · replace h := if_f hc_4 h
      have hc_4 := nt_ hc_4
      obtain rfl := Option.some.inj h
      try simp -implicitDefEqProofs only [go_sem, simprocAttr, hc_2, hc_4]
      all_goals (repeat (first | (with_reducible refine imp_i fun _ => ?_) | (with_reducible refine and_a ?_)))
      all_goals (try simp [go_sem, hc_2, hc_4])
  · replace h := if_f hc_2 h
    have hc_2 := nt_ hc_2
    obtain rfl := Option.some.inj h
    try simp -implicitDefEqProofs only [go_sem, simprocAttr, hc_2]
    all_goals (repeat (first | (with_reducible refine imp_i fun _ => ?_) | (with_reducible refine and_a ?_)))
    all_goals (try simp [go_sem, hc_2])
set_option maxRecDepth 100000 in
theorem lattice_Meet_1_ok {c0 : api_Lattice} {c1 : Int} {c2 : Int} {c : Int} {r : Bool} (h : lattice_Meet_1 c0 c1 c2 c = some r) :
    Pu Try.prog 66 [.one (.int .i64 c), .one (.iptr (e_api_Lattice c0) 0), .one (.iptr (eI c1) 0), .one (.iptr (eI c2) 0)] (.one (.bool r)) := by
  refine pu_of_awp Try.func66 rfl (by kernel_rfl) (by kernel_rfl) (awp_of_S ?_)
  simp only [Try.f66]
  unfold lattice_Meet_1 at h
  obtain ⟨r_1, hr_1, h⟩ := bind_inv h
  try simp -implicitDefEqProofs only [go_sem, simprocAttr]
  repeat (first | (with_reducible refine imp_i fun _ => ?_) | (with_reducible refine and_a ?_))
  refine call_S (lattice_Leq_ok hr_1) (by simp [go_sem]) (by simp [go_sem]) (by simp [go_sem]) (by simp [go_sem]) ?_
  try simp -implicitDefEqProofs only [go_sem, simprocAttr]
  repeat (first | (with_reducible refine imp_i fun _ => ?_) | (with_reducible refine and_a ?_))
  by_cases hc_2 : r_1 = true
  · replace h := if_t hc_2 h
    obtain ⟨r_3, hr_3, h⟩ := bind_inv h
    try simp -implicitDefEqProofs only [go_sem, simprocAttr, hc_2]
    repeat (first | (with_reducible refine imp_i fun _ => ?_) | (with_reducible refine and_a ?_))
    refine call_S (lattice_Leq_ok hr_3) (by simp [go_sem, hc_2]) (by simp [go_sem]) (by simp [go_sem]) (by simp [go_sem]) ?_
    obtain rfl := Option.some.inj h
    try simp -implicitDefEqProofs only [go_sem, simprocAttr, hc_2]
    all_goals (repeat (first | (with_reducible refine imp_i fun _ => ?_) | (with_reducible refine and_a ?_)))
    all_goals (try simp [go_sem, hc_2])
  · replace h := if_f hc_2 h
    have hc_2 := nt_ hc_2
    obtain rfl := Option.some.inj h
    try simp -implicitDefEqProofs only [go_sem, simprocAttr, hc_2]
    all_goals (repeat (first | (with_reducible refine imp_i fun _ => ?_) | (with_reducible refine and_a ?_)))
    all_goals (try simp [go_sem, hc_2])
set_option maxRecDepth 100000 in
theorem lattice_Meet_2_ok {c0 : api_Lattice} {c : Int} {d : Int} {r : Bool} (h : lattice_Meet_2 c0 c d = some r) :
    Pu Try.prog 67 [.one (.int .i64 c), .one (.int .i64 d), .one (.iptr (e_api_Lattice c0) 0)] (.one (.bool r)) := by
  refine pu_of_awp Try.func67 rfl (by kernel_rfl) (by kernel_rfl) (awp_of_S ?_)
  simp only [Try.f67]
  unfold lattice_Meet_2 at h
  obtain ⟨r_1, hr_1, h⟩ := bind_inv h
  try simp -implicitDefEqProofs only [go_sem, simprocAttr]
  repeat (first | (with_reducible refine imp_i fun _ => ?_) | (with_reducible refine and_a ?_))
  refine call_S (lattice_Leq_ok hr_1) (by simp [go_sem]) (by simp [go_sem]) (by simp [go_sem]) (by simp [go_sem]) ?_
  obtain rfl := Option.some.inj h
  try simp -implicitDefEqProofs only [go_sem, simprocAttr]
  all_goals (repeat (first | (with_reducible refine imp_i fun _ => ?_) | (with_reducible refine and_a ?_)))
  all_goals (try simp [go_sem])
set_option maxRecDepth 100000 in
theorem lattice_Meet_ok {l : api_Lattice} {a : Int} {b : Int} {r : Int} (h : lattice_Meet l a b = some r) :
    Pu Try.prog 37 [.agg (e_api_Lattice l), .one (.int .i64 a), .one (.int .i64 b)] (.one (.int .i64 r)) := by
  refine pu_of_awp Try.func37 rfl (by kernel_rfl) (by kernel_rfl) (awp_of_S ?_)
  simp only [Try.f37]
  unfold lattice_Meet at h
  obtain ⟨r_1, hr_1, h⟩ := bind_inv h
  try simp -implicitDefEqProofs only [go_sem, simprocAttr]
  repeat (first | (with_reducible refine imp_i fun _ => ?_) | (with_reducible refine and_a ?_))
  refine call_S (lattice_is_ok hr_1) (by simp [go_sem]) (by simp [go_sem]) (by simp [go_sem]) (by simp [go_sem]) ?_
  try simp -implicitDefEqProofs only [go_sem, simprocAttr]
  repeat (first | (with_reducible refine imp_i fun _ => ?_) | (with_reducible refine and_a ?_))
  by_cases hc_2 : r_1 = true
  · replace h := if_t hc_2 h
    obtain ⟨r_3, hr_3, h⟩ := bind_inv h
    try simp -implicitDefEqProofs only [go_sem, simprocAttr, hc_2]
    repeat (first | (with_reducible refine imp_i fun _ => ?_) | (with_reducible refine and_a ?_))
    refine call_S (lattice_is_ok hr_3) (by simp [go_sem, hc_2]) (by simp [go_sem]) (by simp [go_sem]) (by simp [go_sem]) ?_
    try simp -implicitDefEqProofs only [go_sem, simprocAttr, hc_2]
    repeat (first | (with_reducible refine imp_i fun _ => ?_) | (with_reducible refine and_a ?_))
    by_cases hc_4 : r_3 = true
    · replace h := if_t hc_4 h
      obtain ⟨r_5, hr_5, h⟩ := bind_inv h
      try simp -implicitDefEqProofs only [go_sem, simprocAttr, hc_2, hc_4]
      repeat (first | (with_reducible refine imp_i fun _ => ?_) | (with_reducible refine and_a ?_))
      refine call_S (lattice_best_ok (of_f := 66) (of_c := [.iptr [.sl (l.Names.map eS), .sl (l.Below.map (eA2 eI))] 0, .iptr [.int .i64 a] 0, .iptr [.int .i64 b] 0]) (by first | exact Clo.nil | exact ⟨by simp [go_sem], by simp [go_sem]⟩) (fun _ r h => lattice_Meet_1_ok h) (ahead_f := 67) (ahead_c := [.iptr [.sl (l.Names.map eS), .sl (l.Below.map (eA2 eI))] 0]) (by first | exact Clo.nil | exact ⟨by simp [go_sem], by simp [go_sem]⟩) (fun _ _ r h => lattice_Meet_2_ok h) hr_5) (by simp [go_sem, hc_2, hc_4]) (by simp [go_sem]) (by simp [go_sem]) (by simp [go_sem]) ?_
      obtain rfl := Option.some.inj h
      try simp -implicitDefEqProofs only [go_sem, simprocAttr, hc_2, hc_4]
      all_goals (repeat (first | (with_reducible refine imp_i fun _ => ?_) | (with_reducible refine and_a ?_)))
      all_goals (try simp [go_sem, hc_2, hc_4])
    · replace h := if_f hc_4 h
      have hc_4 := nt_ hc_4
      obtain rfl := Option.some.inj h
      try simp -implicitDefEqProofs only [go_sem, simprocAttr, hc_2, hc_4]
      all_goals (repeat (first | (with_reducible refine imp_i fun _ => ?_) | (with_reducible refine and_a ?_)))
      all_goals (try simp [go_sem, hc_2, hc_4])
  · replace h := if_f hc_2 h
    have hc_2 := nt_ hc_2
    obtain rfl := Option.some.inj h
    try simp -implicitDefEqProofs only [go_sem, simprocAttr, hc_2]
    all_goals (repeat (first | (with_reducible refine imp_i fun _ => ?_) | (with_reducible refine and_a ?_)))
    all_goals (try simp [go_sem, hc_2])
set_option maxRecDepth 100000 in
theorem lattice_Check_ok {l : api_Lattice} {r : Int} (h : lattice_Check l = some r) :
    Pu Try.prog 39 [.agg (e_api_Lattice l)] (.one (.int .i64 r)) := by
  refine pu_of_awp Try.func39 rfl (by kernel_rfl) (by kernel_rfl) (awp_of_S ?_)
  simp only [Try.f39]
  unfold lattice_Check at h
  try simp -implicitDefEqProofs only [go_sem, simprocAttr]
  repeat (first | (with_reducible refine imp_i fun _ => ?_) | (with_reducible refine and_a ?_))
  by_cases hc_1 : (l.Names.length : Int) < 1
  · replace h := if_t hc_1 h
    have hq_2 := eq_true hc_1
    obtain rfl := Option.some.inj h
    try simp -implicitDefEqProofs only [go_sem, simprocAttr, hq_2]
    all_goals (repeat (first | (with_reducible refine imp_i fun _ => ?_) | (with_reducible refine and_a ?_)))
    all_goals (try simp [go_sem, hq_2])
  · replace h := if_f hc_1 h
    have hq_3 := eq_false hc_1
    try simp -implicitDefEqProofs only [go_sem, simprocAttr, hq_3]
    repeat (first | (with_reducible refine imp_i fun _ => ?_) | (with_reducible refine and_a ?_))
    by_cases hc_4 : 8 < (l.Names.length : Int)
    · replace h := if_t hc_4 h
      have hq_5 := eq_true hc_4
      obtain rfl := Option.some.inj h
      try simp -implicitDefEqProofs only [go_sem, simprocAttr, hq_3, hq_5]
      all_goals (repeat (first | (with_reducible refine imp_i fun _ => ?_) | (with_reducible refine and_a ?_)))
      all_goals (try simp [go_sem, hq_3, hq_5])
    · replace h := if_f hc_4 h
      have hq_6 := eq_false hc_4
      obtain ⟨e_8, he_8, h⟩ := bind_inv h
      try simp -implicitDefEqProofs only [go_sem, simprocAttr, hq_3, hq_6]
      repeat (first | (with_reducible refine imp_i fun _ => ?_) | (with_reducible refine and_a ?_))
      refine purge_to [1, 20, 21, 22] 1 ((fun (s__ : Nat) (a__ : Unit) => match s__, a__ with | x_7, _ => ⟨[(1, .one (.ref 0 0 0 0)), (20, .one (.sl (l.Below.map (eA2 eI)))), (21, .one (.int .i64 (l.Below.length : Int))), (22, .one (.int .i64 (x_7 : Int)))], [.cells 0 2 [[.sl (l.Names.map eS), .sl (l.Below.map (eA2 eI))]]]⟩) 0 ()) (by simp) (by simp [go_sem]) (by simp [go_sem]) (by simp [go_sem, copyL, List.map_set, hq_3, hq_6] <;> omega) ?_
      refine loop_X (f := lattice_Check_L1 l) (s0 := 0) (fun (s__ : Nat) (a__ : Unit) => match s__, a__ with | x_7, _ => ⟨[(1, .one (.ref 0 0 0 0)), (20, .one (.sl (l.Below.map (eA2 eI)))), (21, .one (.int .i64 (l.Below.length : Int))), (22, .one (.int .i64 (x_7 : Int)))], [.cells 0 2 [[.sl (l.Names.map eS), .sl (l.Below.map (eA2 eI))]]]⟩) (fun (e__ : Int ⊕ Unit) (b__ : Unit) => match e__, b__ with | (.inl e_22), _ => ⟨[], []⟩ | (.inr ()), _ => ⟨[(1, .one (.ref 0 0 0 0))], [.cells 0 2 [[.sl (l.Names.map eS), .sl (l.Below.map (eA2 eI))]]]⟩) (fun (e__ : Int ⊕ Unit) => match e__ with | (.inl _) => none | (.inr _) => some 0) () he_8 ?_ ?_
      · intro i9 b9 hi9
        rcases e_8 with e_case | ⟨⟩
        · cases hi9
        · obtain rfl := Option.some.inj hi9
          obtain ⟨⟩ := b9
          dsimp only at h ⊢
          have hz_23 : (O.map [] : O) = .map (eM C.str C.bool []) := rfl
          obtain ⟨e_26, he_26, h⟩ := bind_inv h
          try simp -implicitDefEqProofs only [go_sem, simprocAttr, hq_3, hq_6, hz_23]
          repeat (first | (with_reducible refine imp_i fun _ => ?_) | (with_reducible refine and_a ?_))
          refine purge_to [1, 6, 42, 43, 44] 2 ((fun (s__ : (List (Str × Bool)) × Nat) (a__ : Unit) => match s__, a__ with | (seen_24, x_25), _ => ⟨[(1, .one (.ref 0 0 0 0)), (6, .one (.mp 1)), (42, .one (.sl (l.Names.map eS))), (43, .one (.int .i64 (l.Names.length : Int))), (44, .one (.int .i64 (x_25 : Int)))], [.cells 0 2 [[.sl (l.Names.map eS), .sl (l.Below.map (eA2 eI))]], .map (eM C.str C.bool seen_24)]⟩) ((mset [] true ([] : List (Str × Bool))), 0) ()) (by simp) (by simp [go_sem]) (by simp [go_sem]) (by simp [go_sem, copyL, List.map_set, hq_3, hq_6] <;> omega) ?_
          refine loop_X (f := lattice_Check_L2 l) (s0 := ((mset [] true ([] : List (Str × Bool))), 0)) (fun (s__ : (List (Str × Bool)) × Nat) (a__ : Unit) => match s__, a__ with | (seen_24, x_25), _ => ⟨[(1, .one (.ref 0 0 0 0)), (6, .one (.mp 1)), (42, .one (.sl (l.Names.map eS))), (43, .one (.int .i64 (l.Names.length : Int))), (44, .one (.int .i64 (x_25 : Int)))], [.cells 0 2 [[.sl (l.Names.map eS), .sl (l.Below.map (eA2 eI))]], .map (eM C.str C.bool seen_24)]⟩) (fun (e__ : Int ⊕ (List (Str × Bool))) (b__ : Unit) => match e__, b__ with | (.inl e_68), _ => ⟨[], []⟩ | (.inr seen_69), _ => ⟨[], [.cells 0 2 [[.sl (l.Names.map eS), .sl (l.Below.map (eA2 eI))]], .map (eM C.str C.bool seen_69)]⟩) (fun (e__ : Int ⊕ (List (Str × Bool))) => match e__ with | (.inl _) => none | (.inr _) => some 2) () he_26 ?_ ?_
          · intro i27 b27 hi27
            rcases e_26 with e_case | seen_69
            · cases hi27
            · obtain rfl := Option.some.inj hi27
              obtain ⟨⟩ := b27
              dsimp only at h ⊢
              obtain rfl := Option.some.inj h
              try simp -implicitDefEqProofs only [go_sem, simprocAttr, hq_3, hq_6, hz_23]
              all_goals (repeat (first | (with_reducible refine imp_i fun _ => ?_) | (with_reducible refine and_a ?_)))
              all_goals (try simp [go_sem, hq_3, hq_6])
          · intro af27 m27 s27 a27 o27 hf27 ho27 ih27
            obtain ⟨seen_24, x_25⟩ := s27
            obtain ⟨⟩ := a27
            dsimp only [lattice_Check_L2] at hf27 ⊢ ih27
            try simp -implicitDefEqProofs only [go_sem, simprocAttr, hq_3, hq_6, hz_23]
            repeat (first | (with_reducible refine imp_i fun _ => ?_) | (with_reducible refine and_a ?_))
            by_cases hc_28 : (x_25 : Int) < (l.Names.length : Int)
            · replace hf27 := if_t hc_28 hf27
              have hq_29 := eq_true hc_28
              have hn_30 : x_25 < l.Names.length := by omega
              obtain ⟨x_31, hx_31, hf27⟩ := bind_inv hf27
              obtain ⟨f_321, f_322, f_323, f_324⟩ := nat_facts hx_31
              try simp -implicitDefEqProofs only [go_sem, simprocAttr, hq_3, hq_6, hz_23, hq_29, hn_30, f_321, f_322, f_323, f_324]
              repeat (first | (with_reducible refine imp_i fun _ => ?_) | (with_reducible refine and_a ?_))
              by_cases hc_33 : ((mget x_31 seen_24).getD false) = true
              · replace hf27 := if_t hc_33 hf27
                obtain rfl := Option.some.inj hf27
                obtain rfl := Option.some.inj ho27
                try dsimp only at h
                obtain rfl := Option.some.inj h
                try simp -implicitDefEqProofs only [go_sem, simprocAttr, hq_3, hq_6, hz_23, hq_29, hn_30, f_321, f_322, f_323, f_324, hc_33]
                all_goals (repeat (first | (with_reducible refine imp_i fun _ => ?_) | (with_reducible refine and_a ?_)))
                all_goals (try simp [go_sem, hq_3, hq_6, hq_29, hn_30, f_321, f_322, f_323, f_324, hc_33])
              · replace hf27 := if_f hc_33 hf27
                have hc_33 := nt_ hc_33
                obtain ⟨e_35, he_35, hf27⟩ := bind_inv hf27
                try simp -implicitDefEqProofs only [go_sem, simprocAttr, hq_3, hq_6, hz_23, hq_29, hn_30, f_321, f_322, f_323, f_324, hc_33]
                repeat (first | (with_reducible refine imp_i fun _ => ?_) | (with_reducible refine and_a ?_))
                refine purge_to [1, 6, 7, 42, 43, 44, 54, 55] 2 ((fun (s__ : Nat) (a__ : Unit) => match s__, a__ with | x_34, _ => ⟨[(1, .one (.ref 0 0 0 0)), (6, .one (.mp 1)), (7, .one (.int .i64 (x_25 : Int))), (42, .one (.sl (l.Names.map eS))), (43, .one (.int .i64 (l.Names.length : Int))), (44, .one (.int .i64 (x_25 : Int))), (54, .one (.int .i64 (x_25 : Int))), (55, .one (.int .i64 (x_34 : Int)))], [.cells 0 2 [[.sl (l.Names.map eS), .sl (l.Below.map (eA2 eI))]], .map (eM C.str C.bool (mset x_31 true seen_24))]⟩) 0 ()) (by simp) (by simp [go_sem]) (by simp [go_sem]) (by simp [go_sem, copyL, List.map_set, hq_3, hq_6, hq_29, hn_30, f_321, f_322, f_323, f_324, hc_33] <;> omega) ?_
                refine loop_X (f := lattice_Check_L3 l x_25) (s0 := 0) (fun (s__ : Nat) (a__ : Unit) => match s__, a__ with | x_34, _ => ⟨[(1, .one (.ref 0 0 0 0)), (6, .one (.mp 1)), (7, .one (.int .i64 (x_25 : Int))), (42, .one (.sl (l.Names.map eS))), (43, .one (.int .i64 (l.Names.length : Int))), (44, .one (.int .i64 (x_25 : Int))), (54, .one (.int .i64 (x_25 : Int))), (55, .one (.int .i64 (x_34 : Int)))], [.cells 0 2 [[.sl (l.Names.map eS), .sl (l.Below.map (eA2 eI))]], .map (eM C.str C.bool (mset x_31 true seen_24))]⟩) (fun (e__ : Int ⊕ Unit) (b__ : Unit) => match e__, b__ with | (.inl e_64), _ => ⟨[], []⟩ | (.inr ()), _ => ⟨[(1, .one (.ref 0 0 0 0)), (6, .one (.mp 1)), (42, .one (.sl (l.Names.map eS))), (43, .one (.int .i64 (l.Names.length : Int))), (44, .one (.int .i64 (x_25 : Int)))], [.cells 0 2 [[.sl (l.Names.map eS), .sl (l.Below.map (eA2 eI))]], .map (eM C.str C.bool (mset x_31 true seen_24))]⟩) (fun (e__ : Int ⊕ Unit) => match e__ with | (.inl _) => none | (.inr _) => some 4) () he_35 ?_ ?_
                · intro i36 b36 hi36
                  rcases e_35 with e_case | ⟨⟩
                  · cases hi36
                  · obtain rfl := Option.some.inj hi36
                    obtain ⟨⟩ := b36
                    dsimp only at hf27 ⊢
                    obtain rfl := Option.some.inj hf27
                    try simp -implicitDefEqProofs only [go_sem, simprocAttr, hq_3, hq_6, hz_23, hq_29, hn_30, f_321, f_322, f_323, f_324, hc_33]
                    repeat (first | (with_reducible refine imp_i fun _ => ?_) | (with_reducible refine and_a ?_))
                    have hw_65 := wrap_nat (k := x_25) (by omega)
                    refine purge_P [1, 6, 42, 43, 44] 2 ((fun (s__ : (List (Str × Bool)) × Nat) (a__ : Unit) => match s__, a__ with | (seen_24, x_25), _ => ⟨[(1, .one (.ref 0 0 0 0)), (6, .one (.mp 1)), (42, .one (.sl (l.Names.map eS))), (43, .one (.int .i64 (l.Names.length : Int))), (44, .one (.int .i64 (x_25 : Int)))], [.cells 0 2 [[.sl (l.Names.map eS), .sl (l.Below.map (eA2 eI))]], .map (eM C.str C.bool seen_24)]⟩) ((mset x_31 true seen_24), (x_25 + 1)) ()) (by simp) (by simp [go_sem]) (by simp [go_sem]) (by simp [go_sem, copyL, List.map_set, hq_3, hq_6, hq_29, hn_30, f_321, f_322, f_323, f_324, hc_33, hw_65] <;> omega) ?_
                    exact ih27 ((mset x_31 true seen_24), (x_25 + 1)) () ho27
                · intro af36 m36 x_34 a36 o36 hf36 ho36 ih36
                  obtain ⟨⟩ := a36
                  dsimp only [lattice_Check_L3] at hf36 ⊢ ih36
                  try simp -implicitDefEqProofs only [go_sem, simprocAttr, hq_3, hq_6, hz_23, hq_29, hn_30, f_321, f_322, f_323, f_324, hc_33]
                  repeat (first | (with_reducible refine imp_i fun _ => ?_) | (with_reducible refine and_a ?_))
                  by_cases hc_37 : (x_34 : Int) < (x_25 : Int)
                  · replace hf36 := if_t hc_37 hf36
                    have hq_38 := eq_true hc_37
                    have hn_39 : x_34 < x_25 := by omega
                    obtain ⟨r_40, hr_40, hf36⟩ := bind_inv hf36
                    try simp -implicitDefEqProofs only [go_sem, simprocAttr, hq_3, hq_6, hz_23, hq_29, hn_30, f_321, f_322, f_323, f_324, hc_33, hq_38, hn_39]
                    repeat (first | (with_reducible refine imp_i fun _ => ?_) | (with_reducible refine and_a ?_))
                    refine call_S (lattice_Leq_ok hr_40) (by simp [go_sem, hq_3, hq_6, hq_29, hn_30, f_321, f_322, f_323, f_324, hc_33, hq_38, hn_39]) (by simp [go_sem]) (by simp [go_sem]) (by simp [go_sem]) ?_
                    try simp -implicitDefEqProofs only [go_sem, simprocAttr, hq_3, hq_6, hz_23, hq_29, hn_30, f_321, f_322, f_323, f_324, hc_33, hq_38, hn_39]
                    repeat (first | (with_reducible refine imp_i fun _ => ?_) | (with_reducible refine and_a ?_))
                    by_cases hc_41 : r_40 = true
                    · replace hf36 := if_t hc_41 hf36
                      obtain ⟨r_42, hr_42, hf36⟩ := bind_inv hf36
                      try simp -implicitDefEqProofs only [go_sem, simprocAttr, hq_3, hq_6, hz_23, hq_29, hn_30, f_321, f_322, f_323, f_324, hc_33, hq_38, hn_39, hc_41]
                      repeat (first | (with_reducible refine imp_i fun _ => ?_) | (with_reducible refine and_a ?_))
                      refine call_S (lattice_Leq_ok hr_42) (by simp [go_sem, hq_3, hq_6, hq_29, hn_30, f_321, f_322, f_323, f_324, hc_33, hq_38, hn_39, hc_41]) (by simp [go_sem]) (by simp [go_sem]) (by simp [go_sem]) ?_
                      try simp -implicitDefEqProofs only [go_sem, simprocAttr, hq_3, hq_6, hz_23, hq_29, hn_30, f_321, f_322, f_323, f_324, hc_33, hq_38, hn_39, hc_41]
                      repeat (first | (with_reducible refine imp_i fun _ => ?_) | (with_reducible refine and_a ?_))
                      by_cases hc_43 : r_42 = true
                      · replace hf36 := if_t hc_43 hf36
                        obtain rfl := Option.some.inj hf36
                        obtain rfl := Option.some.inj ho36
                        try dsimp only at hf27
                        obtain rfl := Option.some.inj hf27
                        obtain rfl := Option.some.inj ho27
                        try dsimp only at h
                        obtain rfl := Option.some.inj h
                        try simp -implicitDefEqProofs only [go_sem, simprocAttr, hq_3, hq_6, hz_23, hq_29, hn_30, f_321, f_322, f_323, f_324, hc_33, hq_38, hn_39, hc_41, hc_43]
                        all_goals (repeat (first | (with_reducible refine imp_i fun _ => ?_) | (with_reducible refine and_a ?_)))
                        all_goals (try simp [go_sem, hq_3, hq_6, hq_29, hn_30, f_321, f_322, f_323, f_324, hc_33, hq_38, hn_39, hc_41, hc_43])
                      · replace hf36 := if_f hc_43 hf36
                        have hc_43 := nt_ hc_43
                        obtain ⟨r_44, hr_44, hf36⟩ := bind_inv hf36
                        try simp -implicitDefEqProofs only [go_sem, simprocAttr, hq_3, hq_6, hz_23, hq_29, hn_30, f_321, f_322, f_323, f_324, hc_33, hq_38, hn_39, hc_41, hc_43]
                        repeat (first | (with_reducible refine imp_i fun _ => ?_) | (with_reducible refine and_a ?_))
                        refine call_S (lattice_Join_ok hr_44) (by simp [go_sem, hq_3, hq_6, hq_29, hn_30, f_321, f_322, f_323, f_324, hc_33, hq_38, hn_39, hc_41, hc_43]) (by simp [go_sem]) (by simp [go_sem]) (by simp [go_sem]) ?_
                        try simp -implicitDefEqProofs only [go_sem, simprocAttr, hq_3, hq_6, hz_23, hq_29, hn_30, f_321, f_322, f_323, f_324, hc_33, hq_38, hn_39, hc_41, hc_43]
                        repeat (first | (with_reducible refine imp_i fun _ => ?_) | (with_reducible refine and_a ?_))
                        by_cases hc_45 : r_44 < 0
                        · replace hf36 := if_t hc_45 hf36
                          have hq_46 := eq_true hc_45
                          obtain rfl := Option.some.inj hf36
                          obtain rfl := Option.some.inj ho36
                          try dsimp only at hf27
                          obtain rfl := Option.some.inj hf27
                          obtain rfl := Option.some.inj ho27
                          try dsimp only at h
                          obtain rfl := Option.some.inj h
                          try simp -implicitDefEqProofs only [go_sem, simprocAttr, hq_3, hq_6, hz_23, hq_29, hn_30, f_321, f_322, f_323, f_324, hc_33, hq_38, hn_39, hc_41, hc_43, hq_46]
                          all_goals (repeat (first | (with_reducible refine imp_i fun _ => ?_) | (with_reducible refine and_a ?_)))
                          all_goals (try simp [go_sem, hq_3, hq_6, hq_29, hn_30, f_321, f_322, f_323, f_324, hc_33, hq_38, hn_39, hc_41, hc_43, hq_46])
                        · replace hf36 := if_f hc_45 hf36
                          have hq_47 := eq_false hc_45
                          obtain ⟨r_48, hr_48, hf36⟩ := bind_inv hf36
                          try simp -implicitDefEqProofs only [go_sem, simprocAttr, hq_3, hq_6, hz_23, hq_29, hn_30, f_321, f_322, f_323, f_324, hc_33, hq_38, hn_39, hc_41, hc_43, hq_47]
                          repeat (first | (with_reducible refine imp_i fun _ => ?_) | (with_reducible refine and_a ?_))
                          refine call_S (lattice_Meet_ok hr_48) (by simp [go_sem, hq_3, hq_6, hq_29, hn_30, f_321, f_322, f_323, f_324, hc_33, hq_38, hn_39, hc_41, hc_43, hq_47]) (by simp [go_sem]) (by simp [go_sem]) (by simp [go_sem]) ?_
                          try simp -implicitDefEqProofs only [go_sem, simprocAttr, hq_3, hq_6, hz_23, hq_29, hn_30, f_321, f_322, f_323, f_324, hc_33, hq_38, hn_39, hc_41, hc_43, hq_47]
                          repeat (first | (with_reducible refine imp_i fun _ => ?_) | (with_reducible refine and_a ?_))
                          by_cases hc_49 : r_48 < 0
                          · replace hf36 := if_t hc_49 hf36
                            have hq_50 := eq_true hc_49
                            obtain rfl := Option.some.inj hf36
                            obtain rfl := Option.some.inj ho36
                            try dsimp only at hf27
                            obtain rfl := Option.some.inj hf27
                            obtain rfl := Option.some.inj ho27
                            try dsimp only at h
                            obtain rfl := Option.some.inj h
                            try simp -implicitDefEqProofs only [go_sem, simprocAttr, hq_3, hq_6, hz_23, hq_29, hn_30, f_321, f_322, f_323, f_324, hc_33, hq_38, hn_39, hc_41, hc_43, hq_47, hq_50]
                            all_goals (repeat (first | (with_reducible refine imp_i fun _ => ?_) | (with_reducible refine and_a ?_)))
                            all_goals (try simp [go_sem, hq_3, hq_6, hq_29, hn_30, f_321, f_322, f_323, f_324, hc_33, hq_38, hn_39, hc_41, hc_43, hq_47, hq_50])
                          · replace hf36 := if_f hc_49 hf36
                            have hq_51 := eq_false hc_49
                            obtain rfl := Option.some.inj hf36
                            try simp -implicitDefEqProofs only [go_sem, simprocAttr, hq_3, hq_6, hz_23, hq_29, hn_30, f_321, f_322, f_323, f_324, hc_33, hq_38, hn_39, hc_41, hc_43, hq_47, hq_51]
                            repeat (first | (with_reducible refine imp_i fun _ => ?_) | (with_reducible refine and_a ?_))
                            have hw_52 := wrap_nat (k := x_34) (by omega)
                            refine purge_P [1, 6, 7, 42, 43, 44, 54, 55] 2 ((fun (s__ : Nat) (a__ : Unit) => match s__, a__ with | x_34, _ => ⟨[(1, .one (.ref 0 0 0 0)), (6, .one (.mp 1)), (7, .one (.int .i64 (x_25 : Int))), (42, .one (.sl (l.Names.map eS))), (43, .one (.int .i64 (l.Names.length : Int))), (44, .one (.int .i64 (x_25 : Int))), (54, .one (.int .i64 (x_25 : Int))), (55, .one (.int .i64 (x_34 : Int)))], [.cells 0 2 [[.sl (l.Names.map eS), .sl (l.Below.map (eA2 eI))]], .map (eM C.str C.bool (mset x_31 true seen_24))]⟩) (x_34 + 1) ()) (by simp) (by simp [go_sem]) (by simp [go_sem]) (by simp [go_sem, copyL, List.map_set, hq_3, hq_6, hq_29, hn_30, f_321, f_322, f_323, f_324, hc_33, hq_38, hn_39, hc_41, hc_43, hq_47, hq_51, hw_52] <;> omega) ?_
                            exact ih36 (x_34 + 1) () ho36
                    · replace hf36 := if_f hc_41 hf36
                      have hc_41 := nt_ hc_41
                      obtain ⟨r_53, hr_53, hf36⟩ := bind_inv hf36
                      try simp -implicitDefEqProofs only [go_sem, simprocAttr, hq_3, hq_6, hz_23, hq_29, hn_30, f_321, f_322, f_323, f_324, hc_33, hq_38, hn_39, hc_41]
                      repeat (first | (with_reducible refine imp_i fun _ => ?_) | (with_reducible refine and_a ?_))
                      refine call_S (lattice_Join_ok hr_53) (by simp [go_sem, hq_3, hq_6, hq_29, hn_30, f_321, f_322, f_323, f_324, hc_33, hq_38, hn_39, hc_41]) (by simp [go_sem]) (by simp [go_sem]) (by simp [go_sem]) ?_
                      try simp -implicitDefEqProofs only [go_sem, simprocAttr, hq_3, hq_6, hz_23, hq_29, hn_30, f_321, f_322, f_323, f_324, hc_33, hq_38, hn_39, hc_41]
                      repeat (first | (with_reducible refine imp_i fun _ => ?_) | (with_reducible refine and_a ?_))
                      by_cases hc_54 : r_53 < 0
                      · replace hf36 := if_t hc_54 hf36
                        have hq_55 := eq_true hc_54
                        obtain rfl := Option.some.inj hf36
                        obtain rfl := Option.some.inj ho36
                        try dsimp only at hf27
                        obtain rfl := Option.some.inj hf27
                        obtain rfl := Option.some.inj ho27
                        try dsimp only at h
                        obtain rfl := Option.some.inj h
                        try simp -implicitDefEqProofs only [go_sem, simprocAttr, hq_3, hq_6, hz_23, hq_29, hn_30, f_321, f_322, f_323, f_324, hc_33, hq_38, hn_39, hc_41, hq_55]
                        all_goals (repeat (first | (with_reducible refine imp_i fun _ => ?_) | (with_reducible refine and_a ?_)))
                        all_goals (try simp [go_sem, hq_3, hq_6, hq_29, hn_30, f_321, f_322, f_323, f_324, hc_33, hq_38, hn_39, hc_41, hq_55])
                      · replace hf36 := if_f hc_54 hf36
                        have hq_56 := eq_false hc_54
                        obtain ⟨r_57, hr_57, hf36⟩ := bind_inv hf36
                        try simp -implicitDefEqProofs only [go_sem, simprocAttr, hq_3, hq_6, hz_23, hq_29, hn_30, f_321, f_322, f_323, f_324, hc_33, hq_38, hn_39, hc_41, hq_56]
                        repeat (first | (with_reducible refine imp_i fun _ => ?_) | (with_reducible refine and_a ?_))
                        refine call_S (lattice_Meet_ok hr_57) (by simp [go_sem, hq_3, hq_6, hq_29, hn_30, f_321, f_322, f_323, f_324, hc_33, hq_38, hn_39, hc_41, hq_56]) (by simp [go_sem]) (by simp [go_sem]) (by simp [go_sem]) ?_
                        try simp -implicitDefEqProofs only [go_sem, simprocAttr, hq_3, hq_6, hz_23, hq_29, hn_30, f_321, f_322, f_323, f_324, hc_33, hq_38, hn_39, hc_41, hq_56]
                        repeat (first | (with_reducible refine imp_i fun _ => ?_) | (with_reducible refine and_a ?_))
                        by_cases hc_58 : r_57 < 0
                        · replace hf36 := if_t hc_58 hf36
                          have hq_59 := eq_true hc_58
                          obtain rfl := Option.some.inj hf36
                          obtain rfl := Option.some.inj ho36
                          try dsimp only at hf27
                          obtain rfl := Option.some.inj hf27
                          obtain rfl := Option.some.inj ho27
                          try dsimp only at h
                          obtain rfl := Option.some.inj h
                          try simp -implicitDefEqProofs only [go_sem, simprocAttr, hq_3, hq_6, hz_23, hq_29, hn_30, f_321, f_322, f_323, f_324, hc_33, hq_38, hn_39, hc_41, hq_56, hq_59]
                          all_goals (repeat (first | (with_reducible refine imp_i fun _ => ?_) | (with_reducible refine and_a ?_)))
                          all_goals (try simp [go_sem, hq_3, hq_6, hq_29, hn_30, f_321, f_322, f_323, f_324, hc_33, hq_38, hn_39, hc_41, hq_56, hq_59])
                        · replace hf36 := if_f hc_58 hf36
                          have hq_60 := eq_false hc_58
                          obtain rfl := Option.some.inj hf36
                          try simp -implicitDefEqProofs only [go_sem, simprocAttr, hq_3, hq_6, hz_23, hq_29, hn_30, f_321, f_322, f_323, f_324, hc_33, hq_38, hn_39, hc_41, hq_56, hq_60]
                          repeat (first | (with_reducible refine imp_i fun _ => ?_) | (with_reducible refine and_a ?_))
                          have hw_61 := wrap_nat (k := x_34) (by omega)
                          refine purge_P [1, 6, 7, 42, 43, 44, 54, 55] 2 ((fun (s__ : Nat) (a__ : Unit) => match s__, a__ with | x_34, _ => ⟨[(1, .one (.ref 0 0 0 0)), (6, .one (.mp 1)), (7, .one (.int .i64 (x_25 : Int))), (42, .one (.sl (l.Names.map eS))), (43, .one (.int .i64 (l.Names.length : Int))), (44, .one (.int .i64 (x_25 : Int))), (54, .one (.int .i64 (x_25 : Int))), (55, .one (.int .i64 (x_34 : Int)))], [.cells 0 2 [[.sl (l.Names.map eS), .sl (l.Below.map (eA2 eI))]], .map (eM C.str C.bool (mset x_31 true seen_24))]⟩) (x_34 + 1) ()) (by simp) (by simp [go_sem]) (by simp [go_sem]) (by simp [go_sem, copyL, List.map_set, hq_3, hq_6, hq_29, hn_30, f_321, f_322, f_323, f_324, hc_33, hq_38, hn_39, hc_41, hq_56, hq_60, hw_61] <;> omega) ?_
                          exact ih36 (x_34 + 1) () ho36
                  · replace hf36 := if_f hc_37 hf36
                    have hq_62 := eq_false hc_37
                    have hn_63 : ¬ x_34 < x_25 := by omega
                    obtain rfl := Option.some.inj hf36
                    obtain rfl := Option.some.inj ho36
                    try simp -implicitDefEqProofs only [go_sem, simprocAttr, hq_3, hq_6, hz_23, hq_29, hn_30, f_321, f_322, f_323, f_324, hc_33, hq_62, hn_63]
                    repeat (first | (with_reducible refine imp_i fun _ => ?_) | (with_reducible refine and_a ?_))
                    refine purge_E [1, 6, 42, 43, 44] 2 ((fun (e__ : Int ⊕ Unit) (b__ : Unit) => match e__, b__ with | (.inl e_64), _ => ⟨[], []⟩ | (.inr ()), _ => ⟨[(1, .one (.ref 0 0 0 0)), (6, .one (.mp 1)), (42, .one (.sl (l.Names.map eS))), (43, .one (.int .i64 (l.Names.length : Int))), (44, .one (.int .i64 (x_25 : Int)))], [.cells 0 2 [[.sl (l.Names.map eS), .sl (l.Below.map (eA2 eI))]], .map (eM C.str C.bool (mset x_31 true seen_24))]⟩) (.inr ()) ()) (by simp) (by simp [go_sem]) (by simp [go_sem]) (by simp [go_sem, copyL, List.map_set, hq_3, hq_6, hq_29, hn_30, f_321, f_322, f_323, f_324, hc_33, hq_62, hn_63] <;> omega) ?_
                    exact af36 _ () rfl
            · replace hf27 := if_f hc_28 hf27
              have hq_66 := eq_false hc_28
              have hn_67 : ¬ x_25 < l.Names.length := by omega
              obtain rfl := Option.some.inj hf27
              obtain rfl := Option.some.inj ho27
              try simp -implicitDefEqProofs only [go_sem, simprocAttr, hq_3, hq_6, hz_23, hq_66, hn_67]
              repeat (first | (with_reducible refine imp_i fun _ => ?_) | (with_reducible refine and_a ?_))
              refine purge_E [] 2 ((fun (e__ : Int ⊕ (List (Str × Bool))) (b__ : Unit) => match e__, b__ with | (.inl e_68), _ => ⟨[], []⟩ | (.inr seen_69), _ => ⟨[], [.cells 0 2 [[.sl (l.Names.map eS), .sl (l.Below.map (eA2 eI))]], .map (eM C.str C.bool seen_69)]⟩) (.inr seen_24) ()) (by simp) (by simp [go_sem]) (by simp [go_sem]) (by simp [go_sem, copyL, List.map_set, hq_3, hq_6, hq_66, hn_67] <;> omega) ?_
              exact af27 _ () rfl
      · intro af9 m9 x_7 a9 o9 hf9 ho9 ih9
        obtain ⟨⟩ := a9
        dsimp only [lattice_Check_L1] at hf9 ⊢ ih9
        try simp -implicitDefEqProofs only [go_sem, simprocAttr, hq_3, hq_6]
        repeat (first | (with_reducible refine imp_i fun _ => ?_) | (with_reducible refine and_a ?_))
        by_cases hc_10 : (x_7 : Int) < (l.Below.length : Int)
        · replace hf9 := if_t hc_10 hf9
          have hq_11 := eq_true hc_10
          have hn_12 : x_7 < l.Below.length := by omega
          obtain ⟨x_13, hx_13, hf9⟩ := bind_inv hf9
          obtain ⟨f_141, f_142, f_143, f_144⟩ := nat_facts hx_13
          obtain ⟨r_15, hr_15, hf9⟩ := bind_inv hf9
          try simp -implicitDefEqProofs only [go_sem, simprocAttr, hq_3, hq_6, hq_11, hn_12, f_141, f_142, f_143, f_144]
          repeat (first | (with_reducible refine imp_i fun _ => ?_) | (with_reducible refine and_a ?_))
          refine call_S (lattice_is_ok hr_15) (by simp [go_sem, hq_3, hq_6, hq_11, hn_12, f_141, f_142, f_143, f_144]) (by simp [go_sem]) (by simp [go_sem]) (by simp [go_sem]) ?_
          try simp -implicitDefEqProofs only [go_sem, simprocAttr, hq_3, hq_6, hq_11, hn_12, f_141, f_142, f_143, f_144]
          repeat (first | (with_reducible refine imp_i fun _ => ?_) | (with_reducible refine and_a ?_))
          by_cases hc_16 : r_15 = true
          · replace hf9 := if_t hc_16 hf9
            obtain ⟨r_17, hr_17, hf9⟩ := bind_inv hf9
            try simp -implicitDefEqProofs only [go_sem, simprocAttr, hq_3, hq_6, hq_11, hn_12, f_141, f_142, f_143, f_144, hc_16]
            repeat (first | (with_reducible refine imp_i fun _ => ?_) | (with_reducible refine and_a ?_))
            refine call_S (lattice_is_ok hr_17) (by simp [go_sem, hq_3, hq_6, hq_11, hn_12, f_141, f_142, f_143, f_144, hc_16]) (by simp [go_sem]) (by simp [go_sem]) (by simp [go_sem]) ?_
            try simp -implicitDefEqProofs only [go_sem, simprocAttr, hq_3, hq_6, hq_11, hn_12, f_141, f_142, f_143, f_144, hc_16]
            repeat (first | (with_reducible refine imp_i fun _ => ?_) | (with_reducible refine and_a ?_))
            by_cases hc_18 : r_17 = true
            · replace hf9 := if_t hc_18 hf9
              obtain rfl := Option.some.inj hf9
              try simp -implicitDefEqProofs only [go_sem, simprocAttr, hq_3, hq_6, hq_11, hn_12, f_141, f_142, f_143, f_144, hc_16, hc_18]
              repeat (first | (with_reducible refine imp_i fun _ => ?_) | (with_reducible refine and_a ?_))
              have hw_19 := wrap_nat (k := x_7) (by omega)
              refine purge_P [1, 20, 21, 22] 1 ((fun (s__ : Nat) (a__ : Unit) => match s__, a__ with | x_7, _ => ⟨[(1, .one (.ref 0 0 0 0)), (20, .one (.sl (l.Below.map (eA2 eI)))), (21, .one (.int .i64 (l.Below.length : Int))), (22, .one (.int .i64 (x_7 : Int)))], [.cells 0 2 [[.sl (l.Names.map eS), .sl (l.Below.map (eA2 eI))]]]⟩) (x_7 + 1) ()) (by simp) (by simp [go_sem]) (by simp [go_sem]) (by simp [go_sem, copyL, List.map_set, hq_3, hq_6, hq_11, hn_12, f_141, f_142, f_143, f_144, hc_16, hc_18, hw_19] <;> omega) ?_
              exact ih9 (x_7 + 1) () ho9
            · replace hf9 := if_f hc_18 hf9
              have hc_18 := nt_ hc_18
              obtain rfl := Option.some.inj hf9
              obtain rfl := Option.some.inj ho9
              try dsimp only at h
              obtain rfl := Option.some.inj h
              try simp -implicitDefEqProofs only [go_sem, simprocAttr, hq_3, hq_6, hq_11, hn_12, f_141, f_142, f_143, f_144, hc_16, hc_18]
              all_goals (repeat (first | (with_reducible refine imp_i fun _ => ?_) | (with_reducible refine and_a ?_)))
              all_goals (try simp [go_sem, hq_3, hq_6, hq_11, hn_12, f_141, f_142, f_143, f_144, hc_16, hc_18])
          · replace hf9 := if_f hc_16 hf9
            have hc_16 := nt_ hc_16
            obtain rfl := Option.some.inj hf9
            obtain rfl := Option.some.inj ho9
            try dsimp only at h
            obtain rfl := Option.some.inj h
            try simp -implicitDefEqProofs only [go_sem, simprocAttr, hq_3, hq_6, hq_11, hn_12, f_141, f_142, f_143, f_144, hc_16]
            all_goals (repeat (first | (with_reducible refine imp_i fun _ => ?_) | (with_reducible refine and_a ?_)))
            all_goals (try simp [go_sem, hq_3, hq_6, hq_11, hn_12, f_141, f_142, f_143, f_144, hc_16])
        · replace hf9 := if_f hc_10 hf9
          have hq_20 := eq_false hc_10
          have hn_21 : ¬ x_7 < l.Below.length := by omega
          obtain rfl := Option.some.inj hf9
          obtain rfl := Option.some.inj ho9
          try simp -implicitDefEqProofs only [go_sem, simprocAttr, hq_3, hq_6, hq_20, hn_21]
          repeat (first | (with_reducible refine imp_i fun _ => ?_) | (with_reducible refine and_a ?_))
          refine purge_E [1] 1 ((fun (e__ : Int ⊕ Unit) (b__ : Unit) => match e__, b__ with | (.inl e_22), _ => ⟨[], []⟩ | (.inr ()), _ => ⟨[(1, .one (.ref 0 0 0 0))], [.cells 0 2 [[.sl (l.Names.map eS), .sl (l.Below.map (eA2 eI))]]]⟩) (.inr ()) ()) (by simp) (by simp [go_sem]) (by simp [go_sem]) (by simp [go_sem, copyL, List.map_set, hq_3, hq_6, hq_20, hn_21] <;> omega) ?_
          exact af9 _ () rfl
set_option maxRecDepth 100000 in
theorem lattice_all_ok {p0 : Int} {r : Bool} (h : lattice_all p0 = some r) :
    Pu Try.prog 68 [.one (.int .i64 p0)] (.one (.bool r)) := by
  refine pu_of_awp Try.func68 rfl (by kernel_rfl) (by kernel_rfl) (awp_of_S ?_)
  simp only [Try.f68]
  unfold lattice_all at h
  obtain rfl := Option.some.inj h
  try simp -implicitDefEqProofs only [go_sem, simprocAttr]
  all_goals (repeat (first | (with_reducible refine imp_i fun _ => ?_) | (with_reducible refine and_a ?_)))
  all_goals (try simp [go_sem])
set_option maxRecDepth 100000 in
theorem lattice_Bottom_1_ok {c0 : api_Lattice} {c : Int} {d : Int} {r : Bool} (h : lattice_Bottom_1 c0 c d = some r) :
    Pu Try.prog 69 [.one (.int .i64 c), .one (.int .i64 d), .one (.iptr (e_api_Lattice c0) 0)] (.one (.bool r)) := by
  refine pu_of_awp Try.func69 rfl (by kernel_rfl) (by kernel_rfl) (awp_of_S ?_)
  simp only [Try.f69]
  unfold lattice_Bottom_1 at h
  obtain ⟨r_1, hr_1, h⟩ := bind_inv h
  try simp -implicitDefEqProofs only [go_sem, simprocAttr]
  repeat (first | (with_reducible refine imp_i fun _ => ?_) | (with_reducible refine and_a ?_))
  refine call_S (lattice_Leq_ok hr_1) (by simp [go_sem]) (by simp [go_sem]) (by simp [go_sem]) (by simp [go_sem]) ?_
  obtain rfl := Option.some.inj h
  try simp -implicitDefEqProofs only [go_sem, simprocAttr]
  all_goals (repeat (first | (with_reducible refine imp_i fun _ => ?_) | (with_reducible refine and_a ?_)))
  all_goals (try simp [go_sem])
set_option maxRecDepth 100000 in
theorem lattice_Bottom_ok {l : api_Lattice} {r : Int} (h : lattice_Bottom l = some r) :
    Pu Try.prog 41 [.agg (e_api_Lattice l)] (.one (.int .i64 r)) := by
  refine pu_of_awp Try.func41 rfl (by kernel_rfl) (by kernel_rfl) (awp_of_S ?_)
  simp only [Try.f41]
  unfold lattice_Bottom at h
  obtain ⟨r_1, hr_1, h⟩ := bind_inv h
  try simp -implicitDefEqProofs only [go_sem, simprocAttr]
  repeat (first | (with_reducible refine imp_i fun _ => ?_) | (with_reducible refine and_a ?_))
  refine call_S (lattice_best_ok (of_f := 68) (of_c := []) (by first | exact Clo.nil | exact ⟨by simp [go_sem], by simp [go_sem]⟩) (fun _ r h => lattice_all_ok h) (ahead_f := 69) (ahead_c := [.iptr [.sl (l.Names.map eS), .sl (l.Below.map (eA2 eI))] 0]) (by first | exact Clo.nil | exact ⟨by simp [go_sem], by simp [go_sem]⟩) (fun _ _ r h => lattice_Bottom_1_ok h) hr_1) (by simp [go_sem]) (by simp [go_sem]) (by simp [go_sem]) (by simp [go_sem]) ?_
  obtain rfl := Option.some.inj h
  try simp -implicitDefEqProofs only [go_sem, simprocAttr]
  all_goals (repeat (first | (with_reducible refine imp_i fun _ => ?_) | (with_reducible refine and_a ?_)))
  all_goals (try simp [go_sem])
set_option maxRecDepth 100000 in
theorem lattice_Top_1_ok {c0 : api_Lattice} {c : Int} {d : Int} {r : Bool} (h : lattice_Top_1 c0 c d = some r) :
    Pu Try.prog 70 [.one (.int .i64 c), .one (.int .i64 d), .one (.iptr (e_api_Lattice c0) 0)] (.one (.bool r)) := by
  refine pu_of_awp Try.func70 rfl (by kernel_rfl) (by kernel_rfl) (awp_of_S ?_)
  simp only [Try.f70]
  unfold lattice_Top_1 at h
  obtain ⟨r_1, hr_1, h⟩ := bind_inv h
  try simp -implicitDefEqProofs only [go_sem, simprocAttr]
  repeat (first | (with_reducible refine imp_i fun _ => ?_) | (with_reducible refine and_a ?_))
  refine call_S (lattice_Leq_ok hr_1) (by simp [go_sem]) (by simp [go_sem]) (by simp [go_sem]) (by simp [go_sem]) ?_
  obtain rfl := Option.some.inj h
  try simp -implicitDefEqProofs only [go_sem, simprocAttr]
  all_goals (repeat (first | (with_reducible refine imp_i fun _ => ?_) | (with_reducible refine and_a ?_)))
  all_goals (try simp [go_sem])
set_option maxRecDepth 100000 in
theorem lattice_Top_ok {l : api_Lattice} {r : Int} (h : lattice_Top l = some r) :
    Pu Try.prog 43 [.agg (e_api_Lattice l)] (.one (.int .i64 r)) := by
  refine pu_of_awp Try.func43 rfl (by kernel_rfl) (by kernel_rfl) (awp_of_S ?_)
  simp only [Try.f43]
  unfold lattice_Top at h
  obtain ⟨r_1, hr_1, h⟩ := bind_inv h
  try simp -implicitDefEqProofs only [go_sem, simprocAttr]
  repeat (first | (with_reducible refine imp_i fun _ => ?_) | (with_reducible refine and_a ?_))
  refine call_S (lattice_best_ok (of_f := 68) (of_c := []) (by first | exact Clo.nil | exact ⟨by simp [go_sem], by simp [go_sem]⟩) (fun _ r h => lattice_all_ok h) (ahead_f := 70) (ahead_c := [.iptr [.sl (l.Names.map eS), .sl (l.Below.map (eA2 eI))] 0]) (by first | exact Clo.nil | exact ⟨by simp [go_sem], by simp [go_sem]⟩) (fun _ _ r h => lattice_Top_1_ok h) hr_1) (by simp [go_sem]) (by simp [go_sem]) (by simp [go_sem]) (by simp [go_sem]) ?_
  obtain rfl := Option.some.inj h
  try simp -implicitDefEqProofs only [go_sem, simprocAttr]
  all_goals (repeat (first | (with_reducible refine imp_i fun _ => ?_) | (with_reducible refine and_a ?_)))
  all_goals (try simp [go_sem])
set_option maxRecDepth 100000 in
theorem lazarettolaw01_awake_ok {r : Bool} (h : lazarettolaw01_awake = some r) :
    Pu Try.prog 33 [] (.one (.bool r)) := by
  refine pu_of_awp Try.func33 rfl (by kernel_rfl) (by kernel_rfl) (awp_of_S ?_)
  simp only [Try.f33]
  unfold lazarettolaw01_awake at h
  obtain ⟨r_1, hr_1, h⟩ := bind_inv h
  try simp -implicitDefEqProofs only [go_sem, simprocAttr]
  repeat (first | (with_reducible refine imp_i fun _ => ?_) | (with_reducible refine and_a ?_))
  refine call_S (lattice_Join_ok hr_1) (by simp [go_sem]) (by simp [go_sem]) (by simp [go_sem]) (by simp [go_sem]) ?_
  try simp -implicitDefEqProofs only [go_sem, simprocAttr]
  repeat (first | (with_reducible refine imp_i fun _ => ?_) | (with_reducible refine and_a ?_))
  by_cases hc_2 : r_1 = 1
  · replace h := if_t hc_2 h
    have hq_3 := eq_true hc_2
    obtain ⟨r_4, hr_4, h⟩ := bind_inv h
    try simp -implicitDefEqProofs only [go_sem, simprocAttr, hq_3]
    repeat (first | (with_reducible refine imp_i fun _ => ?_) | (with_reducible refine and_a ?_))
    refine call_S (lattice_Meet_ok hr_4) (by simp [go_sem, hq_3]) (by simp [go_sem]) (by simp [go_sem]) (by simp [go_sem]) ?_
    try simp -implicitDefEqProofs only [go_sem, simprocAttr, hq_3]
    repeat (first | (with_reducible refine imp_i fun _ => ?_) | (with_reducible refine and_a ?_))
    by_cases hc_5 : r_4 = 0
    · replace h := if_t hc_5 h
      have hq_6 := eq_true hc_5
      obtain ⟨r_7, hr_7, h⟩ := bind_inv h
      try simp -implicitDefEqProofs only [go_sem, simprocAttr, hq_3, hq_6]
      repeat (first | (with_reducible refine imp_i fun _ => ?_) | (with_reducible refine and_a ?_))
      refine call_S (lattice_Join_ok hr_7) (by simp [go_sem, hq_3, hq_6]) (by simp [go_sem]) (by simp [go_sem]) (by simp [go_sem]) ?_
      try simp -implicitDefEqProofs only [go_sem, simprocAttr, hq_3, hq_6]
      repeat (first | (with_reducible refine imp_i fun _ => ?_) | (with_reducible refine and_a ?_))
      by_cases hc_8 : r_7 = 3
      · replace h := if_t hc_8 h
        have hq_9 := eq_true hc_8
        obtain ⟨r_10, hr_10, h⟩ := bind_inv h
        try simp -implicitDefEqProofs only [go_sem, simprocAttr, hq_3, hq_6, hq_9]
        repeat (first | (with_reducible refine imp_i fun _ => ?_) | (with_reducible refine and_a ?_))
        refine call_S (lattice_Check_ok hr_10) (by simp [go_sem, hq_3, hq_6, hq_9]) (by simp [go_sem]) (by simp [go_sem]) (by simp [go_sem]) ?_
        try simp -implicitDefEqProofs only [go_sem, simprocAttr, hq_3, hq_6, hq_9]
        repeat (first | (with_reducible refine imp_i fun _ => ?_) | (with_reducible refine and_a ?_))
        by_cases hc_11 : r_10 = 0
        · replace h := if_t hc_11 h
          have hq_12 := eq_true hc_11
          obtain ⟨r_13, hr_13, h⟩ := bind_inv h
          try simp -implicitDefEqProofs only [go_sem, simprocAttr, hq_3, hq_6, hq_9, hq_12]
          repeat (first | (with_reducible refine imp_i fun _ => ?_) | (with_reducible refine and_a ?_))
          refine call_S (lattice_Bottom_ok hr_13) (by simp [go_sem, hq_3, hq_6, hq_9, hq_12]) (by simp [go_sem]) (by simp [go_sem]) (by simp [go_sem]) ?_
          try simp -implicitDefEqProofs only [go_sem, simprocAttr, hq_3, hq_6, hq_9, hq_12]
          repeat (first | (with_reducible refine imp_i fun _ => ?_) | (with_reducible refine and_a ?_))
          by_cases hc_14 : r_13 = 0
          · replace h := if_t hc_14 h
            have hq_15 := eq_true hc_14
            obtain ⟨r_16, hr_16, h⟩ := bind_inv h
            try simp -implicitDefEqProofs only [go_sem, simprocAttr, hq_3, hq_6, hq_9, hq_12, hq_15]
            repeat (first | (with_reducible refine imp_i fun _ => ?_) | (with_reducible refine and_a ?_))
            refine call_S (lattice_Top_ok hr_16) (by simp [go_sem, hq_3, hq_6, hq_9, hq_12, hq_15]) (by simp [go_sem]) (by simp [go_sem]) (by simp [go_sem]) ?_
            try simp -implicitDefEqProofs only [go_sem, simprocAttr, hq_3, hq_6, hq_9, hq_12, hq_15]
            repeat (first | (with_reducible refine imp_i fun _ => ?_) | (with_reducible refine and_a ?_))
            by_cases hc_17 : r_16 = 3
            · replace h := if_t hc_17 h
              have hq_18 := eq_true hc_17
              obtain ⟨r_19, hr_19, h⟩ := bind_inv h
              try simp -implicitDefEqProofs only [go_sem, simprocAttr, hq_3, hq_6, hq_9, hq_12, hq_15, hq_18]
              repeat (first | (with_reducible refine imp_i fun _ => ?_) | (with_reducible refine and_a ?_))
              refine call_S (lattice_Leq_ok hr_19) (by simp [go_sem, hq_3, hq_6, hq_9, hq_12, hq_15, hq_18]) (by simp [go_sem]) (by simp [go_sem]) (by simp [go_sem]) ?_
              try simp -implicitDefEqProofs only [go_sem, simprocAttr, hq_3, hq_6, hq_9, hq_12, hq_15, hq_18]
              repeat (first | (with_reducible refine imp_i fun _ => ?_) | (with_reducible refine and_a ?_))
              by_cases hc_20 : r_19 = true
              · replace h := if_t hc_20 h
                obtain ⟨r_21, hr_21, h⟩ := bind_inv h
                try simp -implicitDefEqProofs only [go_sem, simprocAttr, hq_3, hq_6, hq_9, hq_12, hq_15, hq_18, hc_20]
                repeat (first | (with_reducible refine imp_i fun _ => ?_) | (with_reducible refine and_a ?_))
                refine call_S (lattice_Leq_ok hr_21) (by simp [go_sem, hq_3, hq_6, hq_9, hq_12, hq_15, hq_18, hc_20]) (by simp [go_sem]) (by simp [go_sem]) (by simp [go_sem]) ?_
                try simp -implicitDefEqProofs only [go_sem, simprocAttr, hq_3, hq_6, hq_9, hq_12, hq_15, hq_18, hc_20]
                repeat (first | (with_reducible refine imp_i fun _ => ?_) | (with_reducible refine and_a ?_))
                by_cases hc_22 : r_21 = true
                · replace h := if_t hc_22 h
                  obtain rfl := Option.some.inj h
                  try simp -implicitDefEqProofs only [go_sem, simprocAttr, hq_3, hq_6, hq_9, hq_12, hq_15, hq_18, hc_20, hc_22]
                  all_goals (repeat (first | (with_reducible refine imp_i fun _ => ?_) | (with_reducible refine and_a ?_)))
                  all_goals (try simp [go_sem, hq_3, hq_6, hq_9, hq_12, hq_15, hq_18, hc_20, hc_22])
                · replace h := if_f hc_22 h
                  have hc_22 := nt_ hc_22
                  obtain ⟨r_23, hr_23, h⟩ := bind_inv h
                  try simp -implicitDefEqProofs only [go_sem, simprocAttr, hq_3, hq_6, hq_9, hq_12, hq_15, hq_18, hc_20, hc_22]
                  repeat (first | (with_reducible refine imp_i fun _ => ?_) | (with_reducible refine and_a ?_))
                  refine call_S (lattice_Check_ok hr_23) (by simp [go_sem, hq_3, hq_6, hq_9, hq_12, hq_15, hq_18, hc_20, hc_22]) (by simp [go_sem]) (by simp [go_sem]) (by simp [go_sem]) ?_
                  obtain rfl := Option.some.inj h
                  try simp -implicitDefEqProofs only [go_sem, simprocAttr, hq_3, hq_6, hq_9, hq_12, hq_15, hq_18, hc_20, hc_22]
                  all_goals (repeat (first | (with_reducible refine imp_i fun _ => ?_) | (with_reducible refine and_a ?_)))
                  all_goals (try simp [go_sem, hq_3, hq_6, hq_9, hq_12, hq_15, hq_18, hc_20, hc_22])
              · replace h := if_f hc_20 h
                have hc_20 := nt_ hc_20
                obtain rfl := Option.some.inj h
                try simp -implicitDefEqProofs only [go_sem, simprocAttr, hq_3, hq_6, hq_9, hq_12, hq_15, hq_18, hc_20]
                all_goals (repeat (first | (with_reducible refine imp_i fun _ => ?_) | (with_reducible refine and_a ?_)))
                all_goals (try simp [go_sem, hq_3, hq_6, hq_9, hq_12, hq_15, hq_18, hc_20])
            · replace h := if_f hc_17 h
              have hq_24 := eq_false hc_17
              obtain rfl := Option.some.inj h
              try simp -implicitDefEqProofs only [go_sem, simprocAttr, hq_3, hq_6, hq_9, hq_12, hq_15, hq_24]
              all_goals (repeat (first | (with_reducible refine imp_i fun _ => ?_) | (with_reducible refine and_a ?_)))
              all_goals (try simp [go_sem, hq_3, hq_6, hq_9, hq_12, hq_15, hq_24])
          · replace h := if_f hc_14 h
            have hq_25 := eq_false hc_14
            obtain rfl := Option.some.inj h
            try simp -implicitDefEqProofs only [go_sem, simprocAttr, hq_3, hq_6, hq_9, hq_12, hq_25]
            all_goals (repeat (first | (with_reducible refine imp_i fun _ => ?_) | (with_reducible refine and_a ?_)))
            all_goals (try simp [go_sem, hq_3, hq_6, hq_9, hq_12, hq_25])
        · replace h := if_f hc_11 h
          have hq_26 := eq_false hc_11
          obtain rfl := Option.some.inj h
          try simp -implicitDefEqProofs only [go_sem, simprocAttr, hq_3, hq_6, hq_9, hq_26]
          all_goals (repeat (first | (with_reducible refine imp_i fun _ => ?_) | (with_reducible refine and_a ?_)))
          all_goals (try simp [go_sem, hq_3, hq_6, hq_9, hq_26])
      · replace h := if_f hc_8 h
        have hq_27 := eq_false hc_8
        obtain rfl := Option.some.inj h
        try simp -implicitDefEqProofs only [go_sem, simprocAttr, hq_3, hq_6, hq_27]
        all_goals (repeat (first | (with_reducible refine imp_i fun _ => ?_) | (with_reducible refine and_a ?_)))
        all_goals (try simp [go_sem, hq_3, hq_6, hq_27])
    · replace h := if_f hc_5 h
      have hq_28 := eq_false hc_5
      obtain rfl := Option.some.inj h
      try simp -implicitDefEqProofs only [go_sem, simprocAttr, hq_3, hq_28]
      all_goals (repeat (first | (with_reducible refine imp_i fun _ => ?_) | (with_reducible refine and_a ?_)))
      all_goals (try simp [go_sem, hq_3, hq_28])
  · replace h := if_f hc_2 h
    have hq_29 := eq_false hc_2
    obtain rfl := Option.some.inj h
    try simp -implicitDefEqProofs only [go_sem, simprocAttr, hq_29]
    all_goals (repeat (first | (with_reducible refine imp_i fun _ => ?_) | (with_reducible refine and_a ?_)))
    all_goals (try simp [go_sem, hq_29])
set_option maxRecDepth 100000 in
theorem lazarettolaw01_LatticeOrders_ok {l : api_Lattice} {a : Int} {b : Int} {r : Bool} (h : lazarettolaw01_LatticeOrders l a b = some r) :
    Pu Try.prog 9 [.agg (e_api_Lattice l), .one (.int .i64 a), .one (.int .i64 b)] (.one (.bool r)) := by
  refine pu_of_awp Try.func9 rfl (by kernel_rfl) (by kernel_rfl) (awp_of_S ?_)
  simp only [Try.f9]
  unfold lazarettolaw01_LatticeOrders at h
  obtain ⟨r_1, hr_1, h⟩ := bind_inv h
  try simp -implicitDefEqProofs only [go_sem, simprocAttr]
  repeat (first | (with_reducible refine imp_i fun _ => ?_) | (with_reducible refine and_a ?_))
  refine call_S (lazarettolaw01_few_ok hr_1) (by simp [go_sem]) (by simp [go_sem]) (by simp [go_sem]) (by simp [go_sem]) ?_
  try simp -implicitDefEqProofs only [go_sem, simprocAttr]
  repeat (first | (with_reducible refine imp_i fun _ => ?_) | (with_reducible refine and_a ?_))
  by_cases hc_2 : r_1 = true
  · replace h := if_t hc_2 h
    obtain ⟨r_3, hr_3, h⟩ := bind_inv h
    try simp -implicitDefEqProofs only [go_sem, simprocAttr, hc_2]
    repeat (first | (with_reducible refine imp_i fun _ => ?_) | (with_reducible refine and_a ?_))
    refine call_D (lattice_Leq_ok hr_3) (by simp [go_sem, hc_2]) (by simp [go_sem]) (by simp [go_sem]) (by simp [go_sem]) ?_
    obtain ⟨r_4, hr_4, h⟩ := bind_inv h
    try simp -implicitDefEqProofs only [go_sem, simprocAttr, hc_2]
    repeat (first | (with_reducible refine imp_i fun _ => ?_) | (with_reducible refine and_a ?_))
    refine call_D (lazarettoref01_Leq_ok hr_4) (by simp [go_sem, hc_2]) (by simp [go_sem]) (by simp [go_sem]) (by simp [go_sem]) ?_
    try simp -implicitDefEqProofs only [go_sem, simprocAttr, hc_2]
    repeat (first | (with_reducible refine imp_i fun _ => ?_) | (with_reducible refine and_a ?_))
    by_cases hc_5 : (r_3 == r_4) = true
    · replace h := if_t hc_5 h
      obtain ⟨r_6, hr_6, h⟩ := bind_inv h
      try simp -implicitDefEqProofs only [go_sem, simprocAttr, hc_2, hc_5]
      repeat (first | (with_reducible refine imp_i fun _ => ?_) | (with_reducible refine and_a ?_))
      refine call_D (lattice_Join_ok hr_6) (by simp [go_sem, hc_2, hc_5]) (by simp [go_sem]) (by simp [go_sem]) (by simp [go_sem]) ?_
      obtain ⟨r_7, hr_7, h⟩ := bind_inv h
      try simp -implicitDefEqProofs only [go_sem, simprocAttr, hc_2, hc_5]
      repeat (first | (with_reducible refine imp_i fun _ => ?_) | (with_reducible refine and_a ?_))
      refine call_D (lazarettoref01_Join_ok hr_7) (by simp [go_sem, hc_2, hc_5]) (by simp [go_sem]) (by simp [go_sem]) (by simp [go_sem]) ?_
      try simp -implicitDefEqProofs only [go_sem, simprocAttr, hc_2, hc_5]
      repeat (first | (with_reducible refine imp_i fun _ => ?_) | (with_reducible refine and_a ?_))
      by_cases hc_8 : r_6 = r_7
      · replace h := if_t hc_8 h
        have hq_9 := eq_true hc_8
        obtain ⟨r_10, hr_10, h⟩ := bind_inv h
        try simp -implicitDefEqProofs only [go_sem, simprocAttr, hc_2, hc_5, hq_9]
        repeat (first | (with_reducible refine imp_i fun _ => ?_) | (with_reducible refine and_a ?_))
        refine call_D (lattice_Meet_ok hr_10) (by simp [go_sem, hc_2, hc_5, hq_9]) (by simp [go_sem]) (by simp [go_sem]) (by simp [go_sem]) ?_
        obtain ⟨r_11, hr_11, h⟩ := bind_inv h
        try simp -implicitDefEqProofs only [go_sem, simprocAttr, hc_2, hc_5, hq_9]
        repeat (first | (with_reducible refine imp_i fun _ => ?_) | (with_reducible refine and_a ?_))
        refine call_D (lazarettoref01_Meet_ok hr_11) (by simp [go_sem, hc_2, hc_5, hq_9]) (by simp [go_sem]) (by simp [go_sem]) (by simp [go_sem]) ?_
        try simp -implicitDefEqProofs only [go_sem, simprocAttr, hc_2, hc_5, hq_9]
        repeat (first | (with_reducible refine imp_i fun _ => ?_) | (with_reducible refine and_a ?_))
        by_cases hc_12 : r_10 = r_11
        · replace h := if_t hc_12 h
          have hq_13 := eq_true hc_12
          obtain ⟨r_14, hr_14, h⟩ := bind_inv h
          try simp -implicitDefEqProofs only [go_sem, simprocAttr, hc_2, hc_5, hq_9, hq_13]
          repeat (first | (with_reducible refine imp_i fun _ => ?_) | (with_reducible refine and_a ?_))
          refine call_D (lazarettolaw01_awake_ok hr_14) (by simp [go_sem, hc_2, hc_5, hq_9, hq_13]) (by simp [go_sem]) (by simp [go_sem]) (by simp [go_sem]) ?_
          obtain rfl := Option.some.inj h
          try simp -implicitDefEqProofs only [go_sem, simprocAttr, hc_2, hc_5, hq_9, hq_13]
          all_goals (repeat (first | (with_reducible refine imp_i fun _ => ?_) | (with_reducible refine and_a ?_)))
          all_goals (try simp [go_sem, hc_2, hc_5, hq_9, hq_13])
        · replace h := if_f hc_12 h
          have hq_15 := eq_false hc_12
          obtain rfl := Option.some.inj h
          try simp -implicitDefEqProofs only [go_sem, simprocAttr, hc_2, hc_5, hq_9, hq_15]
          all_goals (repeat (first | (with_reducible refine imp_i fun _ => ?_) | (with_reducible refine and_a ?_)))
          all_goals (try simp [go_sem, hc_2, hc_5, hq_9, hq_15])
      · replace h := if_f hc_8 h
        have hq_16 := eq_false hc_8
        obtain rfl := Option.some.inj h
        try simp -implicitDefEqProofs only [go_sem, simprocAttr, hc_2, hc_5, hq_16]
        all_goals (repeat (first | (with_reducible refine imp_i fun _ => ?_) | (with_reducible refine and_a ?_)))
        all_goals (try simp [go_sem, hc_2, hc_5, hq_16])
    · replace h := if_f hc_5 h
      have hc_5 := nt_ hc_5
      obtain rfl := Option.some.inj h
      try simp -implicitDefEqProofs only [go_sem, simprocAttr, hc_2, hc_5]
      all_goals (repeat (first | (with_reducible refine imp_i fun _ => ?_) | (with_reducible refine and_a ?_)))
      all_goals (try simp [go_sem, hc_2, hc_5])
  · replace h := if_f hc_2 h
    have hc_2 := nt_ hc_2
    obtain ⟨r_17, hr_17, h⟩ := bind_inv h
    try simp -implicitDefEqProofs only [go_sem, simprocAttr, hc_2]
    repeat (first | (with_reducible refine imp_i fun _ => ?_) | (with_reducible refine and_a ?_))
    refine call_S (lazarettolaw01_awake_ok hr_17) (by simp [go_sem, hc_2]) (by simp [go_sem]) (by simp [go_sem]) (by simp [go_sem]) ?_
    obtain rfl := Option.some.inj h
    try simp -implicitDefEqProofs only [go_sem, simprocAttr, hc_2]
    all_goals (repeat (first | (with_reducible refine imp_i fun _ => ?_) | (with_reducible refine and_a ?_)))
    all_goals (try simp [go_sem, hc_2])
set_option maxRecDepth 100000 in
theorem lazarettoref01_Bottom_ok {l : api_Lattice} {r : Int} (h : lazarettoref01_Bottom l = some r) :
    Pu Try.prog 42 [.agg (e_api_Lattice l)] (.one (.int .i64 r)) := by
  refine pu_of_awp Try.func42 rfl (by kernel_rfl) (by kernel_rfl) (awp_of_S ?_)
  simp only [Try.f42]
  unfold lazarettoref01_Bottom at h
  obtain ⟨e_2, he_2, h⟩ := bind_inv h
  try simp -implicitDefEqProofs only [go_sem, simprocAttr]
  repeat (first | (with_reducible refine imp_i fun _ => ?_) | (with_reducible refine and_a ?_))
  refine purge_to [1, 3] 1 ((fun (s__ : Nat) (a__ : Unit) => match s__, a__ with | c_1, _ => ⟨[(1, .one (.ref 0 0 0 0)), (3, .one (.int .i64 (c_1 : Int)))], [.cells 0 2 [[.sl (l.Names.map eS), .sl (l.Below.map (eA2 eI))]]]⟩) 0 ()) (by simp) (by simp [go_sem]) (by simp [go_sem]) (by simp [go_sem, copyL, List.map_set] <;> omega) ?_
  refine loop_X (f := lazarettoref01_Bottom_L1 l) (s0 := 0) (fun (s__ : Nat) (a__ : Unit) => match s__, a__ with | c_1, _ => ⟨[(1, .one (.ref 0 0 0 0)), (3, .one (.int .i64 (c_1 : Int)))], [.cells 0 2 [[.sl (l.Names.map eS), .sl (l.Below.map (eA2 eI))]]]⟩) (fun (e__ : Int ⊕ Unit) (b__ : Unit) => match e__, b__ with | (.inl e_24), _ => ⟨[], []⟩ | (.inr ()), _ => ⟨[], [.cells 0 2 [[.sl (l.Names.map eS), .sl (l.Below.map (eA2 eI))]]]⟩) (fun (e__ : Int ⊕ Unit) => match e__ with | (.inl _) => none | (.inr _) => some 0) () he_2 ?_ ?_
  · intro i3 b3 hi3
    rcases e_2 with e_case | ⟨⟩
    · cases hi3
    · obtain rfl := Option.some.inj hi3
      obtain ⟨⟩ := b3
      dsimp only at h ⊢
      obtain rfl := Option.some.inj h
      try simp -implicitDefEqProofs only [go_sem, simprocAttr]
      all_goals (repeat (first | (with_reducible refine imp_i fun _ => ?_) | (with_reducible refine and_a ?_)))
      all_goals (try simp [go_sem])
  · intro af3 m3 c_1 a3 o3 hf3 ho3 ih3
    obtain ⟨⟩ := a3
    dsimp only [lazarettoref01_Bottom_L1] at hf3 ⊢ ih3
    try simp -implicitDefEqProofs only [go_sem, simprocAttr]
    repeat (first | (with_reducible refine imp_i fun _ => ?_) | (with_reducible refine and_a ?_))
    by_cases hc_4 : (c_1 : Int) < (l.Names.length : Int)
    · replace hf3 := if_t hc_4 hf3
      have hq_5 := eq_true hc_4
      have hn_6 : c_1 < l.Names.length := by omega
      obtain ⟨e_9, he_9, hf3⟩ := bind_inv hf3
      try simp -implicitDefEqProofs only [go_sem, simprocAttr, hq_5, hn_6]
      repeat (first | (with_reducible refine imp_i fun _ => ?_) | (with_reducible refine and_a ?_))
      refine purge_to [1, 3, 4, 5] 1 ((fun (s__ : Bool × Nat) (a__ : Unit) => match s__, a__ with | (ok_7, d_8), _ => ⟨[(1, .one (.ref 0 0 0 0)), (3, .one (.int .i64 (c_1 : Int))), (4, .one (.bool ok_7)), (5, .one (.int .i64 (d_8 : Int)))], [.cells 0 2 [[.sl (l.Names.map eS), .sl (l.Below.map (eA2 eI))]]]⟩) (true, 0) ()) (by simp) (by simp [go_sem]) (by simp [go_sem]) (by simp [go_sem, copyL, List.map_set, hq_5, hn_6] <;> omega) ?_
      refine loop_X (f := lazarettoref01_Bottom_L2 l c_1) (s0 := (true, 0)) (fun (s__ : Bool × Nat) (a__ : Unit) => match s__, a__ with | (ok_7, d_8), _ => ⟨[(1, .one (.ref 0 0 0 0)), (3, .one (.int .i64 (c_1 : Int))), (4, .one (.bool ok_7)), (5, .one (.int .i64 (d_8 : Int)))], [.cells 0 2 [[.sl (l.Names.map eS), .sl (l.Below.map (eA2 eI))]]]⟩) (fun (e__ : Bool) (b__ : Unit) => match e__, b__ with | e_9, _ => ⟨[(1, .one (.ref 0 0 0 0)), (3, .one (.int .i64 (c_1 : Int))), (4, .one (.bool e_9))], [.cells 0 2 [[.sl (l.Names.map eS), .sl (l.Below.map (eA2 eI))]]]⟩) (fun (_ : Bool) => some 2) () he_9 ?_ ?_
      · intro i10 b10 hi10
        obtain rfl := Option.some.inj hi10
        obtain ⟨⟩ := b10
        dsimp only at hf3 ⊢
        try simp -implicitDefEqProofs only [go_sem, simprocAttr, hq_5, hn_6]
        repeat (first | (with_reducible refine imp_i fun _ => ?_) | (with_reducible refine and_a ?_))
        by_cases hc_20 : e_9 = true
        · replace hf3 := if_t hc_20 hf3
          obtain rfl := Option.some.inj hf3
          obtain rfl := Option.some.inj ho3
          try dsimp only at h
          obtain rfl := Option.some.inj h
          try simp -implicitDefEqProofs only [go_sem, simprocAttr, hq_5, hn_6, hc_20]
          all_goals (repeat (first | (with_reducible refine imp_i fun _ => ?_) | (with_reducible refine and_a ?_)))
          all_goals (try simp [go_sem, hq_5, hn_6, hc_20])
        · replace hf3 := if_f hc_20 hf3
          have hc_20 := nt_ hc_20
          obtain rfl := Option.some.inj hf3
          try simp -implicitDefEqProofs only [go_sem, simprocAttr, hq_5, hn_6, hc_20]
          repeat (first | (with_reducible refine imp_i fun _ => ?_) | (with_reducible refine and_a ?_))
          have hw_21 := wrap_nat (k := c_1) (by omega)
          refine purge_P [1, 3] 1 ((fun (s__ : Nat) (a__ : Unit) => match s__, a__ with | c_1, _ => ⟨[(1, .one (.ref 0 0 0 0)), (3, .one (.int .i64 (c_1 : Int)))], [.cells 0 2 [[.sl (l.Names.map eS), .sl (l.Below.map (eA2 eI))]]]⟩) (c_1 + 1) ()) (by simp) (by simp [go_sem]) (by simp [go_sem]) (by simp [go_sem, copyL, List.map_set, hq_5, hn_6, hc_20, hw_21] <;> omega) ?_
          exact ih3 (c_1 + 1) () ho3
      · intro af10 m10 s10 a10 o10 hf10 ho10 ih10
        obtain ⟨ok_7, d_8⟩ := s10
        obtain ⟨⟩ := a10
        dsimp only [lazarettoref01_Bottom_L2] at hf10 ⊢ ih10
        try simp -implicitDefEqProofs only [go_sem, simprocAttr, hq_5, hn_6]
        repeat (first | (with_reducible refine imp_i fun _ => ?_) | (with_reducible refine and_a ?_))
        by_cases hc_11 : (d_8 : Int) < (l.Names.length : Int)
        · replace hf10 := if_t hc_11 hf10
          have hq_12 := eq_true hc_11
          have hn_13 : d_8 < l.Names.length := by omega
          try simp -implicitDefEqProofs only [go_sem, simprocAttr, hq_5, hn_6, hq_12, hn_13]
          repeat (first | (with_reducible refine imp_i fun _ => ?_) | (with_reducible refine and_a ?_))
          by_cases hc_14 : ok_7 = true
          · replace hf10 := if_t hc_14 hf10
            obtain ⟨r_15, hr_15, hf10⟩ := bind_inv hf10
            try simp -implicitDefEqProofs only [go_sem, simprocAttr, hq_5, hn_6, hq_12, hn_13, hc_14]
            repeat (first | (with_reducible refine imp_i fun _ => ?_) | (with_reducible refine and_a ?_))
            refine call_S (lazarettoref01_Leq_ok hr_15) (by simp [go_sem, hq_5, hn_6, hq_12, hn_13, hc_14]) (by simp [go_sem]) (by simp [go_sem]) (by simp [go_sem]) ?_
            obtain rfl := Option.some.inj hf10
            try simp -implicitDefEqProofs only [go_sem, simprocAttr, hq_5, hn_6, hq_12, hn_13, hc_14]
            repeat (first | (with_reducible refine imp_i fun _ => ?_) | (with_reducible refine and_a ?_))
            have hw_16 := wrap_nat (k := d_8) (by omega)
            refine purge_P [1, 3, 4, 5] 1 ((fun (s__ : Bool × Nat) (a__ : Unit) => match s__, a__ with | (ok_7, d_8), _ => ⟨[(1, .one (.ref 0 0 0 0)), (3, .one (.int .i64 (c_1 : Int))), (4, .one (.bool ok_7)), (5, .one (.int .i64 (d_8 : Int)))], [.cells 0 2 [[.sl (l.Names.map eS), .sl (l.Below.map (eA2 eI))]]]⟩) (r_15, (d_8 + 1)) ()) (by simp) (by simp [go_sem]) (by simp [go_sem]) (by simp [go_sem, copyL, List.map_set, hq_5, hn_6, hq_12, hn_13, hc_14, hw_16] <;> omega) ?_
            exact ih10 (r_15, (d_8 + 1)) () ho10
          · replace hf10 := if_f hc_14 hf10
            have hc_14 := nt_ hc_14
            obtain rfl := Option.some.inj hf10
            obtain rfl := Option.some.inj ho10
            try simp -implicitDefEqProofs only [go_sem, simprocAttr, hq_5, hn_6, hq_12, hn_13, hc_14]
            repeat (first | (with_reducible refine imp_i fun _ => ?_) | (with_reducible refine and_a ?_))
            refine purge_E [1, 3, 4] 1 ((fun (e__ : Bool) (b__ : Unit) => match e__, b__ with | e_9, _ => ⟨[(1, .one (.ref 0 0 0 0)), (3, .one (.int .i64 (c_1 : Int))), (4, .one (.bool e_9))], [.cells 0 2 [[.sl (l.Names.map eS), .sl (l.Below.map (eA2 eI))]]]⟩) ok_7 ()) (by simp) (by simp [go_sem]) (by simp [go_sem]) (by simp [go_sem, copyL, List.map_set, hq_5, hn_6, hq_12, hn_13, hc_14] <;> omega) ?_
            exact af10 _ () rfl
        · replace hf10 := if_f hc_11 hf10
          have hq_17 := eq_false hc_11
          have hn_18 : ¬ d_8 < l.Names.length := by omega
          obtain rfl := Option.some.inj hf10
          obtain rfl := Option.some.inj ho10
          try simp -implicitDefEqProofs only [go_sem, simprocAttr, hq_5, hn_6, hq_17, hn_18]
          repeat (first | (with_reducible refine imp_i fun _ => ?_) | (with_reducible refine and_a ?_))
          refine purge_E [1, 3, 4] 1 ((fun (e__ : Bool) (b__ : Unit) => match e__, b__ with | e_9, _ => ⟨[(1, .one (.ref 0 0 0 0)), (3, .one (.int .i64 (c_1 : Int))), (4, .one (.bool e_9))], [.cells 0 2 [[.sl (l.Names.map eS), .sl (l.Below.map (eA2 eI))]]]⟩) ok_7 ()) (by simp) (by simp [go_sem]) (by simp [go_sem]) (by simp [go_sem, copyL, List.map_set, hq_5, hn_6, hq_17, hn_18] <;> omega) ?_
          exact af10 _ () rfl
    · replace hf3 := if_f hc_4 hf3
      have hq_22 := eq_false hc_4
      have hn_23 : ¬ c_1 < l.Names.length := by omega
      obtain rfl := Option.some.inj hf3
      obtain rfl := Option.some.inj ho3
      try simp -implicitDefEqProofs only [go_sem, simprocAttr, hq_22, hn_23]
      repeat (first | (with_reducible refine imp_i fun _ => ?_) | (with_reducible refine and_a ?_))
      refine purge_E [] 1 ((fun (e__ : Int ⊕ Unit) (b__ : Unit) => match e__, b__ with | (.inl e_24), _ => ⟨[], []⟩ | (.inr ()), _ => ⟨[], [.cells 0 2 [[.sl (l.Names.map eS), .sl (l.Below.map (eA2 eI))]]]⟩) (.inr ()) ()) (by simp) (by simp [go_sem]) (by simp [go_sem]) (by simp [go_sem, copyL, List.map_set, hq_22, hn_23] <;> omega) ?_
      exact af3 _ () rfl
set_option maxRecDepth 100000 in
theorem lazarettoref01_Top_ok {l : api_Lattice} {r : Int} (h : lazarettoref01_Top l = some r) :
    Pu Try.prog 44 [.agg (e_api_Lattice l)] (.one (.int .i64 r)) := by
  refine pu_of_awp Try.func44 rfl (by kernel_rfl) (by kernel_rfl) (awp_of_S ?_)
  simp only [Try.f44]
  unfold lazarettoref01_Top at h
  obtain ⟨e_2, he_2, h⟩ := bind_inv h
  try simp -implicitDefEqProofs only [go_sem, simprocAttr]
  repeat (first | (with_reducible refine imp_i fun _ => ?_) | (with_reducible refine and_a ?_))
  refine purge_to [1, 3] 1 ((fun (s__ : Nat) (a__ : Unit) => match s__, a__ with | c_1, _ => ⟨[(1, .one (.ref 0 0 0 0)), (3, .one (.int .i64 (c_1 : Int)))], [.cells 0 2 [[.sl (l.Names.map eS), .sl (l.Below.map (eA2 eI))]]]⟩) 0 ()) (by simp) (by simp [go_sem]) (by simp [go_sem]) (by simp [go_sem, copyL, List.map_set] <;> omega) ?_
  refine loop_X (f := lazarettoref01_Top_L1 l) (s0 := 0) (fun (s__ : Nat) (a__ : Unit) => match s__, a__ with | c_1, _ => ⟨[(1, .one (.ref 0 0 0 0)), (3, .one (.int .i64 (c_1 : Int)))], [.cells 0 2 [[.sl (l.Names.map eS), .sl (l.Below.map (eA2 eI))]]]⟩) (fun (e__ : Int ⊕ Unit) (b__ : Unit) => match e__, b__ with | (.inl e_24), _ => ⟨[], []⟩ | (.inr ()), _ => ⟨[], [.cells 0 2 [[.sl (l.Names.map eS), .sl (l.Below.map (eA2 eI))]]]⟩) (fun (e__ : Int ⊕ Unit) => match e__ with | (.inl _) => none | (.inr _) => some 0) () he_2 ?_ ?_
  · intro i3 b3 hi3
    rcases e_2 with e_case | ⟨⟩
    · cases hi3
    · obtain rfl := Option.some.inj hi3
      obtain ⟨⟩ := b3
      dsimp only at h ⊢
      obtain rfl := Option.some.inj h
      try simp -implicitDefEqProofs only [go_sem, simprocAttr]
      all_goals (repeat (first | (with_reducible refine imp_i fun _ => ?_) | (with_reducible refine and_a ?_)))
      all_goals (try simp [go_sem])
  · intro af3 m3 c_1 a3 o3 hf3 ho3 ih3
    obtain ⟨⟩ := a3
    dsimp only [lazarettoref01_Top_L1] at hf3 ⊢ ih3
    try simp -implicitDefEqProofs only [go_sem, simprocAttr]
    repeat (first | (with_reducible refine imp_i fun _ => ?_) | (with_reducible refine and_a ?_))
    by_cases hc_4 : (c_1 : Int) < (l.Names.length : Int)
    · replace hf3 := if_t hc_4 hf3
      have hq_5 := eq_true hc_4
      have hn_6 : c_1 < l.Names.length := by omega
      obtain ⟨e_9, he_9, hf3⟩ := bind_inv hf3
      try simp -implicitDefEqProofs only [go_sem, simprocAttr, hq_5, hn_6]
      repeat (first | (with_reducible refine imp_i fun _ => ?_) | (with_reducible refine and_a ?_))
      refine purge_to [1, 3, 4, 5] 1 ((fun (s__ : Bool × Nat) (a__ : Unit) => match s__, a__ with | (ok_7, d_8), _ => ⟨[(1, .one (.ref 0 0 0 0)), (3, .one (.int .i64 (c_1 : Int))), (4, .one (.bool ok_7)), (5, .one (.int .i64 (d_8 : Int)))], [.cells 0 2 [[.sl (l.Names.map eS), .sl (l.Below.map (eA2 eI))]]]⟩) (true, 0) ()) (by simp) (by simp [go_sem]) (by simp [go_sem]) (by simp [go_sem, copyL, List.map_set, hq_5, hn_6] <;> omega) ?_
      refine loop_X (f := lazarettoref01_Top_L2 l c_1) (s0 := (true, 0)) (fun (s__ : Bool × Nat) (a__ : Unit) => match s__, a__ with | (ok_7, d_8), _ => ⟨[(1, .one (.ref 0 0 0 0)), (3, .one (.int .i64 (c_1 : Int))), (4, .one (.bool ok_7)), (5, .one (.int .i64 (d_8 : Int)))], [.cells 0 2 [[.sl (l.Names.map eS), .sl (l.Below.map (eA2 eI))]]]⟩) (fun (e__ : Bool) (b__ : Unit) => match e__, b__ with | e_9, _ => ⟨[(1, .one (.ref 0 0 0 0)), (3, .one (.int .i64 (c_1 : Int))), (4, .one (.bool e_9))], [.cells 0 2 [[.sl (l.Names.map eS), .sl (l.Below.map (eA2 eI))]]]⟩) (fun (_ : Bool) => some 2) () he_9 ?_ ?_
      · intro i10 b10 hi10
        obtain rfl := Option.some.inj hi10
        obtain ⟨⟩ := b10
        dsimp only at hf3 ⊢
        try simp -implicitDefEqProofs only [go_sem, simprocAttr, hq_5, hn_6]
        repeat (first | (with_reducible refine imp_i fun _ => ?_) | (with_reducible refine and_a ?_))
        by_cases hc_20 : e_9 = true
        · replace hf3 := if_t hc_20 hf3
          obtain rfl := Option.some.inj hf3
          obtain rfl := Option.some.inj ho3
          try dsimp only at h
          obtain rfl := Option.some.inj h
          try simp -implicitDefEqProofs only [go_sem, simprocAttr, hq_5, hn_6, hc_20]
          all_goals (repeat (first | (with_reducible refine imp_i fun _ => ?_) | (with_reducible refine and_a ?_)))
          all_goals (try simp [go_sem, hq_5, hn_6, hc_20])
        · replace hf3 := if_f hc_20 hf3
          have hc_20 := nt_ hc_20
          obtain rfl := Option.some.inj hf3
          try simp -implicitDefEqProofs only [go_sem, simprocAttr, hq_5, hn_6, hc_20]
          repeat (first | (with_reducible refine imp_i fun _ => ?_) | (with_reducible refine and_a ?_))
          have hw_21 := wrap_nat (k := c_1) (by omega)
          refine purge_P [1, 3] 1 ((fun (s__ : Nat) (a__ : Unit) => match s__, a__ with | c_1, _ => ⟨[(1, .one (.ref 0 0 0 0)), (3, .one (.int .i64 (c_1 : Int)))], [.cells 0 2 [[.sl (l.Names.map eS), .sl (l.Below.map (eA2 eI))]]]⟩) (c_1 + 1) ()) (by simp) (by simp [go_sem]) (by simp [go_sem]) (by simp [go_sem, copyL, List.map_set, hq_5, hn_6, hc_20, hw_21] <;> omega) ?_
          exact ih3 (c_1 + 1) () ho3
      · intro af10 m10 s10 a10 o10 hf10 ho10 ih10
        obtain ⟨ok_7, d_8⟩ := s10
        obtain ⟨⟩ := a10
        dsimp only [lazarettoref01_Top_L2] at hf10 ⊢ ih10
        try simp -implicitDefEqProofs only [go_sem, simprocAttr, hq_5, hn_6]
        repeat (first | (with_reducible refine imp_i fun _ => ?_) | (with_reducible refine and_a ?_))
        by_cases hc_11 : (d_8 : Int) < (l.Names.length : Int)
        · replace hf10 := if_t hc_11 hf10
          have hq_12 := eq_true hc_11
          have hn_13 : d_8 < l.Names.length := by omega
          try simp -implicitDefEqProofs only [go_sem, simprocAttr, hq_5, hn_6, hq_12, hn_13]
          repeat (first | (with_reducible refine imp_i fun _ => ?_) | (with_reducible refine and_a ?_))
          by_cases hc_14 : ok_7 = true
          · replace hf10 := if_t hc_14 hf10
            obtain ⟨r_15, hr_15, hf10⟩ := bind_inv hf10
            try simp -implicitDefEqProofs only [go_sem, simprocAttr, hq_5, hn_6, hq_12, hn_13, hc_14]
            repeat (first | (with_reducible refine imp_i fun _ => ?_) | (with_reducible refine and_a ?_))
            refine call_S (lazarettoref01_Leq_ok hr_15) (by simp [go_sem, hq_5, hn_6, hq_12, hn_13, hc_14]) (by simp [go_sem]) (by simp [go_sem]) (by simp [go_sem]) ?_
            obtain rfl := Option.some.inj hf10
            try simp -implicitDefEqProofs only [go_sem, simprocAttr, hq_5, hn_6, hq_12, hn_13, hc_14]
            repeat (first | (with_reducible refine imp_i fun _ => ?_) | (with_reducible refine and_a ?_))
            have hw_16 := wrap_nat (k := d_8) (by omega)
            refine purge_P [1, 3, 4, 5] 1 ((fun (s__ : Bool × Nat) (a__ : Unit) => match s__, a__ with | (ok_7, d_8), _ => ⟨[(1, .one (.ref 0 0 0 0)), (3, .one (.int .i64 (c_1 : Int))), (4, .one (.bool ok_7)), (5, .one (.int .i64 (d_8 : Int)))], [.cells 0 2 [[.sl (l.Names.map eS), .sl (l.Below.map (eA2 eI))]]]⟩) (r_15, (d_8 + 1)) ()) (by simp) (by simp [go_sem]) (by simp [go_sem]) (by simp [go_sem, copyL, List.map_set, hq_5, hn_6, hq_12, hn_13, hc_14, hw_16] <;> omega) ?_
            exact ih10 (r_15, (d_8 + 1)) () ho10
          · replace hf10 := if_f hc_14 hf10
            have hc_14 := nt_ hc_14
            obtain rfl := Option.some.inj hf10
            obtain rfl := Option.some.inj ho10
            try simp -implicitDefEqProofs only [go_sem, simprocAttr, hq_5, hn_6, hq_12, hn_13, hc_14]
            repeat (first | (with_reducible refine imp_i fun _ => ?_) | (with_reducible refine and_a ?_))
            refine purge_E [1, 3, 4] 1 ((fun (e__ : Bool) (b__ : Unit) => match e__, b__ with | e_9, _ => ⟨[(1, .one (.ref 0 0 0 0)), (3, .one (.int .i64 (c_1 : Int))), (4, .one (.bool e_9))], [.cells 0 2 [[.sl (l.Names.map eS), .sl (l.Below.map (eA2 eI))]]]⟩) ok_7 ()) (by simp) (by simp [go_sem]) (by simp [go_sem]) (by simp [go_sem, copyL, List.map_set, hq_5, hn_6, hq_12, hn_13, hc_14] <;> omega) ?_
            exact af10 _ () rfl
        · replace hf10 := if_f hc_11 hf10
          have hq_17 := eq_false hc_11
          have hn_18 : ¬ d_8 < l.Names.length := by omega
          obtain rfl := Option.some.inj hf10
          obtain rfl := Option.some.inj ho10
          try simp -implicitDefEqProofs only [go_sem, simprocAttr, hq_5, hn_6, hq_17, hn_18]
          repeat (first | (with_reducible refine imp_i fun _ => ?_) | (with_reducible refine and_a ?_))
          refine purge_E [1, 3, 4] 1 ((fun (e__ : Bool) (b__ : Unit) => match e__, b__ with | e_9, _ => ⟨[(1, .one (.ref 0 0 0 0)), (3, .one (.int .i64 (c_1 : Int))), (4, .one (.bool e_9))], [.cells 0 2 [[.sl (l.Names.map eS), .sl (l.Below.map (eA2 eI))]]]⟩) ok_7 ()) (by simp) (by simp [go_sem]) (by simp [go_sem]) (by simp [go_sem, copyL, List.map_set, hq_5, hn_6, hq_17, hn_18] <;> omega) ?_
          exact af10 _ () rfl
    · replace hf3 := if_f hc_4 hf3
      have hq_22 := eq_false hc_4
      have hn_23 : ¬ c_1 < l.Names.length := by omega
      obtain rfl := Option.some.inj hf3
      obtain rfl := Option.some.inj ho3
      try simp -implicitDefEqProofs only [go_sem, simprocAttr, hq_22, hn_23]
      repeat (first | (with_reducible refine imp_i fun _ => ?_) | (with_reducible refine and_a ?_))
      refine purge_E [] 1 ((fun (e__ : Int ⊕ Unit) (b__ : Unit) => match e__, b__ with | (.inl e_24), _ => ⟨[], []⟩ | (.inr ()), _ => ⟨[], [.cells 0 2 [[.sl (l.Names.map eS), .sl (l.Below.map (eA2 eI))]]]⟩) (.inr ()) ()) (by simp) (by simp [go_sem]) (by simp [go_sem]) (by simp [go_sem, copyL, List.map_set, hq_22, hn_23] <;> omega) ?_
      exact af3 _ () rfl
set_option maxRecDepth 100000 in
theorem lazarettolaw01_LatticeChecks_ok {l : api_Lattice} {r : Bool} (h : lazarettolaw01_LatticeChecks l = some r) :
    Pu Try.prog 10 [.agg (e_api_Lattice l)] (.one (.bool r)) := by
  refine pu_of_awp Try.func10 rfl (by kernel_rfl) (by kernel_rfl) (awp_of_S ?_)
  simp only [Try.f10]
  unfold lazarettolaw01_LatticeChecks at h
  obtain ⟨r_1, hr_1, h⟩ := bind_inv h
  try simp -implicitDefEqProofs only [go_sem, simprocAttr]
  repeat (first | (with_reducible refine imp_i fun _ => ?_) | (with_reducible refine and_a ?_))
  refine call_S (lazarettolaw01_few_ok hr_1) (by simp [go_sem]) (by simp [go_sem]) (by simp [go_sem]) (by simp [go_sem]) ?_
  try simp -implicitDefEqProofs only [go_sem, simprocAttr]
  repeat (first | (with_reducible refine imp_i fun _ => ?_) | (with_reducible refine and_a ?_))
  by_cases hc_2 : r_1 = true
  · replace h := if_t hc_2 h
    obtain ⟨r_3, hr_3, h⟩ := bind_inv h
    try simp -implicitDefEqProofs only [go_sem, simprocAttr, hc_2]
    repeat (first | (with_reducible refine imp_i fun _ => ?_) | (with_reducible refine and_a ?_))
    refine call_D (lattice_Check_ok hr_3) (by simp [go_sem, hc_2]) (by simp [go_sem]) (by simp [go_sem]) (by simp [go_sem]) ?_
    obtain ⟨r_4, hr_4, h⟩ := bind_inv h
    try simp -implicitDefEqProofs only [go_sem, simprocAttr, hc_2]
    repeat (first | (with_reducible refine imp_i fun _ => ?_) | (with_reducible refine and_a ?_))
    refine call_D (lazarettoref01_Check_ok hr_4) (by simp [go_sem, hc_2]) (by simp [go_sem]) (by simp [go_sem]) (by simp [go_sem]) ?_
    try simp -implicitDefEqProofs only [go_sem, simprocAttr, hc_2]
    repeat (first | (with_reducible refine imp_i fun _ => ?_) | (with_reducible refine and_a ?_))
    by_cases hc_5 : r_3 = r_4
    · replace h := if_t hc_5 h
      have hq_6 := eq_true hc_5
      obtain ⟨r_7, hr_7, h⟩ := bind_inv h
      try simp -implicitDefEqProofs only [go_sem, simprocAttr, hc_2, hq_6]
      repeat (first | (with_reducible refine imp_i fun _ => ?_) | (with_reducible refine and_a ?_))
      refine call_D (lattice_Bottom_ok hr_7) (by simp [go_sem, hc_2, hq_6]) (by simp [go_sem]) (by simp [go_sem]) (by simp [go_sem]) ?_
      obtain ⟨r_8, hr_8, h⟩ := bind_inv h
      try simp -implicitDefEqProofs only [go_sem, simprocAttr, hc_2, hq_6]
      repeat (first | (with_reducible refine imp_i fun _ => ?_) | (with_reducible refine and_a ?_))
      refine call_D (lazarettoref01_Bottom_ok hr_8) (by simp [go_sem, hc_2, hq_6]) (by simp [go_sem]) (by simp [go_sem]) (by simp [go_sem]) ?_
      try simp -implicitDefEqProofs only [go_sem, simprocAttr, hc_2, hq_6]
      repeat (first | (with_reducible refine imp_i fun _ => ?_) | (with_reducible refine and_a ?_))
      by_cases hc_9 : r_7 = r_8
      · replace h := if_t hc_9 h
        have hq_10 := eq_true hc_9
        obtain ⟨r_11, hr_11, h⟩ := bind_inv h
        try simp -implicitDefEqProofs only [go_sem, simprocAttr, hc_2, hq_6, hq_10]
        repeat (first | (with_reducible refine imp_i fun _ => ?_) | (with_reducible refine and_a ?_))
        refine call_D (lattice_Top_ok hr_11) (by simp [go_sem, hc_2, hq_6, hq_10]) (by simp [go_sem]) (by simp [go_sem]) (by simp [go_sem]) ?_
        obtain ⟨r_12, hr_12, h⟩ := bind_inv h
        try simp -implicitDefEqProofs only [go_sem, simprocAttr, hc_2, hq_6, hq_10]
        repeat (first | (with_reducible refine imp_i fun _ => ?_) | (with_reducible refine and_a ?_))
        refine call_D (lazarettoref01_Top_ok hr_12) (by simp [go_sem, hc_2, hq_6, hq_10]) (by simp [go_sem]) (by simp [go_sem]) (by simp [go_sem]) ?_
        try simp -implicitDefEqProofs only [go_sem, simprocAttr, hc_2, hq_6, hq_10]
        repeat (first | (with_reducible refine imp_i fun _ => ?_) | (with_reducible refine and_a ?_))
        by_cases hc_13 : r_11 = r_12
        · replace h := if_t hc_13 h
          have hq_14 := eq_true hc_13
          obtain ⟨r_15, hr_15, h⟩ := bind_inv h
          try simp -implicitDefEqProofs only [go_sem, simprocAttr, hc_2, hq_6, hq_10, hq_14]
          repeat (first | (with_reducible refine imp_i fun _ => ?_) | (with_reducible refine and_a ?_))
          refine call_D (lazarettolaw01_awake_ok hr_15) (by simp [go_sem, hc_2, hq_6, hq_10, hq_14]) (by simp [go_sem]) (by simp [go_sem]) (by simp [go_sem]) ?_
          obtain rfl := Option.some.inj h
          try simp -implicitDefEqProofs only [go_sem, simprocAttr, hc_2, hq_6, hq_10, hq_14]
          all_goals (repeat (first | (with_reducible refine imp_i fun _ => ?_) | (with_reducible refine and_a ?_)))
          all_goals (try simp [go_sem, hc_2, hq_6, hq_10, hq_14])
        · replace h := if_f hc_13 h
          have hq_16 := eq_false hc_13
          obtain rfl := Option.some.inj h
          try simp -implicitDefEqProofs only [go_sem, simprocAttr, hc_2, hq_6, hq_10, hq_16]
          all_goals (repeat (first | (with_reducible refine imp_i fun _ => ?_) | (with_reducible refine and_a ?_)))
          all_goals (try simp [go_sem, hc_2, hq_6, hq_10, hq_16])
      · replace h := if_f hc_9 h
        have hq_17 := eq_false hc_9
        obtain rfl := Option.some.inj h
        try simp -implicitDefEqProofs only [go_sem, simprocAttr, hc_2, hq_6, hq_17]
        all_goals (repeat (first | (with_reducible refine imp_i fun _ => ?_) | (with_reducible refine and_a ?_)))
        all_goals (try simp [go_sem, hc_2, hq_6, hq_17])
    · replace h := if_f hc_5 h
      have hq_18 := eq_false hc_5
      obtain rfl := Option.some.inj h
      try simp -implicitDefEqProofs only [go_sem, simprocAttr, hc_2, hq_18]
      all_goals (repeat (first | (with_reducible refine imp_i fun _ => ?_) | (with_reducible refine and_a ?_)))
      all_goals (try simp [go_sem, hc_2, hq_18])
  · replace h := if_f hc_2 h
    have hc_2 := nt_ hc_2
    obtain ⟨r_19, hr_19, h⟩ := bind_inv h
    try simp -implicitDefEqProofs only [go_sem, simprocAttr, hc_2]
    repeat (first | (with_reducible refine imp_i fun _ => ?_) | (with_reducible refine and_a ?_))
    refine call_S (lazarettolaw01_awake_ok hr_19) (by simp [go_sem, hc_2]) (by simp [go_sem]) (by simp [go_sem]) (by simp [go_sem]) ?_
    obtain rfl := Option.some.inj h
    try simp -implicitDefEqProofs only [go_sem, simprocAttr, hc_2]
    all_goals (repeat (first | (with_reducible refine imp_i fun _ => ?_) | (with_reducible refine and_a ?_)))
    all_goals (try simp [go_sem, hc_2])
set_option maxRecDepth 100000 in
theorem lazarettolaw01_may_ok {l : api_Lattice} {n : A3 Int} {r : (A3 Int) × Bool} (h : lazarettolaw01_may l n = some r) :
    Pu Try.prog 45 [.agg (e_api_Lattice l), .agg ((eA3 eI) n)] (.tup [.agg ((eA3 eI) r.1), .one (.bool r.2)]) := by
  refine pu_of_awp Try.func45 rfl (by kernel_rfl) (by kernel_rfl) (awp_of_S ?_)
  simp only [Try.f45]
  unfold lazarettolaw01_may at h
  obtain ⟨r_1, hr_1, h⟩ := bind_inv h
  try simp -implicitDefEqProofs only [go_sem, simprocAttr]
  repeat (first | (with_reducible refine imp_i fun _ => ?_) | (with_reducible refine and_a ?_))
  refine call_S (lazarettoref01_Check_ok hr_1) (by simp [go_sem]) (by simp [go_sem]) (by simp [go_sem]) (by simp [go_sem]) ?_
  try simp -implicitDefEqProofs only [go_sem, simprocAttr]
  repeat (first | (with_reducible refine imp_i fun _ => ?_) | (with_reducible refine and_a ?_))
  by_cases hc_2 : r_1 = 0
  · replace h := if_t hc_2 h
    have hq_3 := eq_true hc_2
    obtain ⟨r_4, hr_4, h⟩ := bind_inv h
    try simp -implicitDefEqProofs only [go_sem, simprocAttr, hq_3]
    repeat (first | (with_reducible refine imp_i fun _ => ?_) | (with_reducible refine and_a ?_))
    refine call_S (lazarettolaw01_few_ok hr_4) (by simp [go_sem, hq_3]) (by simp [go_sem]) (by simp [go_sem]) (by simp [go_sem]) ?_
    try simp -implicitDefEqProofs only [go_sem, simprocAttr, hq_3]
    repeat (first | (with_reducible refine imp_i fun _ => ?_) | (with_reducible refine and_a ?_))
    by_cases hc_5 : r_4 = true
    · replace h := if_t hc_5 h
      obtain ⟨e_10, he_10, h⟩ := bind_inv h
      try simp -implicitDefEqProofs only [go_sem, simprocAttr, hq_3, hc_5]
      repeat (first | (with_reducible refine imp_i fun _ => ?_) | (with_reducible refine and_a ?_))
      refine purge_to [2, 3, 4, 6] 3 ((fun (s__ : Int × Int × Int × Nat) (a__ : Unit) => match s__, a__ with | (n_6, n_7, n_8, i_9), _ => ⟨[(2, .one (.ref 0 0 0 0)), (3, .one (.ref 1 0 0 0)), (4, .one (.ref 2 0 0 0)), (6, .one (.int .i64 (i_9 : Int)))], [.cells 0 2 [[.sl (l.Names.map eS), .sl (l.Below.map (eA2 eI))]], .cells 0 3 [[.int .i64 n_6, .int .i64 n_7, .int .i64 n_8]], .cells 0 3 [[.int .i64 0, .int .i64 0, .int .i64 0]]]⟩) (n.a0, n.a1, n.a2, 0) ()) (by simp) (by simp [go_sem]) (by simp [go_sem]) (by simp [go_sem, copyL, List.map_set, hq_3, hc_5] <;> omega) ?_
      refine loop_X (f := lazarettolaw01_may_L1 l) (s0 := (n.a0, n.a1, n.a2, 0)) (fun (s__ : Int × Int × Int × Nat) (a__ : Unit) => match s__, a__ with | (n_6, n_7, n_8, i_9), _ => ⟨[(2, .one (.ref 0 0 0 0)), (3, .one (.ref 1 0 0 0)), (4, .one (.ref 2 0 0 0)), (6, .one (.int .i64 (i_9 : Int)))], [.cells 0 2 [[.sl (l.Names.map eS), .sl (l.Below.map (eA2 eI))]], .cells 0 3 [[.int .i64 n_6, .int .i64 n_7, .int .i64 n_8]], .cells 0 3 [[.int .i64 0, .int .i64 0, .int .i64 0]]]⟩) (fun (e__ : Int × Int × Int) (b__ : Unit) => match e__, b__ with | (n_30, n_31, n_32), _ => ⟨[(3, .one (.ref 1 0 0 0)), (4, .one (.ref 2 0 0 0))], [.cells 0 2 [[.sl (l.Names.map eS), .sl (l.Below.map (eA2 eI))]], .cells 0 3 [[.int .i64 n_30, .int .i64 n_31, .int .i64 n_32]], .cells 0 3 [[.int .i64 0, .int .i64 0, .int .i64 0]]]⟩) (fun (_ : Int × Int × Int) => some 0) () he_10 ?_ ?_
      · intro i11 b11 hi11
        obtain rfl := Option.some.inj hi11
        obtain ⟨n_30, n_31, n_32⟩ := e_10
        obtain ⟨⟩ := b11
        dsimp only at h ⊢
        obtain rfl := Option.some.inj h
        try simp -implicitDefEqProofs only [go_sem, simprocAttr, hq_3, hc_5]
        all_goals (repeat (first | (with_reducible refine imp_i fun _ => ?_) | (with_reducible refine and_a ?_)))
        all_goals (try simp [go_sem, hq_3, hc_5])
      · intro af11 m11 s11 a11 o11 hf11 ho11 ih11
        obtain ⟨n_6, n_7, n_8, i_9⟩ := s11
        obtain ⟨⟩ := a11
        dsimp only [lazarettolaw01_may_L1] at hf11 ⊢ ih11
        try simp -implicitDefEqProofs only [go_sem, simprocAttr, hq_3, hc_5]
        repeat (first | (with_reducible refine imp_i fun _ => ?_) | (with_reducible refine and_a ?_))
        by_cases hc_12 : (i_9 : Int) < 3
        · replace hf11 := if_t hc_12 hf11
          have hq_13 := eq_true hc_12
          try simp -implicitDefEqProofs only [go_sem, simprocAttr, hq_3, hc_5, hq_13]
          repeat (first | (with_reducible refine imp_i fun _ => ?_) | (with_reducible refine and_a ?_))
          by_cases hc_14 : (i_9 : Int) = 0
          · replace hf11 := if_t hc_14 hf11
            have hq_15 : i_9 = 0 := by omega
            obtain ⟨hn_16, hf11⟩ := need_inv hf11
            obtain rfl := Option.some.inj hf11
            try simp -implicitDefEqProofs only [go_sem, simprocAttr, hq_3, hc_5, hq_13, hc_14, hq_15, hn_16]
            repeat (first | (with_reducible refine imp_i fun _ => ?_) | (with_reducible refine and_a ?_))
            have hw_17 := wrap_nat (k := i_9) (by omega)
            refine purge_P [2, 3, 4, 6] 3 ((fun (s__ : Int × Int × Int × Nat) (a__ : Unit) => match s__, a__ with | (n_6, n_7, n_8, i_9), _ => ⟨[(2, .one (.ref 0 0 0 0)), (3, .one (.ref 1 0 0 0)), (4, .one (.ref 2 0 0 0)), (6, .one (.int .i64 (i_9 : Int)))], [.cells 0 2 [[.sl (l.Names.map eS), .sl (l.Below.map (eA2 eI))]], .cells 0 3 [[.int .i64 n_6, .int .i64 n_7, .int .i64 n_8]], .cells 0 3 [[.int .i64 0, .int .i64 0, .int .i64 0]]]⟩) ((w64 ((IntKind.u64.wrap n_6).tmod (IntKind.u64.wrap (l.Names.length : Int)))), n_7, n_8, (i_9 + 1)) ()) (by simp) (by simp [go_sem]) (by simp [go_sem]) (by simp [go_sem, copyL, List.map_set, hq_3, hc_5, hq_13, hc_14, hq_15, hn_16, hw_17] <;> omega) ?_
            exact ih11 ((w64 ((IntKind.u64.wrap n_6).tmod (IntKind.u64.wrap (l.Names.length : Int)))), n_7, n_8, (i_9 + 1)) () ho11
          · replace hf11 := if_f hc_14 hf11
            have hq_18 := eq_false hc_14
            try simp -implicitDefEqProofs only [go_sem, simprocAttr, hq_3, hc_5, hq_13, hq_18]
            repeat (first | (with_reducible refine imp_i fun _ => ?_) | (with_reducible refine and_a ?_))
            by_cases hc_19 : (i_9 : Int) = 1
            · replace hf11 := if_t hc_19 hf11
              have hq_20 : i_9 = 1 := by omega
              obtain ⟨hn_21, hf11⟩ := need_inv hf11
              obtain rfl := Option.some.inj hf11
              try simp -implicitDefEqProofs only [go_sem, simprocAttr, hq_3, hc_5, hq_13, hq_18, hc_19, hq_20, hn_21]
              repeat (first | (with_reducible refine imp_i fun _ => ?_) | (with_reducible refine and_a ?_))
              have hw_22 := wrap_nat (k := i_9) (by omega)
              refine purge_P [2, 3, 4, 6] 3 ((fun (s__ : Int × Int × Int × Nat) (a__ : Unit) => match s__, a__ with | (n_6, n_7, n_8, i_9), _ => ⟨[(2, .one (.ref 0 0 0 0)), (3, .one (.ref 1 0 0 0)), (4, .one (.ref 2 0 0 0)), (6, .one (.int .i64 (i_9 : Int)))], [.cells 0 2 [[.sl (l.Names.map eS), .sl (l.Below.map (eA2 eI))]], .cells 0 3 [[.int .i64 n_6, .int .i64 n_7, .int .i64 n_8]], .cells 0 3 [[.int .i64 0, .int .i64 0, .int .i64 0]]]⟩) (n_6, (w64 ((IntKind.u64.wrap n_7).tmod (IntKind.u64.wrap (l.Names.length : Int)))), n_8, (i_9 + 1)) ()) (by simp) (by simp [go_sem]) (by simp [go_sem]) (by simp [go_sem, copyL, List.map_set, hq_3, hc_5, hq_13, hq_18, hc_19, hq_20, hn_21, hw_22] <;> omega) ?_
              exact ih11 (n_6, (w64 ((IntKind.u64.wrap n_7).tmod (IntKind.u64.wrap (l.Names.length : Int)))), n_8, (i_9 + 1)) () ho11
            · replace hf11 := if_f hc_19 hf11
              have hq_23 := eq_false hc_19
              try simp -implicitDefEqProofs only [go_sem, simprocAttr, hq_3, hc_5, hq_13, hq_18, hq_23]
              repeat (first | (with_reducible refine imp_i fun _ => ?_) | (with_reducible refine and_a ?_))
              by_cases hc_24 : (i_9 : Int) = 2
              · replace hf11 := if_t hc_24 hf11
                have hq_25 : i_9 = 2 := by omega
                obtain ⟨hn_26, hf11⟩ := need_inv hf11
                obtain rfl := Option.some.inj hf11
                try simp -implicitDefEqProofs only [go_sem, simprocAttr, hq_3, hc_5, hq_13, hq_18, hq_23, hc_24, hq_25, hn_26]
                repeat (first | (with_reducible refine imp_i fun _ => ?_) | (with_reducible refine and_a ?_))
                have hw_27 := wrap_nat (k := i_9) (by omega)
                refine purge_P [2, 3, 4, 6] 3 ((fun (s__ : Int × Int × Int × Nat) (a__ : Unit) => match s__, a__ with | (n_6, n_7, n_8, i_9), _ => ⟨[(2, .one (.ref 0 0 0 0)), (3, .one (.ref 1 0 0 0)), (4, .one (.ref 2 0 0 0)), (6, .one (.int .i64 (i_9 : Int)))], [.cells 0 2 [[.sl (l.Names.map eS), .sl (l.Below.map (eA2 eI))]], .cells 0 3 [[.int .i64 n_6, .int .i64 n_7, .int .i64 n_8]], .cells 0 3 [[.int .i64 0, .int .i64 0, .int .i64 0]]]⟩) (n_6, n_7, (w64 ((IntKind.u64.wrap n_8).tmod (IntKind.u64.wrap (l.Names.length : Int)))), (i_9 + 1)) ()) (by simp) (by simp [go_sem]) (by simp [go_sem]) (by simp [go_sem, copyL, List.map_set, hq_3, hc_5, hq_13, hq_18, hq_23, hc_24, hq_25, hn_26, hw_27] <;> omega) ?_
                exact ih11 (n_6, n_7, (w64 ((IntKind.u64.wrap n_8).tmod (IntKind.u64.wrap (l.Names.length : Int)))), (i_9 + 1)) () ho11
              · replace hf11 := if_f hc_24 hf11
                have hq_28 := eq_false hc_24
                cases hf11
        · replace hf11 := if_f hc_12 hf11
          have hq_29 := eq_false hc_12
          obtain rfl := Option.some.inj hf11
          obtain rfl := Option.some.inj ho11
          try simp -implicitDefEqProofs only [go_sem, simprocAttr, hq_3, hc_5, hq_29]
          repeat (first | (with_reducible refine imp_i fun _ => ?_) | (with_reducible refine and_a ?_))
          refine purge_E [3, 4] 3 ((fun (e__ : Int × Int × Int) (b__ : Unit) => match e__, b__ with | (n_30, n_31, n_32), _ => ⟨[(3, .one (.ref 1 0 0 0)), (4, .one (.ref 2 0 0 0))], [.cells 0 2 [[.sl (l.Names.map eS), .sl (l.Below.map (eA2 eI))]], .cells 0 3 [[.int .i64 n_30, .int .i64 n_31, .int .i64 n_32]], .cells 0 3 [[.int .i64 0, .int .i64 0, .int .i64 0]]]⟩) (n_6, n_7, n_8) ()) (by simp) (by simp [go_sem]) (by simp [go_sem]) (by simp [go_sem, copyL, List.map_set, hq_3, hc_5, hq_29] <;> omega) ?_
          exact af11 _ () rfl
    · replace h := if_f hc_5 h
      have hc_5 := nt_ hc_5
      obtain rfl := Option.some.inj h
      try simp -implicitDefEqProofs only [go_sem, simprocAttr, hq_3, hc_5]
      all_goals (repeat (first | (with_reducible refine imp_i fun _ => ?_) | (with_reducible refine and_a ?_)))
      all_goals (try simp [go_sem, hq_3, hc_5])
  · replace h := if_f hc_2 h
    have hq_33 := eq_false hc_2
    obtain rfl := Option.some.inj h
    try simp -implicitDefEqProofs only [go_sem, simprocAttr, hq_33]
    all_goals (repeat (first | (with_reducible refine imp_i fun _ => ?_) | (with_reducible refine and_a ?_)))
    all_goals (try simp [go_sem, hq_33])
set_option maxRecDepth 100000 in
theorem lazarettolaw01_LatticeLaws_ok {l : api_Lattice} {raw : A3 Int} {r : Bool} (h : lazarettolaw01_LatticeLaws l raw = some r) :
    Pu Try.prog 11 [.agg (e_api_Lattice l), .agg ((eA3 eI) raw)] (.one (.bool r)) := by
  refine pu_of_awp Try.func11 rfl (by kernel_rfl) (by kernel_rfl) (awp_of_S ?_)
  simp only [Try.f11]
  unfold lazarettolaw01_LatticeLaws at h
  obtain ⟨r_1, hr_1, h⟩ := bind_inv h
  try simp -implicitDefEqProofs only [go_sem, simprocAttr]
  repeat (first | (with_reducible refine imp_i fun _ => ?_) | (with_reducible refine and_a ?_))
  refine call_S (lazarettolaw01_may_ok hr_1) (by simp [go_sem]) (by simp [go_sem]) (by simp [go_sem]) (by simp [go_sem]) ?_
  try simp -implicitDefEqProofs only [go_sem, simprocAttr]
  repeat (first | (with_reducible refine imp_i fun _ => ?_) | (with_reducible refine and_a ?_))
  by_cases hc_2 : r_1.2 = true
  · replace h := if_t hc_2 h
    obtain ⟨r_3, hr_3, h⟩ := bind_inv h
    try simp -implicitDefEqProofs only [go_sem, simprocAttr, hc_2]
    repeat (first | (with_reducible refine imp_i fun _ => ?_) | (with_reducible refine and_a ?_))
    refine call_D (lattice_Join_ok hr_3) (by simp [go_sem, hc_2]) (by simp [go_sem]) (by simp [go_sem]) (by simp [go_sem]) ?_
    obtain ⟨r_4, hr_4, h⟩ := bind_inv h
    try simp -implicitDefEqProofs only [go_sem, simprocAttr, hc_2]
    repeat (first | (with_reducible refine imp_i fun _ => ?_) | (with_reducible refine and_a ?_))
    refine call_D (lattice_Meet_ok hr_4) (by simp [go_sem, hc_2]) (by simp [go_sem]) (by simp [go_sem]) (by simp [go_sem]) ?_
    obtain ⟨r_5, hr_5, h⟩ := bind_inv h
    try simp -implicitDefEqProofs only [go_sem, simprocAttr, hc_2]
    repeat (first | (with_reducible refine imp_i fun _ => ?_) | (with_reducible refine and_a ?_))
    refine call_S (lattice_Join_ok hr_5) (by simp [go_sem, hc_2]) (by simp [go_sem]) (by simp [go_sem]) (by simp [go_sem]) ?_
    try simp -implicitDefEqProofs only [go_sem, simprocAttr, hc_2]
    repeat (first | (with_reducible refine imp_i fun _ => ?_) | (with_reducible refine and_a ?_))
    by_cases hc_6 : r_3 = r_5
    · replace h := if_t hc_6 h
      have hq_7 := eq_true hc_6
      obtain ⟨r_8, hr_8, h⟩ := bind_inv h
      try simp -implicitDefEqProofs only [go_sem, simprocAttr, hc_2, hq_7]
      repeat (first | (with_reducible refine imp_i fun _ => ?_) | (with_reducible refine and_a ?_))
      refine call_S (lattice_Meet_ok hr_8) (by simp [go_sem, hc_2, hq_7]) (by simp [go_sem]) (by simp [go_sem]) (by simp [go_sem]) ?_
      try simp -implicitDefEqProofs only [go_sem, simprocAttr, hc_2, hq_7]
      repeat (first | (with_reducible refine imp_i fun _ => ?_) | (with_reducible refine and_a ?_))
      by_cases hc_9 : r_4 = r_8
      · replace h := if_t hc_9 h
        have hq_10 := eq_true hc_9
        obtain ⟨r_11, hr_11, h⟩ := bind_inv h
        try simp -implicitDefEqProofs only [go_sem, simprocAttr, hc_2, hq_7, hq_10]
        repeat (first | (with_reducible refine imp_i fun _ => ?_) | (with_reducible refine and_a ?_))
        refine call_S (lattice_Join_ok hr_11) (by simp [go_sem, hc_2, hq_7, hq_10]) (by simp [go_sem]) (by simp [go_sem]) (by simp [go_sem]) ?_
        try simp -implicitDefEqProofs only [go_sem, simprocAttr, hc_2, hq_7, hq_10]
        repeat (first | (with_reducible refine imp_i fun _ => ?_) | (with_reducible refine and_a ?_))
        by_cases hc_12 : r_11 = r_1.1.a0
        · replace h := if_t hc_12 h
          have hq_13 := eq_true hc_12
          obtain ⟨r_14, hr_14, h⟩ := bind_inv h
          try simp -implicitDefEqProofs only [go_sem, simprocAttr, hc_2, hq_7, hq_10, hq_13]
          repeat (first | (with_reducible refine imp_i fun _ => ?_) | (with_reducible refine and_a ?_))
          refine call_S (lattice_Join_ok hr_14) (by simp [go_sem, hc_2, hq_7, hq_10, hq_13]) (by simp [go_sem]) (by simp [go_sem]) (by simp [go_sem]) ?_
          try simp -implicitDefEqProofs only [go_sem, simprocAttr, hc_2, hq_7, hq_10, hq_13]
          repeat (first | (with_reducible refine imp_i fun _ => ?_) | (with_reducible refine and_a ?_))
          by_cases hc_15 : r_14 = r_1.1.a0
          · replace h := if_t hc_15 h
            have hq_16 := eq_true hc_15
            obtain ⟨r_17, hr_17, h⟩ := bind_inv h
            try simp -implicitDefEqProofs only [go_sem, simprocAttr, hc_2, hq_7, hq_10, hq_13, hq_16]
            repeat (first | (with_reducible refine imp_i fun _ => ?_) | (with_reducible refine and_a ?_))
            refine call_S (lattice_Meet_ok hr_17) (by simp [go_sem, hc_2, hq_7, hq_10, hq_13, hq_16]) (by simp [go_sem]) (by simp [go_sem]) (by simp [go_sem]) ?_
            try simp -implicitDefEqProofs only [go_sem, simprocAttr, hc_2, hq_7, hq_10, hq_13, hq_16]
            repeat (first | (with_reducible refine imp_i fun _ => ?_) | (with_reducible refine and_a ?_))
            by_cases hc_18 : r_17 = r_1.1.a0
            · replace h := if_t hc_18 h
              have hq_19 := eq_true hc_18
              obtain ⟨r_20, hr_20, h⟩ := bind_inv h
              try simp -implicitDefEqProofs only [go_sem, simprocAttr, hc_2, hq_7, hq_10, hq_13, hq_16, hq_19]
              repeat (first | (with_reducible refine imp_i fun _ => ?_) | (with_reducible refine and_a ?_))
              refine call_D (lattice_Join_ok hr_20) (by simp [go_sem, hc_2, hq_7, hq_10, hq_13, hq_16, hq_19]) (by simp [go_sem]) (by simp [go_sem]) (by simp [go_sem]) ?_
              obtain ⟨r_21, hr_21, h⟩ := bind_inv h
              try simp -implicitDefEqProofs only [go_sem, simprocAttr, hc_2, hq_7, hq_10, hq_13, hq_16, hq_19]
              repeat (first | (with_reducible refine imp_i fun _ => ?_) | (with_reducible refine and_a ?_))
              refine call_D (lattice_Join_ok hr_21) (by simp [go_sem, hc_2, hq_7, hq_10, hq_13, hq_16, hq_19]) (by simp [go_sem]) (by simp [go_sem]) (by simp [go_sem]) ?_
              obtain ⟨r_22, hr_22, h⟩ := bind_inv h
              try simp -implicitDefEqProofs only [go_sem, simprocAttr, hc_2, hq_7, hq_10, hq_13, hq_16, hq_19]
              repeat (first | (with_reducible refine imp_i fun _ => ?_) | (with_reducible refine and_a ?_))
              refine call_D (lattice_Join_ok hr_22) (by simp [go_sem, hc_2, hq_7, hq_10, hq_13, hq_16, hq_19]) (by simp [go_sem]) (by simp [go_sem]) (by simp [go_sem]) ?_
              try simp -implicitDefEqProofs only [go_sem, simprocAttr, hc_2, hq_7, hq_10, hq_13, hq_16, hq_19]
              repeat (first | (with_reducible refine imp_i fun _ => ?_) | (with_reducible refine and_a ?_))
              by_cases hc_23 : r_20 = r_22
              · replace h := if_t hc_23 h
                have hq_24 := eq_true hc_23
                obtain ⟨r_25, hr_25, h⟩ := bind_inv h
                try simp -implicitDefEqProofs only [go_sem, simprocAttr, hc_2, hq_7, hq_10, hq_13, hq_16, hq_19, hq_24]
                repeat (first | (with_reducible refine imp_i fun _ => ?_) | (with_reducible refine and_a ?_))
                refine call_D (lattice_Meet_ok hr_25) (by simp [go_sem, hc_2, hq_7, hq_10, hq_13, hq_16, hq_19, hq_24]) (by simp [go_sem]) (by simp [go_sem]) (by simp [go_sem]) ?_
                obtain ⟨r_26, hr_26, h⟩ := bind_inv h
                try simp -implicitDefEqProofs only [go_sem, simprocAttr, hc_2, hq_7, hq_10, hq_13, hq_16, hq_19, hq_24]
                repeat (first | (with_reducible refine imp_i fun _ => ?_) | (with_reducible refine and_a ?_))
                refine call_D (lattice_Meet_ok hr_26) (by simp [go_sem, hc_2, hq_7, hq_10, hq_13, hq_16, hq_19, hq_24]) (by simp [go_sem]) (by simp [go_sem]) (by simp [go_sem]) ?_
                obtain ⟨r_27, hr_27, h⟩ := bind_inv h
                try simp -implicitDefEqProofs only [go_sem, simprocAttr, hc_2, hq_7, hq_10, hq_13, hq_16, hq_19, hq_24]
                repeat (first | (with_reducible refine imp_i fun _ => ?_) | (with_reducible refine and_a ?_))
                refine call_D (lattice_Meet_ok hr_27) (by simp [go_sem, hc_2, hq_7, hq_10, hq_13, hq_16, hq_19, hq_24]) (by simp [go_sem]) (by simp [go_sem]) (by simp [go_sem]) ?_
                try simp -implicitDefEqProofs only [go_sem, simprocAttr, hc_2, hq_7, hq_10, hq_13, hq_16, hq_19, hq_24]
                repeat (first | (with_reducible refine imp_i fun _ => ?_) | (with_reducible refine and_a ?_))
                by_cases hc_28 : r_25 = r_27
                · replace h := if_t hc_28 h
                  have hq_29 := eq_true hc_28
                  obtain ⟨r_30, hr_30, h⟩ := bind_inv h
                  try simp -implicitDefEqProofs only [go_sem, simprocAttr, hc_2, hq_7, hq_10, hq_13, hq_16, hq_19, hq_24, hq_29]
                  repeat (first | (with_reducible refine imp_i fun _ => ?_) | (with_reducible refine and_a ?_))
                  refine call_D (lazarettolaw01_awake_ok hr_30) (by simp [go_sem, hc_2, hq_7, hq_10, hq_13, hq_16, hq_19, hq_24, hq_29]) (by simp [go_sem]) (by simp [go_sem]) (by simp [go_sem]) ?_
                  obtain rfl := Option.some.inj h
                  try simp -implicitDefEqProofs only [go_sem, simprocAttr, hc_2, hq_7, hq_10, hq_13, hq_16, hq_19, hq_24, hq_29]
                  all_goals (repeat (first | (with_reducible refine imp_i fun _ => ?_) | (with_reducible refine and_a ?_)))
                  all_goals (try simp [go_sem, hc_2, hq_7, hq_10, hq_13, hq_16, hq_19, hq_24, hq_29])
                · replace h := if_f hc_28 h
                  have hq_31 := eq_false hc_28
                  obtain rfl := Option.some.inj h
                  try simp -implicitDefEqProofs only [go_sem, simprocAttr, hc_2, hq_7, hq_10, hq_13, hq_16, hq_19, hq_24, hq_31]
                  all_goals (repeat (first | (with_reducible refine imp_i fun _ => ?_) | (with_reducible refine and_a ?_)))
                  all_goals (try simp [go_sem, hc_2, hq_7, hq_10, hq_13, hq_16, hq_19, hq_24, hq_31])
              · replace h := if_f hc_23 h
                have hq_32 := eq_false hc_23
                obtain rfl := Option.some.inj h
                try simp -implicitDefEqProofs only [go_sem, simprocAttr, hc_2, hq_7, hq_10, hq_13, hq_16, hq_19, hq_32]
                all_goals (repeat (first | (with_reducible refine imp_i fun _ => ?_) | (with_reducible refine and_a ?_)))
                all_goals (try simp [go_sem, hc_2, hq_7, hq_10, hq_13, hq_16, hq_19, hq_32])
            · replace h := if_f hc_18 h
              have hq_33 := eq_false hc_18
              obtain rfl := Option.some.inj h
              try simp -implicitDefEqProofs only [go_sem, simprocAttr, hc_2, hq_7, hq_10, hq_13, hq_16, hq_33]
              all_goals (repeat (first | (with_reducible refine imp_i fun _ => ?_) | (with_reducible refine and_a ?_)))
              all_goals (try simp [go_sem, hc_2, hq_7, hq_10, hq_13, hq_16, hq_33])
          · replace h := if_f hc_15 h
            have hq_34 := eq_false hc_15
            obtain rfl := Option.some.inj h
            try simp -implicitDefEqProofs only [go_sem, simprocAttr, hc_2, hq_7, hq_10, hq_13, hq_34]
            all_goals (repeat (first | (with_reducible refine imp_i fun _ => ?_) | (with_reducible refine and_a ?_)))
            all_goals (try simp [go_sem, hc_2, hq_7, hq_10, hq_13, hq_34])
        · replace h := if_f hc_12 h
          have hq_35 := eq_false hc_12
          obtain rfl := Option.some.inj h
          try simp -implicitDefEqProofs only [go_sem, simprocAttr, hc_2, hq_7, hq_10, hq_35]
          all_goals (repeat (first | (with_reducible refine imp_i fun _ => ?_) | (with_reducible refine and_a ?_)))
          all_goals (try simp [go_sem, hc_2, hq_7, hq_10, hq_35])
      · replace h := if_f hc_9 h
        have hq_36 := eq_false hc_9
        obtain rfl := Option.some.inj h
        try simp -implicitDefEqProofs only [go_sem, simprocAttr, hc_2, hq_7, hq_36]
        all_goals (repeat (first | (with_reducible refine imp_i fun _ => ?_) | (with_reducible refine and_a ?_)))
        all_goals (try simp [go_sem, hc_2, hq_7, hq_36])
    · replace h := if_f hc_6 h
      have hq_37 := eq_false hc_6
      obtain rfl := Option.some.inj h
      try simp -implicitDefEqProofs only [go_sem, simprocAttr, hc_2, hq_37]
      all_goals (repeat (first | (with_reducible refine imp_i fun _ => ?_) | (with_reducible refine and_a ?_)))
      all_goals (try simp [go_sem, hc_2, hq_37])
  · replace h := if_f hc_2 h
    have hc_2 := nt_ hc_2
    obtain ⟨r_38, hr_38, h⟩ := bind_inv h
    try simp -implicitDefEqProofs only [go_sem, simprocAttr, hc_2]
    repeat (first | (with_reducible refine imp_i fun _ => ?_) | (with_reducible refine and_a ?_))
    refine call_S (lazarettolaw01_awake_ok hr_38) (by simp [go_sem, hc_2]) (by simp [go_sem]) (by simp [go_sem]) (by simp [go_sem]) ?_
    obtain rfl := Option.some.inj h
    try simp -implicitDefEqProofs only [go_sem, simprocAttr, hc_2]
    all_goals (repeat (first | (with_reducible refine imp_i fun _ => ?_) | (with_reducible refine and_a ?_)))
    all_goals (try simp [go_sem, hc_2])
set_option maxRecDepth 100000 in
theorem lazarettolaw01_LatticeBounds_ok {l : api_Lattice} {raw : A3 Int} {r : Bool} (h : lazarettolaw01_LatticeBounds l raw = some r) :
    Pu Try.prog 12 [.agg (e_api_Lattice l), .agg ((eA3 eI) raw)] (.one (.bool r)) := by
  refine pu_of_awp Try.func12 rfl (by kernel_rfl) (by kernel_rfl) (awp_of_S ?_)
  simp only [Try.f12]
  unfold lazarettolaw01_LatticeBounds at h
  obtain ⟨r_1, hr_1, h⟩ := bind_inv h
  try simp -implicitDefEqProofs only [go_sem, simprocAttr]
  repeat (first | (with_reducible refine imp_i fun _ => ?_) | (with_reducible refine and_a ?_))
  refine call_S (lazarettolaw01_may_ok hr_1) (by simp [go_sem]) (by simp [go_sem]) (by simp [go_sem]) (by simp [go_sem]) ?_
  try simp -implicitDefEqProofs only [go_sem, simprocAttr]
  repeat (first | (with_reducible refine imp_i fun _ => ?_) | (with_reducible refine and_a ?_))
  by_cases hc_2 : r_1.2 = true
  · replace h := if_t hc_2 h
    obtain ⟨r_3, hr_3, h⟩ := bind_inv h
    try simp -implicitDefEqProofs only [go_sem, simprocAttr, hc_2]
    repeat (first | (with_reducible refine imp_i fun _ => ?_) | (with_reducible refine and_a ?_))
    refine call_S (lattice_Leq_ok hr_3) (by simp [go_sem, hc_2]) (by simp [go_sem]) (by simp [go_sem]) (by simp [go_sem]) ?_
    obtain ⟨r_4, hr_4, h⟩ := bind_inv h
    try simp -implicitDefEqProofs only [go_sem, simprocAttr, hc_2]
    repeat (first | (with_reducible refine imp_i fun _ => ?_) | (with_reducible refine and_a ?_))
    refine call_D (lattice_Join_ok hr_4) (by simp [go_sem, hc_2]) (by simp [go_sem]) (by simp [go_sem]) (by simp [go_sem]) ?_
    try simp -implicitDefEqProofs only [go_sem, simprocAttr, hc_2]
    repeat (first | (with_reducible refine imp_i fun _ => ?_) | (with_reducible refine and_a ?_))
    by_cases hc_5 : (r_3 == (decide (r_4 = r_1.1.a1))) = true
    · replace h := if_t hc_5 h
      obtain ⟨r_6, hr_6, h⟩ := bind_inv h
      try simp -implicitDefEqProofs only [go_sem, simprocAttr, hc_2, hc_5]
      repeat (first | (with_reducible refine imp_i fun _ => ?_) | (with_reducible refine and_a ?_))
      refine call_D (lattice_Meet_ok hr_6) (by simp [go_sem, hc_2, hc_5]) (by simp [go_sem]) (by simp [go_sem]) (by simp [go_sem]) ?_
      try simp -implicitDefEqProofs only [go_sem, simprocAttr, hc_2, hc_5]
      repeat (first | (with_reducible refine imp_i fun _ => ?_) | (with_reducible refine and_a ?_))
      by_cases hc_7 : (r_3 == (decide (r_6 = r_1.1.a0))) = true
      · replace h := if_t hc_7 h
        obtain ⟨r_8, hr_8, h⟩ := bind_inv h
        try simp -implicitDefEqProofs only [go_sem, simprocAttr, hc_2, hc_5, hc_7]
        repeat (first | (with_reducible refine imp_i fun _ => ?_) | (with_reducible refine and_a ?_))
        refine call_D (lattice_Bottom_ok hr_8) (by simp [go_sem, hc_2, hc_5, hc_7]) (by simp [go_sem]) (by simp [go_sem]) (by simp [go_sem]) ?_
        obtain ⟨r_9, hr_9, h⟩ := bind_inv h
        try simp -implicitDefEqProofs only [go_sem, simprocAttr, hc_2, hc_5, hc_7]
        repeat (first | (with_reducible refine imp_i fun _ => ?_) | (with_reducible refine and_a ?_))
        refine call_D (lattice_Leq_ok hr_9) (by simp [go_sem, hc_2, hc_5, hc_7]) (by simp [go_sem]) (by simp [go_sem]) (by simp [go_sem]) ?_
        try simp -implicitDefEqProofs only [go_sem, simprocAttr, hc_2, hc_5, hc_7]
        repeat (first | (with_reducible refine imp_i fun _ => ?_) | (with_reducible refine and_a ?_))
        by_cases hc_10 : r_9 = true
        · replace h := if_t hc_10 h
          obtain ⟨r_11, hr_11, h⟩ := bind_inv h
          try simp -implicitDefEqProofs only [go_sem, simprocAttr, hc_2, hc_5, hc_7, hc_10]
          repeat (first | (with_reducible refine imp_i fun _ => ?_) | (with_reducible refine and_a ?_))
          refine call_D (lattice_Top_ok hr_11) (by simp [go_sem, hc_2, hc_5, hc_7, hc_10]) (by simp [go_sem]) (by simp [go_sem]) (by simp [go_sem]) ?_
          obtain ⟨r_12, hr_12, h⟩ := bind_inv h
          try simp -implicitDefEqProofs only [go_sem, simprocAttr, hc_2, hc_5, hc_7, hc_10]
          repeat (first | (with_reducible refine imp_i fun _ => ?_) | (with_reducible refine and_a ?_))
          refine call_D (lattice_Leq_ok hr_12) (by simp [go_sem, hc_2, hc_5, hc_7, hc_10]) (by simp [go_sem]) (by simp [go_sem]) (by simp [go_sem]) ?_
          try simp -implicitDefEqProofs only [go_sem, simprocAttr, hc_2, hc_5, hc_7, hc_10]
          repeat (first | (with_reducible refine imp_i fun _ => ?_) | (with_reducible refine and_a ?_))
          by_cases hc_13 : r_12 = true
          · replace h := if_t hc_13 h
            obtain ⟨r_14, hr_14, h⟩ := bind_inv h
            try simp -implicitDefEqProofs only [go_sem, simprocAttr, hc_2, hc_5, hc_7, hc_10, hc_13]
            repeat (first | (with_reducible refine imp_i fun _ => ?_) | (with_reducible refine and_a ?_))
            refine call_D (lazarettolaw01_awake_ok hr_14) (by simp [go_sem, hc_2, hc_5, hc_7, hc_10, hc_13]) (by simp [go_sem]) (by simp [go_sem]) (by simp [go_sem]) ?_
            obtain rfl := Option.some.inj h
            try simp -implicitDefEqProofs only [go_sem, simprocAttr, hc_2, hc_5, hc_7, hc_10, hc_13]
            all_goals (repeat (first | (with_reducible refine imp_i fun _ => ?_) | (with_reducible refine and_a ?_)))
            all_goals (try simp [go_sem, hc_2, hc_5, hc_7, hc_10, hc_13])
          · replace h := if_f hc_13 h
            have hc_13 := nt_ hc_13
            obtain rfl := Option.some.inj h
            try simp -implicitDefEqProofs only [go_sem, simprocAttr, hc_2, hc_5, hc_7, hc_10, hc_13]
            all_goals (repeat (first | (with_reducible refine imp_i fun _ => ?_) | (with_reducible refine and_a ?_)))
            all_goals (try simp [go_sem, hc_2, hc_5, hc_7, hc_10, hc_13])
        · replace h := if_f hc_10 h
          have hc_10 := nt_ hc_10
          obtain rfl := Option.some.inj h
          try simp -implicitDefEqProofs only [go_sem, simprocAttr, hc_2, hc_5, hc_7, hc_10]
          all_goals (repeat (first | (with_reducible refine imp_i fun _ => ?_) | (with_reducible refine and_a ?_)))
          all_goals (try simp [go_sem, hc_2, hc_5, hc_7, hc_10])
      · replace h := if_f hc_7 h
        have hc_7 := nt_ hc_7
        obtain rfl := Option.some.inj h
        try simp -implicitDefEqProofs only [go_sem, simprocAttr, hc_2, hc_5, hc_7]
        all_goals (repeat (first | (with_reducible refine imp_i fun _ => ?_) | (with_reducible refine and_a ?_)))
        all_goals (try simp [go_sem, hc_2, hc_5, hc_7])
    · replace h := if_f hc_5 h
      have hc_5 := nt_ hc_5
      obtain rfl := Option.some.inj h
      try simp -implicitDefEqProofs only [go_sem, simprocAttr, hc_2, hc_5]
      all_goals (repeat (first | (with_reducible refine imp_i fun _ => ?_) | (with_reducible refine and_a ?_)))
      all_goals (try simp [go_sem, hc_2, hc_5])
  · replace h := if_f hc_2 h
    have hc_2 := nt_ hc_2
    obtain ⟨r_15, hr_15, h⟩ := bind_inv h
    try simp -implicitDefEqProofs only [go_sem, simprocAttr, hc_2]
    repeat (first | (with_reducible refine imp_i fun _ => ?_) | (with_reducible refine and_a ?_))
    refine call_S (lazarettolaw01_awake_ok hr_15) (by simp [go_sem, hc_2]) (by simp [go_sem]) (by simp [go_sem]) (by simp [go_sem]) ?_
    obtain rfl := Option.some.inj h
    try simp -implicitDefEqProofs only [go_sem, simprocAttr, hc_2]
    all_goals (repeat (first | (with_reducible refine imp_i fun _ => ?_) | (with_reducible refine and_a ?_)))
    all_goals (try simp [go_sem, hc_2])
set_option maxRecDepth 100000 in
theorem lazarettolaw01_LatticeChain_ok {l : api_Lattice} {raw : A3 Int} {r : Bool} (h : lazarettolaw01_LatticeChain l raw = some r) :
    Pu Try.prog 13 [.agg (e_api_Lattice l), .agg ((eA3 eI) raw)] (.one (.bool r)) := by
  refine pu_of_awp Try.func13 rfl (by kernel_rfl) (by kernel_rfl) (awp_of_S ?_)
  simp only [Try.f13]
  unfold lazarettolaw01_LatticeChain at h
  obtain ⟨r_1, hr_1, h⟩ := bind_inv h
  try simp -implicitDefEqProofs only [go_sem, simprocAttr]
  repeat (first | (with_reducible refine imp_i fun _ => ?_) | (with_reducible refine and_a ?_))
  refine call_S (lazarettolaw01_may_ok hr_1) (by simp [go_sem]) (by simp [go_sem]) (by simp [go_sem]) (by simp [go_sem]) ?_
  try simp -implicitDefEqProofs only [go_sem, simprocAttr]
  repeat (first | (with_reducible refine imp_i fun _ => ?_) | (with_reducible refine and_a ?_))
  by_cases hc_2 : r_1.2 = true
  · replace h := if_t hc_2 h
    obtain ⟨r_3, hr_3, h⟩ := bind_inv h
    try simp -implicitDefEqProofs only [go_sem, simprocAttr, hc_2]
    repeat (first | (with_reducible refine imp_i fun _ => ?_) | (with_reducible refine and_a ?_))
    refine call_S (lattice_Leq_ok hr_3) (by simp [go_sem, hc_2]) (by simp [go_sem]) (by simp [go_sem]) (by simp [go_sem]) ?_
    try simp -implicitDefEqProofs only [go_sem, simprocAttr, hc_2]
    repeat (first | (with_reducible refine imp_i fun _ => ?_) | (with_reducible refine and_a ?_))
    by_cases hc_4 : r_3 = true
    · replace h := if_t hc_4 h
      obtain ⟨r_5, hr_5, h⟩ := bind_inv h
      try simp -implicitDefEqProofs only [go_sem, simprocAttr, hc_2, hc_4]
      repeat (first | (with_reducible refine imp_i fun _ => ?_) | (with_reducible refine and_a ?_))
      refine call_S (lattice_Leq_ok hr_5) (by simp [go_sem, hc_2, hc_4]) (by simp [go_sem]) (by simp [go_sem]) (by simp [go_sem]) ?_
      try simp -implicitDefEqProofs only [go_sem, simprocAttr, hc_2, hc_4]
      repeat (first | (with_reducible refine imp_i fun _ => ?_) | (with_reducible refine and_a ?_))
      by_cases hc_6 : r_5 = true
      · replace h := if_t hc_6 h
        obtain ⟨r_7, hr_7, h⟩ := bind_inv h
        try simp -implicitDefEqProofs only [go_sem, simprocAttr, hc_2, hc_4, hc_6]
        repeat (first | (with_reducible refine imp_i fun _ => ?_) | (with_reducible refine and_a ?_))
        refine call_S (lattice_Leq_ok hr_7) (by simp [go_sem, hc_2, hc_4, hc_6]) (by simp [go_sem]) (by simp [go_sem]) (by simp [go_sem]) ?_
        try simp -implicitDefEqProofs only [go_sem, simprocAttr, hc_2, hc_4, hc_6]
        repeat (first | (with_reducible refine imp_i fun _ => ?_) | (with_reducible refine and_a ?_))
        by_cases hc_8 : r_7 = true
        · replace h := if_t hc_8 h
          obtain ⟨r_9, hr_9, h⟩ := bind_inv h
          try simp -implicitDefEqProofs only [go_sem, simprocAttr, hc_2, hc_4, hc_6, hc_8]
          repeat (first | (with_reducible refine imp_i fun _ => ?_) | (with_reducible refine and_a ?_))
          refine call_S (lattice_Leq_ok hr_9) (by simp [go_sem, hc_2, hc_4, hc_6, hc_8]) (by simp [go_sem]) (by simp [go_sem]) (by simp [go_sem]) ?_
          try simp -implicitDefEqProofs only [go_sem, simprocAttr, hc_2, hc_4, hc_6, hc_8]
          repeat (first | (with_reducible refine imp_i fun _ => ?_) | (with_reducible refine and_a ?_))
          by_cases hc_10 : r_9 = true
          · replace h := if_t hc_10 h
            obtain ⟨r_11, hr_11, h⟩ := bind_inv h
            try simp -implicitDefEqProofs only [go_sem, simprocAttr, hc_2, hc_4, hc_6, hc_8, hc_10]
            repeat (first | (with_reducible refine imp_i fun _ => ?_) | (with_reducible refine and_a ?_))
            refine call_S (lattice_Leq_ok hr_11) (by simp [go_sem, hc_2, hc_4, hc_6, hc_8, hc_10]) (by simp [go_sem]) (by simp [go_sem]) (by simp [go_sem]) ?_
            try simp -implicitDefEqProofs only [go_sem, simprocAttr, hc_2, hc_4, hc_6, hc_8, hc_10]
            repeat (first | (with_reducible refine imp_i fun _ => ?_) | (with_reducible refine and_a ?_))
            by_cases hc_12 : r_11 = true
            · replace h := if_t hc_12 h
              obtain ⟨r_13, hr_13, h⟩ := bind_inv h
              try simp -implicitDefEqProofs only [go_sem, simprocAttr, hc_2, hc_4, hc_6, hc_8, hc_10, hc_12]
              repeat (first | (with_reducible refine imp_i fun _ => ?_) | (with_reducible refine and_a ?_))
              refine call_S (lattice_Leq_ok hr_13) (by simp [go_sem, hc_2, hc_4, hc_6, hc_8, hc_10, hc_12]) (by simp [go_sem]) (by simp [go_sem]) (by simp [go_sem]) ?_
              try simp -implicitDefEqProofs only [go_sem, simprocAttr, hc_2, hc_4, hc_6, hc_8, hc_10, hc_12]
              repeat (first | (with_reducible refine imp_i fun _ => ?_) | (with_reducible refine and_a ?_))
              by_cases hc_14 : r_13 = true
              · replace h := if_t hc_14 h
                try simp -implicitDefEqProofs only [go_sem, simprocAttr, hc_2, hc_4, hc_6, hc_8, hc_10, hc_12, hc_14]
                repeat (first | (with_reducible refine imp_i fun _ => ?_) | (with_reducible refine and_a ?_))
                by_cases hc_15 : r_1.1.a0 = r_1.1.a1
                · replace h := if_t hc_15 h
                  have hq_16 := eq_true hc_15
                  obtain ⟨r_17, hr_17, h⟩ := bind_inv h
                  try simp -implicitDefEqProofs only [go_sem, simprocAttr, hc_2, hc_4, hc_6, hc_8, hc_10, hc_12, hc_14, hq_16]
                  repeat (first | (with_reducible refine imp_i fun _ => ?_) | (with_reducible refine and_a ?_))
                  refine call_S (lazarettolaw01_awake_ok hr_17) (by simp [go_sem, hc_2, hc_4, hc_6, hc_8, hc_10, hc_12, hc_14, hq_16]) (by simp [go_sem]) (by simp [go_sem]) (by simp [go_sem]) ?_
                  obtain rfl := Option.some.inj h
                  try simp -implicitDefEqProofs only [go_sem, simprocAttr, hc_2, hc_4, hc_6, hc_8, hc_10, hc_12, hc_14, hq_16]
                  all_goals (repeat (first | (with_reducible refine imp_i fun _ => ?_) | (with_reducible refine and_a ?_)))
                  all_goals (try simp [go_sem, hc_2, hc_4, hc_6, hc_8, hc_10, hc_12, hc_14, hq_16])
                · replace h := if_f hc_15 h
                  have hq_18 := eq_false hc_15
                  obtain rfl := Option.some.inj h
                  try simp -implicitDefEqProofs only [go_sem, simprocAttr, hc_2, hc_4, hc_6, hc_8, hc_10, hc_12, hc_14, hq_18]
                  all_goals (repeat (first | (with_reducible refine imp_i fun _ => ?_) | (with_reducible refine and_a ?_)))
                  all_goals (try simp [go_sem, hc_2, hc_4, hc_6, hc_8, hc_10, hc_12, hc_14, hq_18])
              · replace h := if_f hc_14 h
                have hc_14 := nt_ hc_14
                obtain ⟨r_19, hr_19, h⟩ := bind_inv h
                try simp -implicitDefEqProofs only [go_sem, simprocAttr, hc_2, hc_4, hc_6, hc_8, hc_10, hc_12, hc_14]
                repeat (first | (with_reducible refine imp_i fun _ => ?_) | (with_reducible refine and_a ?_))
                refine call_S (lazarettolaw01_awake_ok hr_19) (by simp [go_sem, hc_2, hc_4, hc_6, hc_8, hc_10, hc_12, hc_14]) (by simp [go_sem]) (by simp [go_sem]) (by simp [go_sem]) ?_
                obtain rfl := Option.some.inj h
                try simp -implicitDefEqProofs only [go_sem, simprocAttr, hc_2, hc_4, hc_6, hc_8, hc_10, hc_12, hc_14]
                all_goals (repeat (first | (with_reducible refine imp_i fun _ => ?_) | (with_reducible refine and_a ?_)))
                all_goals (try simp [go_sem, hc_2, hc_4, hc_6, hc_8, hc_10, hc_12, hc_14])
            · replace h := if_f hc_12 h
              have hc_12 := nt_ hc_12
              obtain ⟨r_20, hr_20, h⟩ := bind_inv h
              try simp -implicitDefEqProofs only [go_sem, simprocAttr, hc_2, hc_4, hc_6, hc_8, hc_10, hc_12]
              repeat (first | (with_reducible refine imp_i fun _ => ?_) | (with_reducible refine and_a ?_))
              refine call_S (lazarettolaw01_awake_ok hr_20) (by simp [go_sem, hc_2, hc_4, hc_6, hc_8, hc_10, hc_12]) (by simp [go_sem]) (by simp [go_sem]) (by simp [go_sem]) ?_
              obtain rfl := Option.some.inj h
              try simp -implicitDefEqProofs only [go_sem, simprocAttr, hc_2, hc_4, hc_6, hc_8, hc_10, hc_12]
              all_goals (repeat (first | (with_reducible refine imp_i fun _ => ?_) | (with_reducible refine and_a ?_)))
              all_goals (try simp [go_sem, hc_2, hc_4, hc_6, hc_8, hc_10, hc_12])
          · replace h := if_f hc_10 h
            have hc_10 := nt_ hc_10
            obtain rfl := Option.some.inj h
            try simp -implicitDefEqProofs only [go_sem, simprocAttr, hc_2, hc_4, hc_6, hc_8, hc_10]
            all_goals (repeat (first | (with_reducible refine imp_i fun _ => ?_) | (with_reducible refine and_a ?_)))
            all_goals (try simp [go_sem, hc_2, hc_4, hc_6, hc_8, hc_10])
        · replace h := if_f hc_8 h
          have hc_8 := nt_ hc_8
          obtain rfl := Option.some.inj h
          try simp -implicitDefEqProofs only [go_sem, simprocAttr, hc_2, hc_4, hc_6, hc_8]
          all_goals (repeat (first | (with_reducible refine imp_i fun _ => ?_) | (with_reducible refine and_a ?_)))
          all_goals (try simp [go_sem, hc_2, hc_4, hc_6, hc_8])
      · replace h := if_f hc_6 h
        have hc_6 := nt_ hc_6
        obtain ⟨r_21, hr_21, h⟩ := bind_inv h
        try simp -implicitDefEqProofs only [go_sem, simprocAttr, hc_2, hc_4, hc_6]
        repeat (first | (with_reducible refine imp_i fun _ => ?_) | (with_reducible refine and_a ?_))
        refine call_S (lattice_Leq_ok hr_21) (by simp [go_sem, hc_2, hc_4, hc_6]) (by simp [go_sem]) (by simp [go_sem]) (by simp [go_sem]) ?_
        try simp -implicitDefEqProofs only [go_sem, simprocAttr, hc_2, hc_4, hc_6]
        repeat (first | (with_reducible refine imp_i fun _ => ?_) | (with_reducible refine and_a ?_))
        by_cases hc_22 : r_21 = true
        · replace h := if_t hc_22 h
          obtain ⟨r_23, hr_23, h⟩ := bind_inv h
          try simp -implicitDefEqProofs only [go_sem, simprocAttr, hc_2, hc_4, hc_6, hc_22]
          repeat (first | (with_reducible refine imp_i fun _ => ?_) | (with_reducible refine and_a ?_))
          refine call_S (lattice_Leq_ok hr_23) (by simp [go_sem, hc_2, hc_4, hc_6, hc_22]) (by simp [go_sem]) (by simp [go_sem]) (by simp [go_sem]) ?_
          try simp -implicitDefEqProofs only [go_sem, simprocAttr, hc_2, hc_4, hc_6, hc_22]
          repeat (first | (with_reducible refine imp_i fun _ => ?_) | (with_reducible refine and_a ?_))
          by_cases hc_24 : r_23 = true
          · replace h := if_t hc_24 h
            obtain ⟨r_25, hr_25, h⟩ := bind_inv h
            try simp -implicitDefEqProofs only [go_sem, simprocAttr, hc_2, hc_4, hc_6, hc_22, hc_24]
            repeat (first | (with_reducible refine imp_i fun _ => ?_) | (with_reducible refine and_a ?_))
            refine call_S (lattice_Leq_ok hr_25) (by simp [go_sem, hc_2, hc_4, hc_6, hc_22, hc_24]) (by simp [go_sem]) (by simp [go_sem]) (by simp [go_sem]) ?_
            try simp -implicitDefEqProofs only [go_sem, simprocAttr, hc_2, hc_4, hc_6, hc_22, hc_24]
            repeat (first | (with_reducible refine imp_i fun _ => ?_) | (with_reducible refine and_a ?_))
            by_cases hc_26 : r_25 = true
            · replace h := if_t hc_26 h
              try simp -implicitDefEqProofs only [go_sem, simprocAttr, hc_2, hc_4, hc_6, hc_22, hc_24, hc_26]
              repeat (first | (with_reducible refine imp_i fun _ => ?_) | (with_reducible refine and_a ?_))
              by_cases hc_27 : r_1.1.a0 = r_1.1.a1
              · replace h := if_t hc_27 h
                have hq_28 := eq_true hc_27
                obtain ⟨r_29, hr_29, h⟩ := bind_inv h
                try simp -implicitDefEqProofs only [go_sem, simprocAttr, hc_2, hc_4, hc_6, hc_22, hc_24, hc_26, hq_28]
                repeat (first | (with_reducible refine imp_i fun _ => ?_) | (with_reducible refine and_a ?_))
                refine call_S (lazarettolaw01_awake_ok hr_29) (by simp [go_sem, hc_2, hc_4, hc_6, hc_22, hc_24, hc_26, hq_28]) (by simp [go_sem]) (by simp [go_sem]) (by simp [go_sem]) ?_
                obtain rfl := Option.some.inj h
                try simp -implicitDefEqProofs only [go_sem, simprocAttr, hc_2, hc_4, hc_6, hc_22, hc_24, hc_26, hq_28]
                all_goals (repeat (first | (with_reducible refine imp_i fun _ => ?_) | (with_reducible refine and_a ?_)))
                all_goals (try simp [go_sem, hc_2, hc_4, hc_6, hc_22, hc_24, hc_26, hq_28])
              · replace h := if_f hc_27 h
                have hq_30 := eq_false hc_27
                obtain rfl := Option.some.inj h
                try simp -implicitDefEqProofs only [go_sem, simprocAttr, hc_2, hc_4, hc_6, hc_22, hc_24, hc_26, hq_30]
                all_goals (repeat (first | (with_reducible refine imp_i fun _ => ?_) | (with_reducible refine and_a ?_)))
                all_goals (try simp [go_sem, hc_2, hc_4, hc_6, hc_22, hc_24, hc_26, hq_30])
            · replace h := if_f hc_26 h
              have hc_26 := nt_ hc_26
              obtain ⟨r_31, hr_31, h⟩ := bind_inv h
              try simp -implicitDefEqProofs only [go_sem, simprocAttr, hc_2, hc_4, hc_6, hc_22, hc_24, hc_26]
              repeat (first | (with_reducible refine imp_i fun _ => ?_) | (with_reducible refine and_a ?_))
              refine call_S (lazarettolaw01_awake_ok hr_31) (by simp [go_sem, hc_2, hc_4, hc_6, hc_22, hc_24, hc_26]) (by simp [go_sem]) (by simp [go_sem]) (by simp [go_sem]) ?_
              obtain rfl := Option.some.inj h
              try simp -implicitDefEqProofs only [go_sem, simprocAttr, hc_2, hc_4, hc_6, hc_22, hc_24, hc_26]
              all_goals (repeat (first | (with_reducible refine imp_i fun _ => ?_) | (with_reducible refine and_a ?_)))
              all_goals (try simp [go_sem, hc_2, hc_4, hc_6, hc_22, hc_24, hc_26])
          · replace h := if_f hc_24 h
            have hc_24 := nt_ hc_24
            obtain ⟨r_32, hr_32, h⟩ := bind_inv h
            try simp -implicitDefEqProofs only [go_sem, simprocAttr, hc_2, hc_4, hc_6, hc_22, hc_24]
            repeat (first | (with_reducible refine imp_i fun _ => ?_) | (with_reducible refine and_a ?_))
            refine call_S (lazarettolaw01_awake_ok hr_32) (by simp [go_sem, hc_2, hc_4, hc_6, hc_22, hc_24]) (by simp [go_sem]) (by simp [go_sem]) (by simp [go_sem]) ?_
            obtain rfl := Option.some.inj h
            try simp -implicitDefEqProofs only [go_sem, simprocAttr, hc_2, hc_4, hc_6, hc_22, hc_24]
            all_goals (repeat (first | (with_reducible refine imp_i fun _ => ?_) | (with_reducible refine and_a ?_)))
            all_goals (try simp [go_sem, hc_2, hc_4, hc_6, hc_22, hc_24])
        · replace h := if_f hc_22 h
          have hc_22 := nt_ hc_22
          obtain rfl := Option.some.inj h
          try simp -implicitDefEqProofs only [go_sem, simprocAttr, hc_2, hc_4, hc_6, hc_22]
          all_goals (repeat (first | (with_reducible refine imp_i fun _ => ?_) | (with_reducible refine and_a ?_)))
          all_goals (try simp [go_sem, hc_2, hc_4, hc_6, hc_22])
    · replace h := if_f hc_4 h
      have hc_4 := nt_ hc_4
      obtain ⟨r_33, hr_33, h⟩ := bind_inv h
      try simp -implicitDefEqProofs only [go_sem, simprocAttr, hc_2, hc_4]
      repeat (first | (with_reducible refine imp_i fun _ => ?_) | (with_reducible refine and_a ?_))
      refine call_S (lattice_Leq_ok hr_33) (by simp [go_sem, hc_2, hc_4]) (by simp [go_sem]) (by simp [go_sem]) (by simp [go_sem]) ?_
      try simp -implicitDefEqProofs only [go_sem, simprocAttr, hc_2, hc_4]
      repeat (first | (with_reducible refine imp_i fun _ => ?_) | (with_reducible refine and_a ?_))
      by_cases hc_34 : r_33 = true
      · replace h := if_t hc_34 h
        obtain ⟨r_35, hr_35, h⟩ := bind_inv h
        try simp -implicitDefEqProofs only [go_sem, simprocAttr, hc_2, hc_4, hc_34]
        repeat (first | (with_reducible refine imp_i fun _ => ?_) | (with_reducible refine and_a ?_))
        refine call_S (lattice_Leq_ok hr_35) (by simp [go_sem, hc_2, hc_4, hc_34]) (by simp [go_sem]) (by simp [go_sem]) (by simp [go_sem]) ?_
        try simp -implicitDefEqProofs only [go_sem, simprocAttr, hc_2, hc_4, hc_34]
        repeat (first | (with_reducible refine imp_i fun _ => ?_) | (with_reducible refine and_a ?_))
        by_cases hc_36 : r_35 = true
        · replace h := if_t hc_36 h
          obtain ⟨r_37, hr_37, h⟩ := bind_inv h
          try simp -implicitDefEqProofs only [go_sem, simprocAttr, hc_2, hc_4, hc_34, hc_36]
          repeat (first | (with_reducible refine imp_i fun _ => ?_) | (with_reducible refine and_a ?_))
          refine call_S (lattice_Leq_ok hr_37) (by simp [go_sem, hc_2, hc_4, hc_34, hc_36]) (by simp [go_sem]) (by simp [go_sem]) (by simp [go_sem]) ?_
          try simp -implicitDefEqProofs only [go_sem, simprocAttr, hc_2, hc_4, hc_34, hc_36]
          repeat (first | (with_reducible refine imp_i fun _ => ?_) | (with_reducible refine and_a ?_))
          by_cases hc_38 : r_37 = true
          · replace h := if_t hc_38 h
            try simp -implicitDefEqProofs only [go_sem, simprocAttr, hc_2, hc_4, hc_34, hc_36, hc_38]
            repeat (first | (with_reducible refine imp_i fun _ => ?_) | (with_reducible refine and_a ?_))
            by_cases hc_39 : r_1.1.a0 = r_1.1.a1
            · replace h := if_t hc_39 h
              have hq_40 := eq_true hc_39
              obtain ⟨r_41, hr_41, h⟩ := bind_inv h
              try simp -implicitDefEqProofs only [go_sem, simprocAttr, hc_2, hc_4, hc_34, hc_36, hc_38, hq_40]
              repeat (first | (with_reducible refine imp_i fun _ => ?_) | (with_reducible refine and_a ?_))
              refine call_S (lazarettolaw01_awake_ok hr_41) (by simp [go_sem, hc_2, hc_4, hc_34, hc_36, hc_38, hq_40]) (by simp [go_sem]) (by simp [go_sem]) (by simp [go_sem]) ?_
              obtain rfl := Option.some.inj h
              try simp -implicitDefEqProofs only [go_sem, simprocAttr, hc_2, hc_4, hc_34, hc_36, hc_38, hq_40]
              all_goals (repeat (first | (with_reducible refine imp_i fun _ => ?_) | (with_reducible refine and_a ?_)))
              all_goals (try simp [go_sem, hc_2, hc_4, hc_34, hc_36, hc_38, hq_40])
            · replace h := if_f hc_39 h
              have hq_42 := eq_false hc_39
              obtain rfl := Option.some.inj h
              try simp -implicitDefEqProofs only [go_sem, simprocAttr, hc_2, hc_4, hc_34, hc_36, hc_38, hq_42]
              all_goals (repeat (first | (with_reducible refine imp_i fun _ => ?_) | (with_reducible refine and_a ?_)))
              all_goals (try simp [go_sem, hc_2, hc_4, hc_34, hc_36, hc_38, hq_42])
          · replace h := if_f hc_38 h
            have hc_38 := nt_ hc_38
            obtain ⟨r_43, hr_43, h⟩ := bind_inv h
            try simp -implicitDefEqProofs only [go_sem, simprocAttr, hc_2, hc_4, hc_34, hc_36, hc_38]
            repeat (first | (with_reducible refine imp_i fun _ => ?_) | (with_reducible refine and_a ?_))
            refine call_S (lazarettolaw01_awake_ok hr_43) (by simp [go_sem, hc_2, hc_4, hc_34, hc_36, hc_38]) (by simp [go_sem]) (by simp [go_sem]) (by simp [go_sem]) ?_
            obtain rfl := Option.some.inj h
            try simp -implicitDefEqProofs only [go_sem, simprocAttr, hc_2, hc_4, hc_34, hc_36, hc_38]
            all_goals (repeat (first | (with_reducible refine imp_i fun _ => ?_) | (with_reducible refine and_a ?_)))
            all_goals (try simp [go_sem, hc_2, hc_4, hc_34, hc_36, hc_38])
        · replace h := if_f hc_36 h
          have hc_36 := nt_ hc_36
          obtain ⟨r_44, hr_44, h⟩ := bind_inv h
          try simp -implicitDefEqProofs only [go_sem, simprocAttr, hc_2, hc_4, hc_34, hc_36]
          repeat (first | (with_reducible refine imp_i fun _ => ?_) | (with_reducible refine and_a ?_))
          refine call_S (lazarettolaw01_awake_ok hr_44) (by simp [go_sem, hc_2, hc_4, hc_34, hc_36]) (by simp [go_sem]) (by simp [go_sem]) (by simp [go_sem]) ?_
          obtain rfl := Option.some.inj h
          try simp -implicitDefEqProofs only [go_sem, simprocAttr, hc_2, hc_4, hc_34, hc_36]
          all_goals (repeat (first | (with_reducible refine imp_i fun _ => ?_) | (with_reducible refine and_a ?_)))
          all_goals (try simp [go_sem, hc_2, hc_4, hc_34, hc_36])
      · replace h := if_f hc_34 h
        have hc_34 := nt_ hc_34
        obtain rfl := Option.some.inj h
        try simp -implicitDefEqProofs only [go_sem, simprocAttr, hc_2, hc_4, hc_34]
        all_goals (repeat (first | (with_reducible refine imp_i fun _ => ?_) | (with_reducible refine and_a ?_)))
        all_goals (try simp [go_sem, hc_2, hc_4, hc_34])
  · replace h := if_f hc_2 h
    have hc_2 := nt_ hc_2
    obtain ⟨r_45, hr_45, h⟩ := bind_inv h
    try simp -implicitDefEqProofs only [go_sem, simprocAttr, hc_2]
    repeat (first | (with_reducible refine imp_i fun _ => ?_) | (with_reducible refine and_a ?_))
    refine call_S (lazarettolaw01_awake_ok hr_45) (by simp [go_sem, hc_2]) (by simp [go_sem]) (by simp [go_sem]) (by simp [go_sem]) ?_
    obtain rfl := Option.some.inj h
    try simp -implicitDefEqProofs only [go_sem, simprocAttr, hc_2]
    all_goals (repeat (first | (with_reducible refine imp_i fun _ => ?_) | (with_reducible refine and_a ?_)))
    all_goals (try simp [go_sem, hc_2])
end Go.Lz
