/- V10 -/
import Derived.Test.YtbcpfhnlidpcbaaV01
namespace Go.Lz
set_option linter.unusedVariables false
set_option linter.unusedSimpArgs false
open Go.Proofs
attribute [-go_sem] q_cond g_b gd_b
set_option maxRecDepth 100000
noncomputable section
def lazarettolaw06_Few_L1 (lazarettolaw06_Few_r : api_Expr → Int → Int → Option Int) (e : api_Expr) (deep : Int) : (Int × Nat) → Option ((Int × Nat) ⊕ (Int))
  | (left_1, i_2) => if (i_2 : Int) < (e.Args.length : Int) then (if 0 ≤ left_1 then ((e.Args[i_2]?).bind fun x_5 => (lazarettolaw06_Few_r x_5 (w64 (deep - 1)) left_1).bind fun r_6 => some (.inl (r_6, (i_2 + 1)))) else (some (.inr (left_1)))) else (some (.inr (left_1)))
def lazarettolaw06_Few_b (lazarettolaw06_Few_r : api_Expr → Int → Int → Option Int) (e : api_Expr) (deep : Int) (left : Int) : Option Int :=
  if deep < 1 then (some (-1)) else (if (w64 (left - (w64 ((w64 (1 + (e.Args.length : Int))) + (w64 ((e.Name.length : Int).tdiv 100)))))) < 0 then (some (-1)) else ((loop (lazarettolaw06_Few_L1 lazarettolaw06_Few_r e deep) ((w64 (left - (w64 ((w64 (1 + (e.Args.length : Int))) + (w64 ((e.Name.length : Int).tdiv 100)))))), 0)).bind (fun e_3 => some e_3)))
def lazarettolaw06_Few_g : Nat → (api_Expr → Int → Int → Option Int)
  | 0 => fun _ _ _ => none
  | n + 1 => lazarettolaw06_Few_b (lazarettolaw06_Few_g n)
def lazarettolaw06_Few_n (n : Nat) (e : api_Expr) (deep : Int) (left : Int) : Option Int := (lazarettolaw06_Few_g n) e deep left
def lazarettolaw06_Few (e : api_Expr) (deep : Int) (left : Int) : Option Int := lazarettolaw06_Few_n 1000000 e deep left
def lazarettolaw07_Few_L2 (lazarettolaw07_Few_r : (List api_Stmt) → Int → Int → Option Int) (l : List api_Stmt) (deep : Int) : (Int × Nat) → Option ((Int × Nat) ⊕ (Int))
  | (left_12, i_13) => if (i_13 : Int) < (l.length : Int) then (if 0 ≤ left_12 then ((l[i_13]?).bind fun x_16 => (lazarettolaw06_Few x_16.Target 60 (w64 (left_12 - (w64 ((x_16.Name.length : Int).tdiv 100))))).bind fun r_17 => if 0 ≤ r_17 then ((lazarettolaw06_Few x_16.Value 60 r_17).bind fun r_18 => if 0 ≤ r_18 then ((lazarettolaw06_Few (⟨0, 0, 0, [], x_16.Args⟩ : api_Expr) 60 r_18).bind fun r_19 => if 0 ≤ r_19 then ((lazarettolaw07_Few_r x_16.Body (w64 (deep - 1)) r_19).bind fun r_20 => if 0 ≤ r_20 then ((lazarettolaw07_Few_r x_16.Else (w64 (deep - 1)) r_20).bind fun r_21 => some (.inl (r_21, (i_13 + 1)))) else (some (.inl (r_20, (i_13 + 1))))) else (some (.inl (r_19, (i_13 + 1))))) else (some (.inl (r_18, (i_13 + 1))))) else (some (.inl (r_17, (i_13 + 1))))) else (some (.inr (left_12)))) else (some (.inr (left_12)))
def lazarettolaw07_Few_L1 (lazarettolaw07_Few_r : (List api_Stmt) → Int → Int → Option Int) (l : List api_Stmt) (deep : Int) : (Int × Nat) → Option ((Int × Nat) ⊕ (Int))
  | (left_1, i_2) => if (i_2 : Int) < (l.length : Int) then (if 0 ≤ left_1 then ((l[i_2]?).bind fun x_5 => (lazarettolaw06_Few x_5.Target 60 (w64 (left_1 - (w64 ((x_5.Name.length : Int).tdiv 100))))).bind fun r_6 => if 0 ≤ r_6 then ((lazarettolaw06_Few x_5.Value 60 r_6).bind fun r_7 => if 0 ≤ r_7 then ((lazarettolaw06_Few (⟨0, 0, 0, [], x_5.Args⟩ : api_Expr) 60 r_7).bind fun r_8 => if 0 ≤ r_8 then ((lazarettolaw07_Few_r x_5.Body (w64 (deep - 1)) r_8).bind fun r_9 => if 0 ≤ r_9 then ((lazarettolaw07_Few_r x_5.Else (w64 (deep - 1)) r_9).bind fun r_10 => some (.inl (r_10, (i_2 + 1)))) else (some (.inl (r_9, (i_2 + 1))))) else (some (.inl (r_8, (i_2 + 1))))) else (some (.inl (r_7, (i_2 + 1))))) else (some (.inl (r_6, (i_2 + 1))))) else (some (.inr (left_1)))) else (some (.inr (left_1)))
def lazarettolaw07_Few_b (lazarettolaw07_Few_r : (List api_Stmt) → Int → Int → Option Int) (l : List api_Stmt) (deep : Int) (left : Int) : Option Int :=
  if 0 < (l.length : Int) then (if deep < 1 then (some (-1)) else (if (w64 (left - (l.length : Int))) < 0 then (some (-1)) else ((loop (lazarettolaw07_Few_L1 lazarettolaw07_Few_r l deep) ((w64 (left - (l.length : Int))), 0)).bind (fun e_3 => some e_3)))) else (if (w64 (left - (l.length : Int))) < 0 then (some (-1)) else ((loop (lazarettolaw07_Few_L2 lazarettolaw07_Few_r l deep) ((w64 (left - (l.length : Int))), 0)).bind (fun e_14 => some e_14)))
def lazarettolaw07_Few_g : Nat → ((List api_Stmt) → Int → Int → Option Int)
  | 0 => fun _ _ _ => none
  | n + 1 => lazarettolaw07_Few_b (lazarettolaw07_Few_g n)
def lazarettolaw07_Few_n (n : Nat) (l : List api_Stmt) (deep : Int) (left : Int) : Option Int := (lazarettolaw07_Few_g n) l deep left
def lazarettolaw07_Few (l : List api_Stmt) (deep : Int) (left : Int) : Option Int := lazarettolaw07_Few_n 1000000 l deep left
def lazarettolaw08_Few_L1 (p : api_Program) : Nat → Option ((Nat) ⊕ (Int ⊕ Unit))
  | i_1 => if (i_1 : Int) < (p.Tasks.length : Int) then ((p.Tasks[i_1]?).bind fun x_4 => if 100 < (x_4.Budget.length : Int) then (some (.inr (.inl (0)))) else ((lazarettolaw07_Few x_4.Body 60 2000).bind fun r_5 => if r_5 < 0 then (some (.inr (.inl (0)))) else (some (.inl (i_1 + 1))))) else (some (.inr (.inr (()))))
def lazarettolaw08_Few (p : api_Program) : Option Int :=
  if 500 < (w64 ((w64 ((w64 ((w64 ((p.Lattice.Names.length : Int) + (p.Lattice.Below.length : Int))) + (p.Sites.length : Int))) + (p.Vars.length : Int))) + (p.Blocks.length : Int))) then (some 0) else (if 10 < (p.Tasks.length : Int) then (some 0) else ((loop (lazarettolaw08_Few_L1 p) 0).bind (fun e__ => match e__ with | (.inl e_6) => some e_6 | (.inr ()) => some 1)))
def slices_IndexFunc_api_Var_api_Var_L1 (s : List api_Var) (f : (api_Var → Option Bool)) : Nat → Option ((Nat) ⊕ (Int ⊕ Unit))
  | x_1 => if (x_1 : Int) < (s.length : Int) then ((s[x_1]?).bind fun x_4 => (f x_4).bind fun r_5 => if r_5 = true then (some (.inr (.inl ((x_1 : Int))))) else (some (.inl (x_1 + 1)))) else (some (.inr (.inr (()))))
def slices_IndexFunc_api_Var_api_Var (s : List api_Var) (f : (api_Var → Option Bool)) : Option Int :=
  (loop (slices_IndexFunc_api_Var_api_Var_L1 s f) 0).bind (fun e__ => match e__ with | (.inl e_6) => some e_6 | (.inr ()) => some (-1))
def names_find_api_Var_1 (c0 : (api_Var → Option Str)) (c1 : Str) (x : api_Var) : Option Bool :=
  (c0 x).bind fun r_1 => some (decide (r_1 = c1))
def names_find_api_Var (l : List api_Var) (name : Str) (of : (api_Var → Option Str)) : Option Int :=
  (slices_IndexFunc_api_Var_api_Var l (names_find_api_Var_1 of name)).bind fun r_1 => some r_1
def names_Var_1 (v : api_Var) : Option Str :=
  some v.Name
def names_Var (p : api_Program) (name : Str) : Option Int :=
  (names_find_api_Var p.Vars name names_Var_1).bind fun r_1 => some r_1
def slices_IndexFunc_api_Block_api_Block_L1 (s : List api_Block) (f : (api_Block → Option Bool)) : Nat → Option ((Nat) ⊕ (Int ⊕ Unit))
  | x_1 => if (x_1 : Int) < (s.length : Int) then ((s[x_1]?).bind fun x_4 => (f x_4).bind fun r_5 => if r_5 = true then (some (.inr (.inl ((x_1 : Int))))) else (some (.inl (x_1 + 1)))) else (some (.inr (.inr (()))))
def slices_IndexFunc_api_Block_api_Block (s : List api_Block) (f : (api_Block → Option Bool)) : Option Int :=
  (loop (slices_IndexFunc_api_Block_api_Block_L1 s f) 0).bind (fun e__ => match e__ with | (.inl e_6) => some e_6 | (.inr ()) => some (-1))
def names_find_api_Block_1 (c0 : (api_Block → Option Str)) (c1 : Str) (x : api_Block) : Option Bool :=
  (c0 x).bind fun r_1 => some (decide (r_1 = c1))
def names_find_api_Block (l : List api_Block) (name : Str) (of : (api_Block → Option Str)) : Option Int :=
  (slices_IndexFunc_api_Block_api_Block l (names_find_api_Block_1 of name)).bind fun r_1 => some r_1
def names_Block_1 (b : api_Block) : Option Str :=
  some b.Name
def names_Block (p : api_Program) (name : Str) : Option Int :=
  (names_find_api_Block p.Blocks name names_Block_1).bind fun r_1 => some r_1
def slices_IndexFunc_api_Site_api_Site_L1 (s : List api_Site) (f : (api_Site → Option Bool)) : Nat → Option ((Nat) ⊕ (Int ⊕ Unit))
  | x_1 => if (x_1 : Int) < (s.length : Int) then ((s[x_1]?).bind fun x_4 => (f x_4).bind fun r_5 => if r_5 = true then (some (.inr (.inl ((x_1 : Int))))) else (some (.inl (x_1 + 1)))) else (some (.inr (.inr (()))))
def slices_IndexFunc_api_Site_api_Site (s : List api_Site) (f : (api_Site → Option Bool)) : Option Int :=
  (loop (slices_IndexFunc_api_Site_api_Site_L1 s f) 0).bind (fun e__ => match e__ with | (.inl e_6) => some e_6 | (.inr ()) => some (-1))
def names_find_api_Site_1 (c0 : (api_Site → Option Str)) (c1 : Str) (x : api_Site) : Option Bool :=
  (c0 x).bind fun r_1 => some (decide (r_1 = c1))
def names_find_api_Site (l : List api_Site) (name : Str) (of : (api_Site → Option Str)) : Option Int :=
  (slices_IndexFunc_api_Site_api_Site l (names_find_api_Site_1 of name)).bind fun r_1 => some r_1
def names_Site_1 (s : api_Site) : Option Str :=
  some s.Name
def names_Site (p : api_Program) (name : Str) : Option Int :=
  (names_find_api_Site p.Sites name names_Site_1).bind fun r_1 => some r_1
def slices_IndexFunc_api_Stmt_api_Stmt_L1 (s : List api_Stmt) (f : (api_Stmt → Option Bool)) : Nat → Option ((Nat) ⊕ (Int ⊕ Unit))
  | x_1 => if (x_1 : Int) < (s.length : Int) then ((s[x_1]?).bind fun x_4 => (f x_4).bind fun r_5 => if r_5 = true then (some (.inr (.inl ((x_1 : Int))))) else (some (.inl (x_1 + 1)))) else (some (.inr (.inr (()))))
def slices_IndexFunc_api_Stmt_api_Stmt (s : List api_Stmt) (f : (api_Stmt → Option Bool)) : Option Int :=
  (loop (slices_IndexFunc_api_Stmt_api_Stmt_L1 s f) 0).bind (fun e__ => match e__ with | (.inl e_6) => some e_6 | (.inr ()) => some (-1))
def slices_ContainsFunc_api_Stmt_api_Stmt (s : List api_Stmt) (f : (api_Stmt → Option Bool)) : Option Bool :=
  (slices_IndexFunc_api_Stmt_api_Stmt s f).bind fun r_1 => some (decide (0 ≤ r_1))
def slices_IndexFunc_api_Expr_api_Expr_L1 (s : List api_Expr) (f : (api_Expr → Option Bool)) : Nat → Option ((Nat) ⊕ (Int ⊕ Unit))
  | x_1 => if (x_1 : Int) < (s.length : Int) then ((s[x_1]?).bind fun x_4 => (f x_4).bind fun r_5 => if r_5 = true then (some (.inr (.inl ((x_1 : Int))))) else (some (.inl (x_1 + 1)))) else (some (.inr (.inr (()))))
def slices_IndexFunc_api_Expr_api_Expr (s : List api_Expr) (f : (api_Expr → Option Bool)) : Option Int :=
  (loop (slices_IndexFunc_api_Expr_api_Expr_L1 s f) 0).bind (fun e__ => match e__ with | (.inl e_6) => some e_6 | (.inr ()) => some (-1))
def slices_ContainsFunc_api_Expr_api_Expr (s : List api_Expr) (f : (api_Expr → Option Bool)) : Option Bool :=
  (slices_IndexFunc_api_Expr_api_Expr s f).bind fun r_1 => some (decide (0 ≤ r_1))
def names_known_b (names_known_r : api_Program → api_Expr → Option Bool) (names_all_r : api_Program → (List api_Expr) → Option Bool) (names_all_1_r : api_Program → api_Expr → Option Bool) (p : api_Program) (e : api_Expr) : Option Bool :=
  if e.Op = 2 then ((names_Var p e.Name).bind fun r_1 => if 0 ≤ r_1 then ((names_all_r p e.Args).bind fun r_2 => some r_2) else (some false)) else (if e.Op = 3 then ((names_Var p e.Name).bind fun r_3 => if 0 ≤ r_3 then ((names_all_r p e.Args).bind fun r_4 => some r_4) else (some false)) else (if e.Op = 4 then ((names_Block p e.Name).bind fun r_5 => if 0 ≤ r_5 then ((names_all_r p e.Args).bind fun r_6 => some r_6) else (some false)) else (if e.Op = 21 then ((names_Site p e.Name).bind fun r_7 => if 0 ≤ r_7 then ((names_all_r p e.Args).bind fun r_8 => some r_8) else (some false)) else ((names_all_r p e.Args).bind fun r_9 => some r_9))))
def names_all_b (names_known_r : api_Program → api_Expr → Option Bool) (names_all_r : api_Program → (List api_Expr) → Option Bool) (names_all_1_r : api_Program → api_Expr → Option Bool) (p : api_Program) (l : List api_Expr) : Option Bool :=
  (slices_ContainsFunc_api_Expr_api_Expr l (names_all_1_r p)).bind fun r_1 => some (!r_1)
def names_all_1_b (names_known_r : api_Program → api_Expr → Option Bool) (names_all_r : api_Program → (List api_Expr) → Option Bool) (names_all_1_r : api_Program → api_Expr → Option Bool) (c0 : api_Program) (e : api_Expr) : Option Bool :=
  (names_known_r c0 e).bind fun r_1 => some (!r_1)
def names_known_g : Nat → (api_Program → api_Expr → Option Bool) × (api_Program → (List api_Expr) → Option Bool) × (api_Program → api_Expr → Option Bool)
  | 0 => (fun _ _ => none, fun _ _ => none, fun _ _ => none)
  | n + 1 => (names_known_b (names_known_g n).1 (names_known_g n).2.1 (names_known_g n).2.2, names_all_b (names_known_g n).1 (names_known_g n).2.1 (names_known_g n).2.2, names_all_1_b (names_known_g n).1 (names_known_g n).2.1 (names_known_g n).2.2)
def names_known_n (n : Nat) (p : api_Program) (e : api_Expr) : Option Bool := (names_known_g n).1 p e
def names_known (p : api_Program) (e : api_Expr) : Option Bool := names_known_n 1000000 p e
def names_all_n (n : Nat) (p : api_Program) (l : List api_Expr) : Option Bool := (names_known_g n).2.1 p l
def names_all (p : api_Program) (l : List api_Expr) : Option Bool := names_all_n 1000000 p l
def names_all_1_n (n : Nat) (c0 : api_Program) (e : api_Expr) : Option Bool := (names_known_g n).2.2 c0 e
def names_all_1 (c0 : api_Program) (e : api_Expr) : Option Bool := names_all_1_n 1000000 c0 e
def names_stmts_b (names_stmts_r : api_Program → (List api_Stmt) → Option Bool) (names_stmts_1_r : api_Program → api_Stmt → Option Bool) (p : api_Program) (l : List api_Stmt) : Option Bool :=
  (slices_ContainsFunc_api_Stmt_api_Stmt l (names_stmts_1_r p)).bind fun r_1 => some (!r_1)
def names_stmts_1_b (names_stmts_r : api_Program → (List api_Stmt) → Option Bool) (names_stmts_1_r : api_Program → api_Stmt → Option Bool) (c0 : api_Program) (s : api_Stmt) : Option Bool :=
  if s.Kind = 4 then ((names_Var c0 s.Name).bind fun r_1 => if 0 ≤ r_1 then ((names_known c0 s.Target).bind fun r_2 => if r_2 = true then ((names_known c0 s.Value).bind fun r_3 => if r_3 = true then ((names_all c0 s.Args).bind fun r_4 => if r_4 = true then ((names_stmts_r c0 s.Body).bind fun r_5 => if r_5 = true then ((names_stmts_r c0 s.Else).bind fun r_6 => some (!r_6)) else (some true)) else (some true)) else (some true)) else (some true)) else (if s.Kind = 5 then ((names_Block c0 s.Name).bind fun r_7 => if 0 ≤ r_7 then ((names_known c0 s.Target).bind fun r_8 => if r_8 = true then ((names_known c0 s.Value).bind fun r_9 => if r_9 = true then ((names_all c0 s.Args).bind fun r_10 => if r_10 = true then ((names_stmts_r c0 s.Body).bind fun r_11 => if r_11 = true then ((names_stmts_r c0 s.Else).bind fun r_12 => some (!r_12)) else (some true)) else (some true)) else (some true)) else (some true)) else (some true)) else (some true))) else (if s.Kind = 5 then ((names_Block c0 s.Name).bind fun r_13 => if 0 ≤ r_13 then ((names_known c0 s.Target).bind fun r_14 => if r_14 = true then ((names_known c0 s.Value).bind fun r_15 => if r_15 = true then ((names_all c0 s.Args).bind fun r_16 => if r_16 = true then ((names_stmts_r c0 s.Body).bind fun r_17 => if r_17 = true then ((names_stmts_r c0 s.Else).bind fun r_18 => some (!r_18)) else (some true)) else (some true)) else (some true)) else (some true)) else (some true)) else ((names_known c0 s.Target).bind fun r_19 => if r_19 = true then ((names_known c0 s.Value).bind fun r_20 => if r_20 = true then ((names_all c0 s.Args).bind fun r_21 => if r_21 = true then ((names_stmts_r c0 s.Body).bind fun r_22 => if r_22 = true then ((names_stmts_r c0 s.Else).bind fun r_23 => some (!r_23)) else (some true)) else (some true)) else (some true)) else (some true)))
def names_stmts_g : Nat → (api_Program → (List api_Stmt) → Option Bool) × (api_Program → api_Stmt → Option Bool)
  | 0 => (fun _ _ => none, fun _ _ => none)
  | n + 1 => (names_stmts_b (names_stmts_g n).1 (names_stmts_g n).2, names_stmts_1_b (names_stmts_g n).1 (names_stmts_g n).2)
def names_stmts_n (n : Nat) (p : api_Program) (l : List api_Stmt) : Option Bool := (names_stmts_g n).1 p l
def names_stmts (p : api_Program) (l : List api_Stmt) : Option Bool := names_stmts_n 1000000 p l
def names_stmts_1_n (n : Nat) (c0 : api_Program) (s : api_Stmt) : Option Bool := (names_stmts_g n).2 c0 s
def names_stmts_1 (c0 : api_Program) (s : api_Stmt) : Option Bool := names_stmts_1_n 1000000 c0 s
def names_Check_L4 (p : api_Program) : (Bool × Nat) → Option ((Bool × Nat) ⊕ (Bool))
  | (ok_25, x_26) => if (x_26 : Int) < (p.Tasks.length : Int) then ((p.Tasks[x_26]?).bind fun x_29 => if ok_25 = true then ((names_stmts p x_29.Body).bind fun r_30 => some (.inl (r_30, (x_26 + 1)))) else (some (.inl (false, (x_26 + 1))))) else (some (.inr (ok_25)))
def names_Check_L3 (p : api_Program) : ((List (Str × Bool)) × Bool × Nat) → Option (((List (Str × Bool)) × Bool × Nat) ⊕ ((List (Str × Bool)) × Bool))
  | (xs_17, ok_18, x_19) => if (x_19 : Int) < (p.Sites.length : Int) then ((p.Sites[x_19]?).bind fun x_22 => if ok_18 = true then (some (.inl ((mset x_22.Name true xs_17), (!((mget x_22.Name xs_17).getD false)), (x_19 + 1)))) else (some (.inl ((mset x_22.Name true xs_17), false, (x_19 + 1))))) else (some (.inr ((xs_17, ok_18))))
def names_Check_L2 (p : api_Program) : ((List (Str × Bool)) × Bool × Nat) → Option (((List (Str × Bool)) × Bool × Nat) ⊕ ((List (Str × Bool)) × Bool))
  | (xs_9, ok_10, x_11) => if (x_11 : Int) < (p.Blocks.length : Int) then ((p.Blocks[x_11]?).bind fun x_14 => if ok_10 = true then (some (.inl ((mset x_14.Name true xs_9), (!((mget x_14.Name xs_9).getD false)), (x_11 + 1)))) else (some (.inl ((mset x_14.Name true xs_9), false, (x_11 + 1))))) else (some (.inr ((xs_9, ok_10))))
def names_Check_L1 (p : api_Program) : ((List (Str × Bool)) × Bool × Nat) → Option (((List (Str × Bool)) × Bool × Nat) ⊕ ((List (Str × Bool)) × Bool))
  | (xs_1, ok_2, x_3) => if (x_3 : Int) < (p.Vars.length : Int) then ((p.Vars[x_3]?).bind fun x_6 => if ok_2 = true then (some (.inl ((mset x_6.Name true xs_1), (!((mget x_6.Name xs_1).getD false)), (x_3 + 1)))) else (some (.inl ((mset x_6.Name true xs_1), false, (x_3 + 1))))) else (some (.inr ((xs_1, ok_2))))
def names_Check (p : api_Program) : Option Int :=
  (loop (names_Check_L1 p) (([] : List (Str × Bool)), true, 0)).bind (fun (xs_7, ok_8) => (loop (names_Check_L2 p) (xs_7, ok_8, 0)).bind (fun (xs_15, ok_16) => (loop (names_Check_L3 p) (xs_15, ok_16, 0)).bind (fun (xs_23, ok_24) => (loop (names_Check_L4 p) (ok_24, 0)).bind (fun e_27 => if e_27 = true then (some 0) else (some 5)))))
def lazarettolaw10_one (name : Str) : Option api_Program :=
  some (⟨(⟨[([97] : Str)], []⟩ : api_Lattice), [(⟨([115] : Str), 0, 0⟩ : api_Site)], [(⟨([120] : Str), (⟨2, 0, 0⟩ : api_Type), 0, 0, 0⟩ : api_Var)], [(⟨([116] : Str), ([84, 79, 78] : Str), 0⟩ : api_Block)], [(⟨1, 0, [], [(⟨1, [], (⟨2, 0, 0, name, []⟩ : api_Expr), (⟨1, 0, 2, [], []⟩ : api_Expr), [], [], []⟩ : api_Stmt)]⟩ : api_Task)]⟩ : api_Program)
def lazarettolaw10_awake : Option Bool :=
  (lazarettolaw10_one ([120] : Str)).bind fun r_1 => (names_Check r_1).bind fun r_2 => if r_2 = 0 then ((lazarettolaw10_one ([121] : Str)).bind fun r_3 => (names_Check r_3).bind fun r_4 => if r_4 = 5 then ((lazarettolaw10_one ([120] : Str)).bind fun r_5 => (names_Var r_5 ([120] : Str)).bind fun r_6 => if r_6 = 0 then ((lazarettolaw10_one ([120] : Str)).bind fun r_7 => (names_Block r_7 ([116] : Str)).bind fun r_8 => if r_8 = 0 then ((lazarettolaw10_one ([120] : Str)).bind fun r_9 => (names_Site r_9 ([115] : Str)).bind fun r_10 => if r_10 = 0 then ((lazarettolaw10_one ([120] : Str)).bind fun r_11 => (names_Var r_11 ([116] : Str)).bind fun r_12 => some (decide (r_12 = (-1)))) else (some false)) else (some false)) else (some false)) else (some false)) else (some false)
def lazarettoref10_Var_L1 (p : api_Program) (name : Str) : Nat → Option ((Nat) ⊕ (Int ⊕ Unit))
  | i_1 => if (i_1 : Int) < (p.Vars.length : Int) then ((p.Vars[i_1]?).bind fun x_4 => if x_4.Name = name then (some (.inr (.inl ((i_1 : Int))))) else (some (.inl (i_1 + 1)))) else (some (.inr (.inr (()))))
def lazarettoref10_Var (p : api_Program) (name : Str) : Option Int :=
  (loop (lazarettoref10_Var_L1 p name) 0).bind (fun e__ => match e__ with | (.inl e_5) => some e_5 | (.inr ()) => some (-1))
def lazarettoref10_Block_L1 (p : api_Program) (name : Str) : Nat → Option ((Nat) ⊕ (Int ⊕ Unit))
  | i_1 => if (i_1 : Int) < (p.Blocks.length : Int) then ((p.Blocks[i_1]?).bind fun x_4 => if x_4.Name = name then (some (.inr (.inl ((i_1 : Int))))) else (some (.inl (i_1 + 1)))) else (some (.inr (.inr (()))))
def lazarettoref10_Block (p : api_Program) (name : Str) : Option Int :=
  (loop (lazarettoref10_Block_L1 p name) 0).bind (fun e__ => match e__ with | (.inl e_5) => some e_5 | (.inr ()) => some (-1))
def lazarettoref10_Site_L1 (p : api_Program) (name : Str) : Nat → Option ((Nat) ⊕ (Int ⊕ Unit))
  | i_1 => if (i_1 : Int) < (p.Sites.length : Int) then ((p.Sites[i_1]?).bind fun x_4 => if x_4.Name = name then (some (.inr (.inl ((i_1 : Int))))) else (some (.inl (i_1 + 1)))) else (some (.inr (.inr (()))))
def lazarettoref10_Site (p : api_Program) (name : Str) : Option Int :=
  (loop (lazarettoref10_Site_L1 p name) 0).bind (fun e__ => match e__ with | (.inl e_5) => some e_5 | (.inr ()) => some (-1))
def lazarettolaw10_NamesFinds (p : api_Program) (name : Str) : Option Bool :=
  (lazarettolaw08_Few p).bind fun r_1 => if r_1 = 0 then ((lazarettolaw10_awake).bind fun r_2 => some r_2) else ((names_Var p name).bind fun r_3 => (lazarettoref10_Var p name).bind fun r_4 => if r_3 = r_4 then ((names_Block p name).bind fun r_5 => (lazarettoref10_Block p name).bind fun r_6 => if r_5 = r_6 then ((names_Site p name).bind fun r_7 => (lazarettoref10_Site p name).bind fun r_8 => if r_7 = r_8 then ((lazarettolaw10_awake).bind fun r_9 => some r_9) else (some false)) else (some false)) else (some false))
def lazarettolaw10_NamesOne (p : api_Program) (name : Str) : Option Bool :=
  (lazarettolaw08_Few p).bind fun r_1 => if r_1 = 0 then ((lazarettolaw10_awake).bind fun r_2 => some r_2) else ((names_Check p).bind fun r_3 => if r_3 = 0 then ((names_Var p name).bind fun r_4 => if 0 ≤ r_4 then ((names_Block p name).bind fun r_5 => if 0 ≤ r_5 then ((names_Site p name).bind fun r_6 => if 0 ≤ r_6 then (some false) else (some false)) else ((names_Site p name).bind fun r_7 => if 0 ≤ r_7 then (some false) else ((lazarettolaw10_awake).bind fun r_8 => some r_8))) else ((names_Block p name).bind fun r_9 => if 0 ≤ r_9 then ((names_Site p name).bind fun r_10 => if 0 ≤ r_10 then (some false) else ((lazarettolaw10_awake).bind fun r_11 => some r_11)) else ((names_Site p name).bind fun r_12 => if 0 ≤ r_12 then ((lazarettolaw10_awake).bind fun r_13 => some r_13) else ((lazarettolaw10_awake).bind fun r_14 => some r_14)))) else ((lazarettolaw10_awake).bind fun r_15 => some r_15))
def lazarettolaw10_NamesMore (p : api_Program) (name : Str) : Option Bool :=
  (lazarettolaw08_Few p).bind fun r_1 => if r_1 = 0 then ((lazarettolaw10_awake).bind fun r_2 => some r_2) else ((names_Check p).bind fun r_3 => if r_3 = 0 then (if p.Vars.isEmpty = true then ((names_Var p name).bind fun r_4 => if 0 ≤ r_4 then ((names_Check (⟨p.Lattice, p.Sites, [(⟨name, (⟨2, 0, 0⟩ : api_Type), 0, 0, 0⟩ : api_Var)], p.Blocks, p.Tasks⟩ : api_Program)).bind fun r_5 => if r_5 = 5 then ((lazarettolaw10_awake).bind fun r_6 => some r_6) else (some false)) else ((names_Block p name).bind fun r_7 => if 0 ≤ r_7 then ((names_Check (⟨p.Lattice, p.Sites, [(⟨name, (⟨2, 0, 0⟩ : api_Type), 0, 0, 0⟩ : api_Var)], p.Blocks, p.Tasks⟩ : api_Program)).bind fun r_8 => if r_8 = 5 then ((lazarettolaw10_awake).bind fun r_9 => some r_9) else (some false)) else ((names_Site p name).bind fun r_10 => if 0 ≤ r_10 then ((names_Check (⟨p.Lattice, p.Sites, [(⟨name, (⟨2, 0, 0⟩ : api_Type), 0, 0, 0⟩ : api_Var)], p.Blocks, p.Tasks⟩ : api_Program)).bind fun r_11 => if r_11 = 5 then ((lazarettolaw10_awake).bind fun r_12 => some r_12) else (some false)) else ((names_Check (⟨p.Lattice, p.Sites, [(⟨name, (⟨2, 0, 0⟩ : api_Type), 0, 0, 0⟩ : api_Var)], p.Blocks, p.Tasks⟩ : api_Program)).bind fun r_13 => if r_13 = 0 then ((names_Var (⟨p.Lattice, p.Sites, [(⟨name, (⟨2, 0, 0⟩ : api_Type), 0, 0, 0⟩ : api_Var)], p.Blocks, p.Tasks⟩ : api_Program) name).bind fun r_14 => if r_14 = (p.Vars.length : Int) then ((lazarettolaw10_awake).bind fun r_15 => some r_15) else (some false)) else (some false))))) else (need ((p.Vars.length + 1) * 64 ≤ 140737488355328) ((names_Var p name).bind fun r_17 => if 0 ≤ r_17 then ((names_Check (⟨p.Lattice, p.Sites, (p.Vars ++ [(⟨name, (⟨2, 0, 0⟩ : api_Type), 0, 0, 0⟩ : api_Var)]), p.Blocks, p.Tasks⟩ : api_Program)).bind fun r_18 => if r_18 = 5 then ((lazarettolaw10_awake).bind fun r_19 => some r_19) else (some false)) else ((names_Block p name).bind fun r_20 => if 0 ≤ r_20 then ((names_Check (⟨p.Lattice, p.Sites, (p.Vars ++ [(⟨name, (⟨2, 0, 0⟩ : api_Type), 0, 0, 0⟩ : api_Var)]), p.Blocks, p.Tasks⟩ : api_Program)).bind fun r_21 => if r_21 = 5 then ((lazarettolaw10_awake).bind fun r_22 => some r_22) else (some false)) else ((names_Site p name).bind fun r_23 => if 0 ≤ r_23 then ((names_Check (⟨p.Lattice, p.Sites, (p.Vars ++ [(⟨name, (⟨2, 0, 0⟩ : api_Type), 0, 0, 0⟩ : api_Var)]), p.Blocks, p.Tasks⟩ : api_Program)).bind fun r_24 => if r_24 = 5 then ((lazarettolaw10_awake).bind fun r_25 => some r_25) else (some false)) else ((names_Check (⟨p.Lattice, p.Sites, (p.Vars ++ [(⟨name, (⟨2, 0, 0⟩ : api_Type), 0, 0, 0⟩ : api_Var)]), p.Blocks, p.Tasks⟩ : api_Program)).bind fun r_26 => if r_26 = 0 then ((names_Var (⟨p.Lattice, p.Sites, (p.Vars ++ [(⟨name, (⟨2, 0, 0⟩ : api_Type), 0, 0, 0⟩ : api_Var)]), p.Blocks, p.Tasks⟩ : api_Program) name).bind fun r_27 => if r_27 = (p.Vars.length : Int) then ((lazarettolaw10_awake).bind fun r_28 => some r_28) else (some false)) else (some false))))))) else ((lazarettolaw10_awake).bind fun r_29 => some r_29))
end
theorem lazarettolaw06_Few_b_ok {lazarettolaw06_Few_r : api_Expr → Int → Int → Option Int} {e : api_Expr} {deep : Int} {left : Int} {r : Int}
    (lazarettolaw06_Few_r_ok : ∀ (x0 : api_Expr) (x1 : Int) (x2 : Int) (r : Int), lazarettolaw06_Few_r x0 x1 x2 = some r → Pu Try.prog 75 [.agg (e_api_Expr x0), .one (.int .i64 x1), .one (.int .i64 x2)] (.one (.int .i64 r))) (h : lazarettolaw06_Few_b lazarettolaw06_Few_r e deep left = some r) :
    Pu Try.prog 75 [.agg (e_api_Expr e), .one (.int .i64 deep), .one (.int .i64 left)] (.one (.int .i64 r)) := by
  have F := trivial; have R := trivial
  refine pA Try.func75 ?_
  simp only [Try.f75]
  unfold lazarettolaw06_Few_b at h
  refine tt ?_
  repeat (with_reducible first | intro _ | refine ⟨ss, ?_⟩)
  refine fi h F (fun h _ F => ?_) (fun h _ F => ?_)
  cases h; exact fin
  refine fi h F (fun h _ F => ?_) (fun h _ F => ?_)
  cases h; exact fin
  refine bi h fun e_3 h he_3 => ?_
  refine tt ?_
  refine lE (fun (s__ : Int × Nat) (a__ : Unit) => match s__, a__ with | (left_1, i_2), _ => ⟨[(1, .one (.int .i64 deep)), (2, .one (.int .i64 left_1)), (3, .one (.ref 0 0 0 0)), (7, .one (.int .i64 (i_2 : Int)))], [.cells 0 5 [[.int .i64 e.Op, .int .i64 e.N, .int .i64 e.Kind, .str e.Name, .sl (e.Args.map e_api_Expr)]]]⟩) (fun (e__ : Int) (b__ : Unit) => match e__, b__ with | e_3, _ => ⟨[(2, .one (.int .i64 e_3))], [.cells 0 5 [[.int .i64 e.Op, .int .i64 e.N, .int .i64 e.Kind, .str e.Name, .sl (e.Args.map e_api_Expr)]]]⟩) (fun (_ : Int) => some 0) () he_3 ?_ ?_
  intro i4 b4 hi4
  obtain rfl := Option.some.inj hi4
  obtain ⟨⟩ := b4
  dsimp only at h ⊢
  cases h; exact fin
  intro af4 m4 s4 a4 o4 hf4 ho4 ih4
  obtain ⟨left_1, i_2⟩ := s4
  obtain ⟨⟩ := a4
  dsimp only [lazarettolaw06_Few_L1] at hf4 ⊢
  refine tt ?_
  repeat (with_reducible first | intro _ | refine ⟨ss, ?_⟩)
  refine fl hf4 F (fun hf4 _ F => ?_) (fun hf4 _ F => ?_)
  refine fi hf4 F (fun hf4 _ F => ?_) (fun hf4 _ F => ?_)
  refine bx hf4 F fun x_5 hf4 hx_5 F => ?_
  refine bi hf4 fun r_6 hf4 hr_6 => ?_
  refine tt ?_
  repeat (with_reducible first | intro _ | refine ⟨ss, ?_⟩)
  refine cS (lazarettolaw06_Few_r_ok _ _ _ _ hr_6) ?_
  cases hf4
  refine tt ?_
  refine wn i_2 F fun F => ?_
  exact bk ih4 ho4 ()
  cases hf4
  refine tt ?_
  exact xt ho4 af4 ()
  cases hf4
  refine tt ?_
  exact xt ho4 af4 ()
theorem lazarettolaw06_Few_g_ok (n : Nat) : (∀ (x0 : api_Expr) (x1 : Int) (x2 : Int) (r : Int), (lazarettolaw06_Few_g n) x0 x1 x2 = some r → Pu Try.prog 75 [.agg (e_api_Expr x0), .one (.int .i64 x1), .one (.int .i64 x2)] (.one (.int .i64 r))) := by
  induction n with
  | zero => exact fun _ _ _ r h => (by cases h)
  | succ n ih =>
    have ih0 := ih
    exact fun _ _ _ r h => lazarettolaw06_Few_b_ok ih0 h
theorem lazarettolaw06_Few_ok {e : api_Expr} {deep : Int} {left : Int} {r : Int} (h : lazarettolaw06_Few e deep left = some r) : Pu Try.prog 75 [.agg (e_api_Expr e), .one (.int .i64 deep), .one (.int .i64 left)] (.one (.int .i64 r)) := (lazarettolaw06_Few_g_ok 1000000) _ _ _ _ h
theorem lazarettolaw07_Few_b_ok {lazarettolaw07_Few_r : (List api_Stmt) → Int → Int → Option Int} {l : List api_Stmt} {deep : Int} {left : Int} {r : Int}
    (lazarettolaw07_Few_r_ok : ∀ (x0 : List api_Stmt) (x1 : Int) (x2 : Int) (r : Int), lazarettolaw07_Few_r x0 x1 x2 = some r → Pu Try.prog 51 [.one (.sl (x0.map e_api_Stmt)), .one (.int .i64 x1), .one (.int .i64 x2)] (.one (.int .i64 r))) (h : lazarettolaw07_Few_b lazarettolaw07_Few_r l deep left = some r) :
    Pu Try.prog 51 [.one (.sl (l.map e_api_Stmt)), .one (.int .i64 deep), .one (.int .i64 left)] (.one (.int .i64 r)) := by
  have F := trivial; have R := trivial
  refine pA Try.func51 ?_
  simp only [Try.f51]
  unfold lazarettolaw07_Few_b at h
  refine tt ?_
  repeat (with_reducible first | intro _ | refine ⟨ss, ?_⟩)
  refine fi h F (fun h _ F => ?_) (fun h _ F => ?_)
  refine fi h F (fun h _ F => ?_) (fun h _ F => ?_)
  cases h; exact fin
  refine tt ?_
  refine fi h F (fun h _ F => ?_) (fun h _ F => ?_)
  cases h; exact fin
  refine bi h fun e_3 h he_3 => ?_
  refine tt ?_
  refine lE (fun (s__ : Int × Nat) (a__ : Unit) => match s__, a__ with | (left_1, i_2), _ => ⟨[(0, .one (.sl (l.map e_api_Stmt))), (1, .one (.int .i64 deep)), (2, .one (.int .i64 left_1)), (7, .one (.int .i64 (i_2 : Int)))], []⟩) (fun (e__ : Int) (b__ : Unit) => match e__, b__ with | e_3, _ => ⟨[(2, .one (.int .i64 e_3))], []⟩) (fun (_ : Int) => some 0) () he_3 ?_ ?_
  intro i4 b4 hi4
  obtain rfl := Option.some.inj hi4
  obtain ⟨⟩ := b4
  dsimp only at h ⊢
  cases h; exact fin
  intro af4 m4 s4 a4 o4 hf4 ho4 ih4
  obtain ⟨left_1, i_2⟩ := s4
  obtain ⟨⟩ := a4
  dsimp only [lazarettolaw07_Few_L1] at hf4 ⊢
  refine tt ?_
  repeat (with_reducible first | intro _ | refine ⟨ss, ?_⟩)
  refine fl hf4 F (fun hf4 _ F => ?_) (fun hf4 _ F => ?_)
  refine fi hf4 F (fun hf4 _ F => ?_) (fun hf4 _ F => ?_)
  refine bx hf4 F fun x_5 hf4 hx_5 F => ?_
  refine bi hf4 fun r_6 hf4 hr_6 => ?_
  refine tt ?_
  repeat (with_reducible first | intro _ | refine ⟨ss, ?_⟩)
  refine cD (lazarettolaw06_Few_ok hr_6) ?_
  refine tt ?_
  repeat (with_reducible first | intro _ | refine ⟨ss, ?_⟩)
  refine fi hf4 F (fun hf4 _ F => ?_) (fun hf4 _ F => ?_)
  refine bi hf4 fun r_7 hf4 hr_7 => ?_
  refine tt ?_
  repeat (with_reducible first | intro _ | refine ⟨ss, ?_⟩)
  refine cS (lazarettolaw06_Few_ok hr_7) ?_
  refine fi hf4 F (fun hf4 _ F => ?_) (fun hf4 _ F => ?_)
  refine bi hf4 fun r_8 hf4 hr_8 => ?_
  refine tt ?_
  repeat (with_reducible first | intro _ | refine ⟨ss, ?_⟩)
  refine cS (lazarettolaw06_Few_ok hr_8) ?_
  refine fi hf4 F (fun hf4 _ F => ?_) (fun hf4 _ F => ?_)
  refine bi hf4 fun r_9 hf4 hr_9 => ?_
  refine tt ?_
  repeat (with_reducible first | intro _ | refine ⟨ss, ?_⟩)
  refine cS (lazarettolaw07_Few_r_ok _ _ _ _ hr_9) ?_
  refine fi hf4 F (fun hf4 _ F => ?_) (fun hf4 _ F => ?_)
  refine bi hf4 fun r_10 hf4 hr_10 => ?_
  refine tt ?_
  repeat (with_reducible first | intro _ | refine ⟨ss, ?_⟩)
  refine cS (lazarettolaw07_Few_r_ok _ _ _ _ hr_10) ?_
  cases hf4
  refine tt ?_
  refine wn i_2 F fun F => ?_
  exact bk ih4 ho4 ()
  cases hf4
  refine tt ?_
  refine wn i_2 F fun F => ?_
  exact bk ih4 ho4 ()
  cases hf4
  refine tt ?_
  refine wn i_2 F fun F => ?_
  exact bk ih4 ho4 ()
  cases hf4
  refine tt ?_
  refine wn i_2 F fun F => ?_
  exact bk ih4 ho4 ()
  cases hf4
  refine tt ?_
  refine wn i_2 F fun F => ?_
  exact bk ih4 ho4 ()
  cases hf4
  refine tt ?_
  exact xt ho4 af4 ()
  cases hf4
  refine tt ?_
  exact xt ho4 af4 ()
  refine fi h F (fun h _ F => ?_) (fun h _ F => ?_)
  cases h; exact fin
  refine bi h fun e_14 h he_14 => ?_
  refine tt ?_
  refine lE (fun (s__ : Int × Nat) (a__ : Unit) => match s__, a__ with | (left_12, i_13), _ => ⟨[(0, .one (.sl (l.map e_api_Stmt))), (1, .one (.int .i64 deep)), (2, .one (.int .i64 left_12)), (7, .one (.int .i64 (i_13 : Int)))], []⟩) (fun (e__ : Int) (b__ : Unit) => match e__, b__ with | e_14, _ => ⟨[(2, .one (.int .i64 e_14))], []⟩) (fun (_ : Int) => some 0) () he_14 ?_ ?_
  intro i15 b15 hi15
  obtain rfl := Option.some.inj hi15
  obtain ⟨⟩ := b15
  dsimp only at h ⊢
  cases h; exact fin
  intro af15 m15 s15 a15 o15 hf15 ho15 ih15
  obtain ⟨left_12, i_13⟩ := s15
  obtain ⟨⟩ := a15
  dsimp only [lazarettolaw07_Few_L2] at hf15 ⊢
  refine tt ?_
  repeat (with_reducible first | intro _ | refine ⟨ss, ?_⟩)
  refine fl hf15 F (fun hf15 _ F => ?_) (fun hf15 _ F => ?_)
  refine fi hf15 F (fun hf15 _ F => ?_) (fun hf15 _ F => ?_)
  refine bx hf15 F fun x_16 hf15 hx_16 F => ?_
  refine bi hf15 fun r_17 hf15 hr_17 => ?_
  refine tt ?_
  repeat (with_reducible first | intro _ | refine ⟨ss, ?_⟩)
  refine cD (lazarettolaw06_Few_ok hr_17) ?_
  refine tt ?_
  repeat (with_reducible first | intro _ | refine ⟨ss, ?_⟩)
  refine fi hf15 F (fun hf15 _ F => ?_) (fun hf15 _ F => ?_)
  refine bi hf15 fun r_18 hf15 hr_18 => ?_
  refine tt ?_
  repeat (with_reducible first | intro _ | refine ⟨ss, ?_⟩)
  refine cS (lazarettolaw06_Few_ok hr_18) ?_
  refine fi hf15 F (fun hf15 _ F => ?_) (fun hf15 _ F => ?_)
  refine bi hf15 fun r_19 hf15 hr_19 => ?_
  refine tt ?_
  repeat (with_reducible first | intro _ | refine ⟨ss, ?_⟩)
  refine cS (lazarettolaw06_Few_ok hr_19) ?_
  refine fi hf15 F (fun hf15 _ F => ?_) (fun hf15 _ F => ?_)
  refine bi hf15 fun r_20 hf15 hr_20 => ?_
  refine tt ?_
  repeat (with_reducible first | intro _ | refine ⟨ss, ?_⟩)
  refine cS (lazarettolaw07_Few_r_ok _ _ _ _ hr_20) ?_
  refine fi hf15 F (fun hf15 _ F => ?_) (fun hf15 _ F => ?_)
  refine bi hf15 fun r_21 hf15 hr_21 => ?_
  refine tt ?_
  repeat (with_reducible first | intro _ | refine ⟨ss, ?_⟩)
  refine cS (lazarettolaw07_Few_r_ok _ _ _ _ hr_21) ?_
  cases hf15
  refine tt ?_
  refine wn i_13 F fun F => ?_
  exact bk ih15 ho15 ()
  cases hf15
  refine tt ?_
  refine wn i_13 F fun F => ?_
  exact bk ih15 ho15 ()
  cases hf15
  refine tt ?_
  refine wn i_13 F fun F => ?_
  exact bk ih15 ho15 ()
  cases hf15
  refine tt ?_
  refine wn i_13 F fun F => ?_
  exact bk ih15 ho15 ()
  cases hf15
  refine tt ?_
  refine wn i_13 F fun F => ?_
  exact bk ih15 ho15 ()
  cases hf15
  refine tt ?_
  exact xt ho15 af15 ()
  cases hf15
  refine tt ?_
  exact xt ho15 af15 ()
theorem lazarettolaw07_Few_g_ok (n : Nat) : (∀ (x0 : List api_Stmt) (x1 : Int) (x2 : Int) (r : Int), (lazarettolaw07_Few_g n) x0 x1 x2 = some r → Pu Try.prog 51 [.one (.sl (x0.map e_api_Stmt)), .one (.int .i64 x1), .one (.int .i64 x2)] (.one (.int .i64 r))) := by
  induction n with
  | zero => exact fun _ _ _ r h => (by cases h)
  | succ n ih =>
    have ih0 := ih
    exact fun _ _ _ r h => lazarettolaw07_Few_b_ok ih0 h
theorem lazarettolaw07_Few_ok {l : List api_Stmt} {deep : Int} {left : Int} {r : Int} (h : lazarettolaw07_Few l deep left = some r) : Pu Try.prog 51 [.one (.sl (l.map e_api_Stmt)), .one (.int .i64 deep), .one (.int .i64 left)] (.one (.int .i64 r)) := (lazarettolaw07_Few_g_ok 1000000) _ _ _ _ h
theorem lazarettolaw08_Few_ok {p : api_Program} {r : Int} (h : lazarettolaw08_Few p = some r) :
    Pu Try.prog 23 [.agg (e_api_Program p)] (.one (.int .i64 r)) := by
  have F := trivial; have R := trivial
  refine pA Try.func23 ?_
  simp only [Try.f23]
  unfold lazarettolaw08_Few at h
  refine tt ?_
  repeat (with_reducible first | intro _ | refine ⟨ss, ?_⟩)
  refine fi h F (fun h _ F => ?_) (fun h _ F => ?_)
  cases h; exact fin
  refine tt ?_
  repeat (with_reducible first | intro _ | refine ⟨ss, ?_⟩)
  refine fi h F (fun h _ F => ?_) (fun h _ F => ?_)
  cases h; exact fin
  refine bi h fun e_2 h he_2 => ?_
  refine tt ?_
  refine lE (fun (s__ : Nat) (a__ : Unit) => match s__, a__ with | i_1, _ => ⟨[(1, .one (.ref 0 0 0 0)), (4, .one (.int .i64 (i_1 : Int)))], [.cells 0 6 [[.sl (p.Lattice.Names.map eS), .sl (p.Lattice.Below.map (eA2 eI)), .sl (p.Sites.map e_api_Site), .sl (p.Vars.map e_api_Var), .sl (p.Blocks.map e_api_Block), .sl (p.Tasks.map e_api_Task)]]]⟩) (fun (e__ : Int ⊕ Unit) (b__ : Unit) => match e__, b__ with | (.inl e_6), _ => ⟨[], []⟩ | (.inr ()), _ => ⟨[], [.cells 0 6 [[.sl (p.Lattice.Names.map eS), .sl (p.Lattice.Below.map (eA2 eI)), .sl (p.Sites.map e_api_Site), .sl (p.Vars.map e_api_Var), .sl (p.Blocks.map e_api_Block), .sl (p.Tasks.map e_api_Task)]]]⟩) (fun (e__ : Int ⊕ Unit) => match e__ with | (.inl _) => none | (.inr _) => some 0) () he_2 ?_ ?_
  intro i3 b3 hi3
  rcases e_2 with e_case | ⟨⟩
  cases hi3
  obtain rfl := Option.some.inj hi3
  obtain ⟨⟩ := b3
  dsimp only at h ⊢
  cases h; exact fin
  intro af3 m3 i_1 a3 o3 hf3 ho3 ih3
  obtain ⟨⟩ := a3
  dsimp only [lazarettolaw08_Few_L1] at hf3 ⊢
  refine tt ?_
  repeat (with_reducible first | intro _ | refine ⟨ss, ?_⟩)
  refine fl hf3 F (fun hf3 _ F => ?_) (fun hf3 _ F => ?_)
  refine bx hf3 F fun x_4 hf3 hx_4 F => ?_
  refine tt ?_
  repeat (with_reducible first | intro _ | refine ⟨ss, ?_⟩)
  refine fi hf3 F (fun hf3 _ F => ?_) (fun hf3 _ F => ?_)
  cases hf3
  obtain rfl := sr ho3
  try dsimp only at h
  cases h
  exact fin
  refine bi hf3 fun r_5 hf3 hr_5 => ?_
  refine tt ?_
  repeat (with_reducible first | intro _ | refine ⟨ss, ?_⟩)
  refine cS (lazarettolaw07_Few_ok hr_5) ?_
  refine fi hf3 F (fun hf3 _ F => ?_) (fun hf3 _ F => ?_)
  cases hf3
  obtain rfl := sr ho3
  try dsimp only at h
  cases h
  exact fin
  cases hf3
  refine tt ?_
  refine wn i_1 F fun F => ?_
  exact bk ih3 ho3 ()
  cases hf3
  refine tt ?_
  exact xt ho3 af3 ()
theorem slices_IndexFunc_api_Var_api_Var_ok {s : List api_Var} {f : (api_Var → Option Bool)} {r : Int}
    {f_f : FuncId} {f_c : List C} (f_cl : Clo f_c) (f_ok : ∀ (x0 : api_Var) (r : Bool), f x0 = some r → Pu Try.prog f_f ([.agg (e_api_Var x0)] ++ f_c.map V.one) (.one (.bool r))) (h : slices_IndexFunc_api_Var_api_Var s f = some r) :
    Pu Try.prog 76 [.one (.sl (s.map e_api_Var)), .one (.fn f_f f_c)] (.one (.int .i64 r)) := by
  have F := trivial; have R := trivial
  refine pA Try.func76 ?_
  simp only [Try.f76]
  unfold slices_IndexFunc_api_Var_api_Var at h
  have F := And.intro f_cl.all F
  refine bi h fun e_2 h he_2 => ?_
  refine tt ?_
  repeat (with_reducible first | intro _ | refine ⟨ss, ?_⟩)
  refine lE (fun (s__ : Nat) (a__ : Unit) => match s__, a__ with | x_1, _ => ⟨[(0, .one (.sl (s.map e_api_Var))), (1, .one (.fn f_f f_c)), (7, .one (.int .i64 (s.length : Int))), (8, .one (.int .i64 (x_1 : Int)))], []⟩) (fun (e__ : Int ⊕ Unit) (b__ : Unit) => match e__, b__ with | (.inl e_6), _ => ⟨[], []⟩ | (.inr ()), _ => ⟨[], []⟩) (fun (e__ : Int ⊕ Unit) => match e__ with | (.inl _) => none | (.inr _) => some 0) () he_2 ?_ ?_
  intro i3 b3 hi3
  rcases e_2 with e_case | ⟨⟩
  cases hi3
  obtain rfl := Option.some.inj hi3
  obtain ⟨⟩ := b3
  dsimp only at h ⊢
  cases h; exact fin
  intro af3 m3 x_1 a3 o3 hf3 ho3 ih3
  obtain ⟨⟩ := a3
  dsimp only [slices_IndexFunc_api_Var_api_Var_L1] at hf3 ⊢
  refine fl hf3 F (fun hf3 _ F => ?_) (fun hf3 _ F => ?_)
  refine bx hf3 F fun x_4 hf3 hx_4 F => ?_
  refine bi hf3 fun r_5 hf3 hr_5 => ?_
  refine tt ?_
  repeat (with_reducible first | intro _ | refine ⟨ss, ?_⟩)
  refine cS (f_ok _ _ hr_5) ?_
  refine fv hf3 F (fun hf3 _ F => ?_) (fun hf3 _ F => ?_)
  cases hf3
  obtain rfl := sr ho3
  try dsimp only at h
  cases h
  exact fin
  cases hf3
  refine tt ?_
  refine wn x_1 F fun F => ?_
  exact bk ih3 ho3 ()
  cases hf3
  refine tt ?_
  exact xt ho3 af3 ()
theorem names_find_api_Var_1_ok {c0 : (api_Var → Option Str)} {c1 : Str} {x : api_Var} {r : Bool}
    {c0_f : FuncId} {c0_c : List C} (c0_cl : Clo c0_c) (c0_ok : ∀ (x0 : api_Var) (r : Str), c0 x0 = some r → Pu Try.prog c0_f ([.agg (e_api_Var x0)] ++ c0_c.map V.one) (.one (.str r))) (h : names_find_api_Var_1 c0 c1 x = some r) :
    Pu Try.prog 77 [.agg (e_api_Var x), .one (.iptr [.fn c0_f c0_c] 0), .one (.iptr (eS c1) 0)] (.one (.bool r)) := by
  have F := trivial; have R := trivial
  refine pA Try.func77 ?_
  simp only [Try.f77]
  unfold names_find_api_Var_1 at h
  have F := And.intro c0_cl.all F
  refine bi h fun r_1 h hr_1 => ?_
  refine tt ?_
  repeat (with_reducible first | intro _ | refine ⟨ss, ?_⟩)
  refine cD (c0_ok _ _ hr_1) ?_
  cases h; exact fin
theorem names_find_api_Var_ok {l : List api_Var} {name : Str} {of : (api_Var → Option Str)} {r : Int}
    {of_f : FuncId} {of_c : List C} (of_cl : Clo of_c) (of_ok : ∀ (x0 : api_Var) (r : Str), of x0 = some r → Pu Try.prog of_f ([.agg (e_api_Var x0)] ++ of_c.map V.one) (.one (.str r))) (h : names_find_api_Var l name of = some r) :
    Pu Try.prog 53 [.one (.sl (l.map e_api_Var)), .one (.str name), .one (.fn of_f of_c)] (.one (.int .i64 r)) := by
  have F := trivial; have R := trivial
  refine pA Try.func53 ?_
  simp only [Try.f53]
  unfold names_find_api_Var at h
  have F := And.intro of_cl.all F
  refine bi h fun r_1 h hr_1 => ?_
  refine tt ?_
  repeat (with_reducible first | intro _ | refine ⟨ss, ?_⟩)
  refine cS (slices_IndexFunc_api_Var_api_Var_ok (f_f := 77) (f_c := [.iptr [.fn of_f of_c] 0, .iptr [.str name] 0]) clo (fun _ r h => names_find_api_Var_1_ok (c0_f := of_f) (c0_c := of_c) of_cl of_ok h) hr_1) ?_
  cases h; exact fin
theorem names_Var_1_ok {v : api_Var} {r : Str} (h : names_Var_1 v = some r) :
    Pu Try.prog 54 [.agg (e_api_Var v)] (.one (.str r)) := by
  have F := trivial; have R := trivial
  refine pA Try.func54 ?_
  simp only [Try.f54]
  unfold names_Var_1 at h
  cases h; exact fin
theorem names_Var_ok {p : api_Program} {name : Str} {r : Int} (h : names_Var p name = some r) :
    Pu Try.prog 25 [.agg (e_api_Program p), .one (.str name)] (.one (.int .i64 r)) := by
  have F := trivial; have R := trivial
  refine pA Try.func25 ?_
  simp only [Try.f25]
  unfold names_Var at h
  refine bi h fun r_1 h hr_1 => ?_
  refine tt ?_
  repeat (with_reducible first | intro _ | refine ⟨ss, ?_⟩)
  refine cS (names_find_api_Var_ok (of_f := 54) (of_c := []) clo (fun _ r h => names_Var_1_ok h) hr_1) ?_
  cases h; exact fin
theorem slices_IndexFunc_api_Block_api_Block_ok {s : List api_Block} {f : (api_Block → Option Bool)} {r : Int}
    {f_f : FuncId} {f_c : List C} (f_cl : Clo f_c) (f_ok : ∀ (x0 : api_Block) (r : Bool), f x0 = some r → Pu Try.prog f_f ([.agg (e_api_Block x0)] ++ f_c.map V.one) (.one (.bool r))) (h : slices_IndexFunc_api_Block_api_Block s f = some r) :
    Pu Try.prog 78 [.one (.sl (s.map e_api_Block)), .one (.fn f_f f_c)] (.one (.int .i64 r)) := by
  have F := trivial; have R := trivial
  refine pA Try.func78 ?_
  simp only [Try.f78]
  unfold slices_IndexFunc_api_Block_api_Block at h
  have F := And.intro f_cl.all F
  refine bi h fun e_2 h he_2 => ?_
  refine tt ?_
  repeat (with_reducible first | intro _ | refine ⟨ss, ?_⟩)
  refine lE (fun (s__ : Nat) (a__ : Unit) => match s__, a__ with | x_1, _ => ⟨[(0, .one (.sl (s.map e_api_Block))), (1, .one (.fn f_f f_c)), (7, .one (.int .i64 (s.length : Int))), (8, .one (.int .i64 (x_1 : Int)))], []⟩) (fun (e__ : Int ⊕ Unit) (b__ : Unit) => match e__, b__ with | (.inl e_6), _ => ⟨[], []⟩ | (.inr ()), _ => ⟨[], []⟩) (fun (e__ : Int ⊕ Unit) => match e__ with | (.inl _) => none | (.inr _) => some 0) () he_2 ?_ ?_
  intro i3 b3 hi3
  rcases e_2 with e_case | ⟨⟩
  cases hi3
  obtain rfl := Option.some.inj hi3
  obtain ⟨⟩ := b3
  dsimp only at h ⊢
  cases h; exact fin
  intro af3 m3 x_1 a3 o3 hf3 ho3 ih3
  obtain ⟨⟩ := a3
  dsimp only [slices_IndexFunc_api_Block_api_Block_L1] at hf3 ⊢
  refine fl hf3 F (fun hf3 _ F => ?_) (fun hf3 _ F => ?_)
  refine bx hf3 F fun x_4 hf3 hx_4 F => ?_
  refine bi hf3 fun r_5 hf3 hr_5 => ?_
  refine tt ?_
  repeat (with_reducible first | intro _ | refine ⟨ss, ?_⟩)
  refine cS (f_ok _ _ hr_5) ?_
  refine fv hf3 F (fun hf3 _ F => ?_) (fun hf3 _ F => ?_)
  cases hf3
  obtain rfl := sr ho3
  try dsimp only at h
  cases h
  exact fin
  cases hf3
  refine tt ?_
  refine wn x_1 F fun F => ?_
  exact bk ih3 ho3 ()
  cases hf3
  refine tt ?_
  exact xt ho3 af3 ()
theorem names_find_api_Block_1_ok {c0 : (api_Block → Option Str)} {c1 : Str} {x : api_Block} {r : Bool}
    {c0_f : FuncId} {c0_c : List C} (c0_cl : Clo c0_c) (c0_ok : ∀ (x0 : api_Block) (r : Str), c0 x0 = some r → Pu Try.prog c0_f ([.agg (e_api_Block x0)] ++ c0_c.map V.one) (.one (.str r))) (h : names_find_api_Block_1 c0 c1 x = some r) :
    Pu Try.prog 79 [.agg (e_api_Block x), .one (.iptr [.fn c0_f c0_c] 0), .one (.iptr (eS c1) 0)] (.one (.bool r)) := by
  have F := trivial; have R := trivial
  refine pA Try.func79 ?_
  simp only [Try.f79]
  unfold names_find_api_Block_1 at h
  have F := And.intro c0_cl.all F
  refine bi h fun r_1 h hr_1 => ?_
  refine tt ?_
  repeat (with_reducible first | intro _ | refine ⟨ss, ?_⟩)
  refine cD (c0_ok _ _ hr_1) ?_
  cases h; exact fin
theorem names_find_api_Block_ok {l : List api_Block} {name : Str} {of : (api_Block → Option Str)} {r : Int}
    {of_f : FuncId} {of_c : List C} (of_cl : Clo of_c) (of_ok : ∀ (x0 : api_Block) (r : Str), of x0 = some r → Pu Try.prog of_f ([.agg (e_api_Block x0)] ++ of_c.map V.one) (.one (.str r))) (h : names_find_api_Block l name of = some r) :
    Pu Try.prog 55 [.one (.sl (l.map e_api_Block)), .one (.str name), .one (.fn of_f of_c)] (.one (.int .i64 r)) := by
  have F := trivial; have R := trivial
  refine pA Try.func55 ?_
  simp only [Try.f55]
  unfold names_find_api_Block at h
  have F := And.intro of_cl.all F
  refine bi h fun r_1 h hr_1 => ?_
  refine tt ?_
  repeat (with_reducible first | intro _ | refine ⟨ss, ?_⟩)
  refine cS (slices_IndexFunc_api_Block_api_Block_ok (f_f := 79) (f_c := [.iptr [.fn of_f of_c] 0, .iptr [.str name] 0]) clo (fun _ r h => names_find_api_Block_1_ok (c0_f := of_f) (c0_c := of_c) of_cl of_ok h) hr_1) ?_
  cases h; exact fin
theorem names_Block_1_ok {b : api_Block} {r : Str} (h : names_Block_1 b = some r) :
    Pu Try.prog 56 [.agg (e_api_Block b)] (.one (.str r)) := by
  have F := trivial; have R := trivial
  refine pA Try.func56 ?_
  simp only [Try.f56]
  unfold names_Block_1 at h
  cases h; exact fin
theorem names_Block_ok {p : api_Program} {name : Str} {r : Int} (h : names_Block p name = some r) :
    Pu Try.prog 27 [.agg (e_api_Program p), .one (.str name)] (.one (.int .i64 r)) := by
  have F := trivial; have R := trivial
  refine pA Try.func27 ?_
  simp only [Try.f27]
  unfold names_Block at h
  refine bi h fun r_1 h hr_1 => ?_
  refine tt ?_
  repeat (with_reducible first | intro _ | refine ⟨ss, ?_⟩)
  refine cS (names_find_api_Block_ok (of_f := 56) (of_c := []) clo (fun _ r h => names_Block_1_ok h) hr_1) ?_
  cases h; exact fin
theorem slices_IndexFunc_api_Site_api_Site_ok {s : List api_Site} {f : (api_Site → Option Bool)} {r : Int}
    {f_f : FuncId} {f_c : List C} (f_cl : Clo f_c) (f_ok : ∀ (x0 : api_Site) (r : Bool), f x0 = some r → Pu Try.prog f_f ([.agg (e_api_Site x0)] ++ f_c.map V.one) (.one (.bool r))) (h : slices_IndexFunc_api_Site_api_Site s f = some r) :
    Pu Try.prog 80 [.one (.sl (s.map e_api_Site)), .one (.fn f_f f_c)] (.one (.int .i64 r)) := by
  have F := trivial; have R := trivial
  refine pA Try.func80 ?_
  simp only [Try.f80]
  unfold slices_IndexFunc_api_Site_api_Site at h
  have F := And.intro f_cl.all F
  refine bi h fun e_2 h he_2 => ?_
  refine tt ?_
  repeat (with_reducible first | intro _ | refine ⟨ss, ?_⟩)
  refine lE (fun (s__ : Nat) (a__ : Unit) => match s__, a__ with | x_1, _ => ⟨[(0, .one (.sl (s.map e_api_Site))), (1, .one (.fn f_f f_c)), (7, .one (.int .i64 (s.length : Int))), (8, .one (.int .i64 (x_1 : Int)))], []⟩) (fun (e__ : Int ⊕ Unit) (b__ : Unit) => match e__, b__ with | (.inl e_6), _ => ⟨[], []⟩ | (.inr ()), _ => ⟨[], []⟩) (fun (e__ : Int ⊕ Unit) => match e__ with | (.inl _) => none | (.inr _) => some 0) () he_2 ?_ ?_
  intro i3 b3 hi3
  rcases e_2 with e_case | ⟨⟩
  cases hi3
  obtain rfl := Option.some.inj hi3
  obtain ⟨⟩ := b3
  dsimp only at h ⊢
  cases h; exact fin
  intro af3 m3 x_1 a3 o3 hf3 ho3 ih3
  obtain ⟨⟩ := a3
  dsimp only [slices_IndexFunc_api_Site_api_Site_L1] at hf3 ⊢
  refine fl hf3 F (fun hf3 _ F => ?_) (fun hf3 _ F => ?_)
  refine bx hf3 F fun x_4 hf3 hx_4 F => ?_
  refine bi hf3 fun r_5 hf3 hr_5 => ?_
  refine tt ?_
  repeat (with_reducible first | intro _ | refine ⟨ss, ?_⟩)
  refine cS (f_ok _ _ hr_5) ?_
  refine fv hf3 F (fun hf3 _ F => ?_) (fun hf3 _ F => ?_)
  cases hf3
  obtain rfl := sr ho3
  try dsimp only at h
  cases h
  exact fin
  cases hf3
  refine tt ?_
  refine wn x_1 F fun F => ?_
  exact bk ih3 ho3 ()
  cases hf3
  refine tt ?_
  exact xt ho3 af3 ()
theorem names_find_api_Site_1_ok {c0 : (api_Site → Option Str)} {c1 : Str} {x : api_Site} {r : Bool}
    {c0_f : FuncId} {c0_c : List C} (c0_cl : Clo c0_c) (c0_ok : ∀ (x0 : api_Site) (r : Str), c0 x0 = some r → Pu Try.prog c0_f ([.agg (e_api_Site x0)] ++ c0_c.map V.one) (.one (.str r))) (h : names_find_api_Site_1 c0 c1 x = some r) :
    Pu Try.prog 81 [.agg (e_api_Site x), .one (.iptr [.fn c0_f c0_c] 0), .one (.iptr (eS c1) 0)] (.one (.bool r)) := by
  have F := trivial; have R := trivial
  refine pA Try.func81 ?_
  simp only [Try.f81]
  unfold names_find_api_Site_1 at h
  have F := And.intro c0_cl.all F
  refine bi h fun r_1 h hr_1 => ?_
  refine tt ?_
  repeat (with_reducible first | intro _ | refine ⟨ss, ?_⟩)
  refine cD (c0_ok _ _ hr_1) ?_
  cases h; exact fin
theorem names_find_api_Site_ok {l : List api_Site} {name : Str} {of : (api_Site → Option Str)} {r : Int}
    {of_f : FuncId} {of_c : List C} (of_cl : Clo of_c) (of_ok : ∀ (x0 : api_Site) (r : Str), of x0 = some r → Pu Try.prog of_f ([.agg (e_api_Site x0)] ++ of_c.map V.one) (.one (.str r))) (h : names_find_api_Site l name of = some r) :
    Pu Try.prog 57 [.one (.sl (l.map e_api_Site)), .one (.str name), .one (.fn of_f of_c)] (.one (.int .i64 r)) := by
  have F := trivial; have R := trivial
  refine pA Try.func57 ?_
  simp only [Try.f57]
  unfold names_find_api_Site at h
  have F := And.intro of_cl.all F
  refine bi h fun r_1 h hr_1 => ?_
  refine tt ?_
  repeat (with_reducible first | intro _ | refine ⟨ss, ?_⟩)
  refine cS (slices_IndexFunc_api_Site_api_Site_ok (f_f := 81) (f_c := [.iptr [.fn of_f of_c] 0, .iptr [.str name] 0]) clo (fun _ r h => names_find_api_Site_1_ok (c0_f := of_f) (c0_c := of_c) of_cl of_ok h) hr_1) ?_
  cases h; exact fin
theorem names_Site_1_ok {s : api_Site} {r : Str} (h : names_Site_1 s = some r) :
    Pu Try.prog 58 [.agg (e_api_Site s)] (.one (.str r)) := by
  have F := trivial; have R := trivial
  refine pA Try.func58 ?_
  simp only [Try.f58]
  unfold names_Site_1 at h
  cases h; exact fin
theorem names_Site_ok {p : api_Program} {name : Str} {r : Int} (h : names_Site p name = some r) :
    Pu Try.prog 29 [.agg (e_api_Program p), .one (.str name)] (.one (.int .i64 r)) := by
  have F := trivial; have R := trivial
  refine pA Try.func29 ?_
  simp only [Try.f29]
  unfold names_Site at h
  refine bi h fun r_1 h hr_1 => ?_
  refine tt ?_
  repeat (with_reducible first | intro _ | refine ⟨ss, ?_⟩)
  refine cS (names_find_api_Site_ok (of_f := 58) (of_c := []) clo (fun _ r h => names_Site_1_ok h) hr_1) ?_
  cases h; exact fin
theorem slices_IndexFunc_api_Stmt_api_Stmt_ok {s : List api_Stmt} {f : (api_Stmt → Option Bool)} {r : Int}
    {f_f : FuncId} {f_c : List C} (f_cl : Clo f_c) (f_ok : ∀ (x0 : api_Stmt) (r : Bool), f x0 = some r → Pu Try.prog f_f ([.agg (e_api_Stmt x0)] ++ f_c.map V.one) (.one (.bool r))) (h : slices_IndexFunc_api_Stmt_api_Stmt s f = some r) :
    Pu Try.prog 89 [.one (.sl (s.map e_api_Stmt)), .one (.fn f_f f_c)] (.one (.int .i64 r)) := by
  have F := trivial; have R := trivial
  refine pA Try.func89 ?_
  simp only [Try.f89]
  unfold slices_IndexFunc_api_Stmt_api_Stmt at h
  have F := And.intro f_cl.all F
  refine bi h fun e_2 h he_2 => ?_
  refine tt ?_
  repeat (with_reducible first | intro _ | refine ⟨ss, ?_⟩)
  refine lE (fun (s__ : Nat) (a__ : Unit) => match s__, a__ with | x_1, _ => ⟨[(0, .one (.sl (s.map e_api_Stmt))), (1, .one (.fn f_f f_c)), (7, .one (.int .i64 (s.length : Int))), (8, .one (.int .i64 (x_1 : Int)))], []⟩) (fun (e__ : Int ⊕ Unit) (b__ : Unit) => match e__, b__ with | (.inl e_6), _ => ⟨[], []⟩ | (.inr ()), _ => ⟨[], []⟩) (fun (e__ : Int ⊕ Unit) => match e__ with | (.inl _) => none | (.inr _) => some 0) () he_2 ?_ ?_
  intro i3 b3 hi3
  rcases e_2 with e_case | ⟨⟩
  cases hi3
  obtain rfl := Option.some.inj hi3
  obtain ⟨⟩ := b3
  dsimp only at h ⊢
  cases h; exact fin
  intro af3 m3 x_1 a3 o3 hf3 ho3 ih3
  obtain ⟨⟩ := a3
  dsimp only [slices_IndexFunc_api_Stmt_api_Stmt_L1] at hf3 ⊢
  refine fl hf3 F (fun hf3 _ F => ?_) (fun hf3 _ F => ?_)
  refine bx hf3 F fun x_4 hf3 hx_4 F => ?_
  refine bi hf3 fun r_5 hf3 hr_5 => ?_
  refine tt ?_
  repeat (with_reducible first | intro _ | refine ⟨ss, ?_⟩)
  refine cS (f_ok _ _ hr_5) ?_
  refine fv hf3 F (fun hf3 _ F => ?_) (fun hf3 _ F => ?_)
  cases hf3
  obtain rfl := sr ho3
  try dsimp only at h
  cases h
  exact fin
  cases hf3
  refine tt ?_
  refine wn x_1 F fun F => ?_
  exact bk ih3 ho3 ()
  cases hf3
  refine tt ?_
  exact xt ho3 af3 ()
theorem slices_ContainsFunc_api_Stmt_api_Stmt_ok {s : List api_Stmt} {f : (api_Stmt → Option Bool)} {r : Bool}
    {f_f : FuncId} {f_c : List C} (f_cl : Clo f_c) (f_ok : ∀ (x0 : api_Stmt) (r : Bool), f x0 = some r → Pu Try.prog f_f ([.agg (e_api_Stmt x0)] ++ f_c.map V.one) (.one (.bool r))) (h : slices_ContainsFunc_api_Stmt_api_Stmt s f = some r) :
    Pu Try.prog 82 [.one (.sl (s.map e_api_Stmt)), .one (.fn f_f f_c)] (.one (.bool r)) := by
  have F := trivial; have R := trivial
  refine pA Try.func82 ?_
  simp only [Try.f82]
  unfold slices_ContainsFunc_api_Stmt_api_Stmt at h
  have F := And.intro f_cl.all F
  refine bi h fun r_1 h hr_1 => ?_
  refine tt ?_
  repeat (with_reducible first | intro _ | refine ⟨ss, ?_⟩)
  refine cS (slices_IndexFunc_api_Stmt_api_Stmt_ok (f_f := f_f) (f_c := f_c) f_cl f_ok hr_1) ?_
  cases h; exact fin
theorem slices_IndexFunc_api_Expr_api_Expr_ok {s : List api_Expr} {f : (api_Expr → Option Bool)} {r : Int}
    {f_f : FuncId} {f_c : List C} (f_cl : Clo f_c) (f_ok : ∀ (x0 : api_Expr) (r : Bool), f x0 = some r → Pu Try.prog f_f ([.agg (e_api_Expr x0)] ++ f_c.map V.one) (.one (.bool r))) (h : slices_IndexFunc_api_Expr_api_Expr s f = some r) :
    Pu Try.prog 95 [.one (.sl (s.map e_api_Expr)), .one (.fn f_f f_c)] (.one (.int .i64 r)) := by
  have F := trivial; have R := trivial
  refine pA Try.func95 ?_
  simp only [Try.f95]
  unfold slices_IndexFunc_api_Expr_api_Expr at h
  have F := And.intro f_cl.all F
  refine bi h fun e_2 h he_2 => ?_
  refine tt ?_
  repeat (with_reducible first | intro _ | refine ⟨ss, ?_⟩)
  refine lE (fun (s__ : Nat) (a__ : Unit) => match s__, a__ with | x_1, _ => ⟨[(0, .one (.sl (s.map e_api_Expr))), (1, .one (.fn f_f f_c)), (7, .one (.int .i64 (s.length : Int))), (8, .one (.int .i64 (x_1 : Int)))], []⟩) (fun (e__ : Int ⊕ Unit) (b__ : Unit) => match e__, b__ with | (.inl e_6), _ => ⟨[], []⟩ | (.inr ()), _ => ⟨[], []⟩) (fun (e__ : Int ⊕ Unit) => match e__ with | (.inl _) => none | (.inr _) => some 0) () he_2 ?_ ?_
  intro i3 b3 hi3
  rcases e_2 with e_case | ⟨⟩
  cases hi3
  obtain rfl := Option.some.inj hi3
  obtain ⟨⟩ := b3
  dsimp only at h ⊢
  cases h; exact fin
  intro af3 m3 x_1 a3 o3 hf3 ho3 ih3
  obtain ⟨⟩ := a3
  dsimp only [slices_IndexFunc_api_Expr_api_Expr_L1] at hf3 ⊢
  refine fl hf3 F (fun hf3 _ F => ?_) (fun hf3 _ F => ?_)
  refine bx hf3 F fun x_4 hf3 hx_4 F => ?_
  refine bi hf3 fun r_5 hf3 hr_5 => ?_
  refine tt ?_
  repeat (with_reducible first | intro _ | refine ⟨ss, ?_⟩)
  refine cS (f_ok _ _ hr_5) ?_
  refine fv hf3 F (fun hf3 _ F => ?_) (fun hf3 _ F => ?_)
  cases hf3
  obtain rfl := sr ho3
  try dsimp only at h
  cases h
  exact fin
  cases hf3
  refine tt ?_
  refine wn x_1 F fun F => ?_
  exact bk ih3 ho3 ()
  cases hf3
  refine tt ?_
  exact xt ho3 af3 ()
theorem slices_ContainsFunc_api_Expr_api_Expr_ok {s : List api_Expr} {f : (api_Expr → Option Bool)} {r : Bool}
    {f_f : FuncId} {f_c : List C} (f_cl : Clo f_c) (f_ok : ∀ (x0 : api_Expr) (r : Bool), f x0 = some r → Pu Try.prog f_f ([.agg (e_api_Expr x0)] ++ f_c.map V.one) (.one (.bool r))) (h : slices_ContainsFunc_api_Expr_api_Expr s f = some r) :
    Pu Try.prog 90 [.one (.sl (s.map e_api_Expr)), .one (.fn f_f f_c)] (.one (.bool r)) := by
  have F := trivial; have R := trivial
  refine pA Try.func90 ?_
  simp only [Try.f90]
  unfold slices_ContainsFunc_api_Expr_api_Expr at h
  have F := And.intro f_cl.all F
  refine bi h fun r_1 h hr_1 => ?_
  refine tt ?_
  repeat (with_reducible first | intro _ | refine ⟨ss, ?_⟩)
  refine cS (slices_IndexFunc_api_Expr_api_Expr_ok (f_f := f_f) (f_c := f_c) f_cl f_ok hr_1) ?_
  cases h; exact fin
theorem names_known_b_ok {names_known_r : api_Program → api_Expr → Option Bool} {names_all_r : api_Program → (List api_Expr) → Option Bool} {names_all_1_r : api_Program → api_Expr → Option Bool} {p : api_Program} {e : api_Expr} {r : Bool}
    (names_known_r_ok : ∀ (x0 : api_Program) (x1 : api_Expr) (r : Bool), names_known_r x0 x1 = some r → Pu Try.prog 84 [.agg (e_api_Program x0), .agg (e_api_Expr x1)] (.one (.bool r)))
    (names_all_r_ok : ∀ (x0 : api_Program) (x1 : List api_Expr) (r : Bool), names_all_r x0 x1 = some r → Pu Try.prog 85 [.agg (e_api_Program x0), .one (.sl (x1.map e_api_Expr))] (.one (.bool r)))
    (names_all_1_r_ok : ∀ (x0 : api_Program) (x1 : api_Expr) (r : Bool), names_all_1_r x0 x1 = some r → Pu Try.prog 91 [.agg (e_api_Expr x1), .one (.iptr (e_api_Program x0) 0)] (.one (.bool r))) (h : names_known_b names_known_r names_all_r names_all_1_r p e = some r) :
    Pu Try.prog 84 [.agg (e_api_Program p), .agg (e_api_Expr e)] (.one (.bool r)) := by
  have F := trivial; have R := trivial
  refine pA Try.func84 ?_
  simp only [Try.f84]
  unfold names_known_b at h
  refine tt ?_
  refine fi h F (fun h _ F => ?_) (fun h _ F => ?_)
  refine bi h fun r_1 h hr_1 => ?_
  refine tt ?_
  repeat (with_reducible first | intro _ | refine ⟨ss, ?_⟩)
  refine cS (names_Var_ok hr_1) ?_
  refine fi h F (fun h _ F => ?_) (fun h _ F => ?_)
  refine bi h fun r_2 h hr_2 => ?_
  refine tt ?_
  repeat (with_reducible first | intro _ | refine ⟨ss, ?_⟩)
  refine cS (names_all_r_ok _ _ _ hr_2) ?_
  cases h; exact fin
  cases h; exact fin
  refine fi h F (fun h _ F => ?_) (fun h _ F => ?_)
  refine bi h fun r_3 h hr_3 => ?_
  refine tt ?_
  repeat (with_reducible first | intro _ | refine ⟨ss, ?_⟩)
  refine cS (names_Var_ok hr_3) ?_
  refine fi h F (fun h _ F => ?_) (fun h _ F => ?_)
  refine bi h fun r_4 h hr_4 => ?_
  refine tt ?_
  repeat (with_reducible first | intro _ | refine ⟨ss, ?_⟩)
  refine cS (names_all_r_ok _ _ _ hr_4) ?_
  cases h; exact fin
  cases h; exact fin
  refine fi h F (fun h _ F => ?_) (fun h _ F => ?_)
  refine bi h fun r_5 h hr_5 => ?_
  refine tt ?_
  repeat (with_reducible first | intro _ | refine ⟨ss, ?_⟩)
  refine cS (names_Block_ok hr_5) ?_
  refine fi h F (fun h _ F => ?_) (fun h _ F => ?_)
  refine bi h fun r_6 h hr_6 => ?_
  refine tt ?_
  repeat (with_reducible first | intro _ | refine ⟨ss, ?_⟩)
  refine cS (names_all_r_ok _ _ _ hr_6) ?_
  cases h; exact fin
  cases h; exact fin
  refine fi h F (fun h _ F => ?_) (fun h _ F => ?_)
  refine bi h fun r_7 h hr_7 => ?_
  refine tt ?_
  repeat (with_reducible first | intro _ | refine ⟨ss, ?_⟩)
  refine cS (names_Site_ok hr_7) ?_
  refine fi h F (fun h _ F => ?_) (fun h _ F => ?_)
  refine bi h fun r_8 h hr_8 => ?_
  refine tt ?_
  repeat (with_reducible first | intro _ | refine ⟨ss, ?_⟩)
  refine cS (names_all_r_ok _ _ _ hr_8) ?_
  cases h; exact fin
  cases h; exact fin
  refine bi h fun r_9 h hr_9 => ?_
  refine tt ?_
  repeat (with_reducible first | intro _ | refine ⟨ss, ?_⟩)
  refine cS (names_all_r_ok _ _ _ hr_9) ?_
  cases h; exact fin
theorem names_all_b_ok {names_known_r : api_Program → api_Expr → Option Bool} {names_all_r : api_Program → (List api_Expr) → Option Bool} {names_all_1_r : api_Program → api_Expr → Option Bool} {p : api_Program} {l : List api_Expr} {r : Bool}
    (names_known_r_ok : ∀ (x0 : api_Program) (x1 : api_Expr) (r : Bool), names_known_r x0 x1 = some r → Pu Try.prog 84 [.agg (e_api_Program x0), .agg (e_api_Expr x1)] (.one (.bool r)))
    (names_all_r_ok : ∀ (x0 : api_Program) (x1 : List api_Expr) (r : Bool), names_all_r x0 x1 = some r → Pu Try.prog 85 [.agg (e_api_Program x0), .one (.sl (x1.map e_api_Expr))] (.one (.bool r)))
    (names_all_1_r_ok : ∀ (x0 : api_Program) (x1 : api_Expr) (r : Bool), names_all_1_r x0 x1 = some r → Pu Try.prog 91 [.agg (e_api_Expr x1), .one (.iptr (e_api_Program x0) 0)] (.one (.bool r))) (h : names_all_b names_known_r names_all_r names_all_1_r p l = some r) :
    Pu Try.prog 85 [.agg (e_api_Program p), .one (.sl (l.map e_api_Expr))] (.one (.bool r)) := by
  have F := trivial; have R := trivial
  refine pA Try.func85 ?_
  simp only [Try.f85]
  unfold names_all_b at h
  refine bi h fun r_1 h hr_1 => ?_
  refine tt ?_
  repeat (with_reducible first | intro _ | refine ⟨ss, ?_⟩)
  refine cS (slices_ContainsFunc_api_Expr_api_Expr_ok (f_f := 91) (f_c := [.iptr [.sl (p.Lattice.Names.map eS), .sl (p.Lattice.Below.map (eA2 eI)), .sl (p.Sites.map e_api_Site), .sl (p.Vars.map e_api_Var), .sl (p.Blocks.map e_api_Block), .sl (p.Tasks.map e_api_Task)] 0]) clo (fun x0 r h => names_all_1_r_ok _ x0 r h) hr_1) ?_
  cases h; exact fin
theorem names_all_1_b_ok {names_known_r : api_Program → api_Expr → Option Bool} {names_all_r : api_Program → (List api_Expr) → Option Bool} {names_all_1_r : api_Program → api_Expr → Option Bool} {c0 : api_Program} {e : api_Expr} {r : Bool}
    (names_known_r_ok : ∀ (x0 : api_Program) (x1 : api_Expr) (r : Bool), names_known_r x0 x1 = some r → Pu Try.prog 84 [.agg (e_api_Program x0), .agg (e_api_Expr x1)] (.one (.bool r)))
    (names_all_r_ok : ∀ (x0 : api_Program) (x1 : List api_Expr) (r : Bool), names_all_r x0 x1 = some r → Pu Try.prog 85 [.agg (e_api_Program x0), .one (.sl (x1.map e_api_Expr))] (.one (.bool r)))
    (names_all_1_r_ok : ∀ (x0 : api_Program) (x1 : api_Expr) (r : Bool), names_all_1_r x0 x1 = some r → Pu Try.prog 91 [.agg (e_api_Expr x1), .one (.iptr (e_api_Program x0) 0)] (.one (.bool r))) (h : names_all_1_b names_known_r names_all_r names_all_1_r c0 e = some r) :
    Pu Try.prog 91 [.agg (e_api_Expr e), .one (.iptr (e_api_Program c0) 0)] (.one (.bool r)) := by
  have F := trivial; have R := trivial
  refine pA Try.func91 ?_
  simp only [Try.f91]
  unfold names_all_1_b at h
  refine bi h fun r_1 h hr_1 => ?_
  refine tt ?_
  repeat (with_reducible first | intro _ | refine ⟨ss, ?_⟩)
  refine cS (names_known_r_ok _ _ _ hr_1) ?_
  cases h; exact fin
theorem names_known_g_ok (n : Nat) : (∀ (x0 : api_Program) (x1 : api_Expr) (r : Bool), (names_known_g n).1 x0 x1 = some r → Pu Try.prog 84 [.agg (e_api_Program x0), .agg (e_api_Expr x1)] (.one (.bool r))) ∧ (∀ (x0 : api_Program) (x1 : List api_Expr) (r : Bool), (names_known_g n).2.1 x0 x1 = some r → Pu Try.prog 85 [.agg (e_api_Program x0), .one (.sl (x1.map e_api_Expr))] (.one (.bool r))) ∧ (∀ (x0 : api_Program) (x1 : api_Expr) (r : Bool), (names_known_g n).2.2 x0 x1 = some r → Pu Try.prog 91 [.agg (e_api_Expr x1), .one (.iptr (e_api_Program x0) 0)] (.one (.bool r))) := by
  induction n with
  | zero => exact ⟨fun _ _ r h => (by cases h), fun _ _ r h => (by cases h), fun _ _ r h => (by cases h)⟩
  | succ n ih =>
    obtain ⟨ih0, ih1, ih2⟩ := ih
    exact ⟨fun _ _ r h => names_known_b_ok ih0 ih1 ih2 h, fun _ _ r h => names_all_b_ok ih0 ih1 ih2 h, fun _ _ r h => names_all_1_b_ok ih0 ih1 ih2 h⟩
theorem names_known_ok {p : api_Program} {e : api_Expr} {r : Bool} (h : names_known p e = some r) : Pu Try.prog 84 [.agg (e_api_Program p), .agg (e_api_Expr e)] (.one (.bool r)) := (names_known_g_ok 1000000).1 _ _ _ h
theorem names_all_ok {p : api_Program} {l : List api_Expr} {r : Bool} (h : names_all p l = some r) : Pu Try.prog 85 [.agg (e_api_Program p), .one (.sl (l.map e_api_Expr))] (.one (.bool r)) := (names_known_g_ok 1000000).2.1 _ _ _ h
theorem names_all_1_ok {c0 : api_Program} {e : api_Expr} {r : Bool} (h : names_all_1 c0 e = some r) : Pu Try.prog 91 [.agg (e_api_Expr e), .one (.iptr (e_api_Program c0) 0)] (.one (.bool r)) := (names_known_g_ok 1000000).2.2 _ _ _ h
theorem names_stmts_b_ok {names_stmts_r : api_Program → (List api_Stmt) → Option Bool} {names_stmts_1_r : api_Program → api_Stmt → Option Bool} {p : api_Program} {l : List api_Stmt} {r : Bool}
    (names_stmts_r_ok : ∀ (x0 : api_Program) (x1 : List api_Stmt) (r : Bool), names_stmts_r x0 x1 = some r → Pu Try.prog 60 [.agg (e_api_Program x0), .one (.sl (x1.map e_api_Stmt))] (.one (.bool r)))
    (names_stmts_1_r_ok : ∀ (x0 : api_Program) (x1 : api_Stmt) (r : Bool), names_stmts_1_r x0 x1 = some r → Pu Try.prog 83 [.agg (e_api_Stmt x1), .one (.iptr (e_api_Program x0) 0)] (.one (.bool r))) (h : names_stmts_b names_stmts_r names_stmts_1_r p l = some r) :
    Pu Try.prog 60 [.agg (e_api_Program p), .one (.sl (l.map e_api_Stmt))] (.one (.bool r)) := by
  have F := trivial; have R := trivial
  refine pA Try.func60 ?_
  simp only [Try.f60]
  unfold names_stmts_b at h
  refine bi h fun r_1 h hr_1 => ?_
  refine tt ?_
  repeat (with_reducible first | intro _ | refine ⟨ss, ?_⟩)
  refine cS (slices_ContainsFunc_api_Stmt_api_Stmt_ok (f_f := 83) (f_c := [.iptr [.sl (p.Lattice.Names.map eS), .sl (p.Lattice.Below.map (eA2 eI)), .sl (p.Sites.map e_api_Site), .sl (p.Vars.map e_api_Var), .sl (p.Blocks.map e_api_Block), .sl (p.Tasks.map e_api_Task)] 0]) clo (fun x0 r h => names_stmts_1_r_ok _ x0 r h) hr_1) ?_
  cases h; exact fin
theorem names_stmts_1_b_ok {names_stmts_r : api_Program → (List api_Stmt) → Option Bool} {names_stmts_1_r : api_Program → api_Stmt → Option Bool} {c0 : api_Program} {s : api_Stmt} {r : Bool}
    (names_stmts_r_ok : ∀ (x0 : api_Program) (x1 : List api_Stmt) (r : Bool), names_stmts_r x0 x1 = some r → Pu Try.prog 60 [.agg (e_api_Program x0), .one (.sl (x1.map e_api_Stmt))] (.one (.bool r)))
    (names_stmts_1_r_ok : ∀ (x0 : api_Program) (x1 : api_Stmt) (r : Bool), names_stmts_1_r x0 x1 = some r → Pu Try.prog 83 [.agg (e_api_Stmt x1), .one (.iptr (e_api_Program x0) 0)] (.one (.bool r))) (h : names_stmts_1_b names_stmts_r names_stmts_1_r c0 s = some r) :
    Pu Try.prog 83 [.agg (e_api_Stmt s), .one (.iptr (e_api_Program c0) 0)] (.one (.bool r)) := by
  have F := trivial; have R := trivial
  refine pA Try.func83 ?_
  simp only [Try.f83]
  unfold names_stmts_1_b at h
  refine fi h F (fun h _ F => ?_) (fun h _ F => ?_)
  refine bi h fun r_1 h hr_1 => ?_
  refine tt ?_
  repeat (with_reducible first | intro _ | refine ⟨ss, ?_⟩)
  refine cS (names_Var_ok hr_1) ?_
  refine fi h F (fun h _ F => ?_) (fun h _ F => ?_)
  refine bi h fun r_2 h hr_2 => ?_
  refine tt ?_
  repeat (with_reducible first | intro _ | refine ⟨ss, ?_⟩)
  refine cS (names_known_ok hr_2) ?_
  refine fv h F (fun h _ F => ?_) (fun h _ F => ?_)
  refine bi h fun r_3 h hr_3 => ?_
  refine tt ?_
  repeat (with_reducible first | intro _ | refine ⟨ss, ?_⟩)
  refine cS (names_known_ok hr_3) ?_
  refine fv h F (fun h _ F => ?_) (fun h _ F => ?_)
  refine bi h fun r_4 h hr_4 => ?_
  refine tt ?_
  repeat (with_reducible first | intro _ | refine ⟨ss, ?_⟩)
  refine cS (names_all_ok hr_4) ?_
  refine fv h F (fun h _ F => ?_) (fun h _ F => ?_)
  refine bi h fun r_5 h hr_5 => ?_
  refine tt ?_
  repeat (with_reducible first | intro _ | refine ⟨ss, ?_⟩)
  refine cS (names_stmts_r_ok _ _ _ hr_5) ?_
  refine fv h F (fun h _ F => ?_) (fun h _ F => ?_)
  refine bi h fun r_6 h hr_6 => ?_
  refine tt ?_
  repeat (with_reducible first | intro _ | refine ⟨ss, ?_⟩)
  refine cS (names_stmts_r_ok _ _ _ hr_6) ?_
  cases h; exact fin
  cases h; exact fin
  cases h; exact fin
  cases h; exact fin
  cases h; exact fin
  refine tt ?_
  refine fi h F (fun h _ F => ?_) (fun h _ F => ?_)
  refine bi h fun r_7 h hr_7 => ?_
  refine tt ?_
  repeat (with_reducible first | intro _ | refine ⟨ss, ?_⟩)
  refine cS (names_Block_ok hr_7) ?_
  refine tt ?_
  refine fi h F (fun h _ F => ?_) (fun h _ F => ?_)
  refine bi h fun r_8 h hr_8 => ?_
  refine tt ?_
  repeat (with_reducible first | intro _ | refine ⟨ss, ?_⟩)
  refine cS (names_known_ok hr_8) ?_
  refine fv h F (fun h _ F => ?_) (fun h _ F => ?_)
  refine bi h fun r_9 h hr_9 => ?_
  refine tt ?_
  repeat (with_reducible first | intro _ | refine ⟨ss, ?_⟩)
  refine cS (names_known_ok hr_9) ?_
  refine fv h F (fun h _ F => ?_) (fun h _ F => ?_)
  refine bi h fun r_10 h hr_10 => ?_
  refine tt ?_
  repeat (with_reducible first | intro _ | refine ⟨ss, ?_⟩)
  refine cS (names_all_ok hr_10) ?_
  refine fv h F (fun h _ F => ?_) (fun h _ F => ?_)
  refine bi h fun r_11 h hr_11 => ?_
  refine tt ?_
  repeat (with_reducible first | intro _ | refine ⟨ss, ?_⟩)
  refine cS (names_stmts_r_ok _ _ _ hr_11) ?_
  refine fv h F (fun h _ F => ?_) (fun h _ F => ?_)
  refine bi h fun r_12 h hr_12 => ?_
  refine tt ?_
  repeat (with_reducible first | intro _ | refine ⟨ss, ?_⟩)
  refine cS (names_stmts_r_ok _ _ _ hr_12) ?_
  cases h; exact fin
  cases h; exact fin
  cases h; exact fin
  cases h; exact fin
  cases h; exact fin
  cases h; exact fin
  cases h; exact fin
  refine tt ?_
  refine fi h F (fun h _ F => ?_) (fun h _ F => ?_)
  refine bi h fun r_13 h hr_13 => ?_
  refine tt ?_
  repeat (with_reducible first | intro _ | refine ⟨ss, ?_⟩)
  refine cS (names_Block_ok hr_13) ?_
  refine tt ?_
  refine fi h F (fun h _ F => ?_) (fun h _ F => ?_)
  refine bi h fun r_14 h hr_14 => ?_
  refine tt ?_
  repeat (with_reducible first | intro _ | refine ⟨ss, ?_⟩)
  refine cS (names_known_ok hr_14) ?_
  refine fv h F (fun h _ F => ?_) (fun h _ F => ?_)
  refine bi h fun r_15 h hr_15 => ?_
  refine tt ?_
  repeat (with_reducible first | intro _ | refine ⟨ss, ?_⟩)
  refine cS (names_known_ok hr_15) ?_
  refine fv h F (fun h _ F => ?_) (fun h _ F => ?_)
  refine bi h fun r_16 h hr_16 => ?_
  refine tt ?_
  repeat (with_reducible first | intro _ | refine ⟨ss, ?_⟩)
  refine cS (names_all_ok hr_16) ?_
  refine fv h F (fun h _ F => ?_) (fun h _ F => ?_)
  refine bi h fun r_17 h hr_17 => ?_
  refine tt ?_
  repeat (with_reducible first | intro _ | refine ⟨ss, ?_⟩)
  refine cS (names_stmts_r_ok _ _ _ hr_17) ?_
  refine fv h F (fun h _ F => ?_) (fun h _ F => ?_)
  refine bi h fun r_18 h hr_18 => ?_
  refine tt ?_
  repeat (with_reducible first | intro _ | refine ⟨ss, ?_⟩)
  refine cS (names_stmts_r_ok _ _ _ hr_18) ?_
  cases h; exact fin
  cases h; exact fin
  cases h; exact fin
  cases h; exact fin
  cases h; exact fin
  cases h; exact fin
  refine bi h fun r_19 h hr_19 => ?_
  refine tt ?_
  repeat (with_reducible first | intro _ | refine ⟨ss, ?_⟩)
  refine cS (names_known_ok hr_19) ?_
  refine fv h F (fun h _ F => ?_) (fun h _ F => ?_)
  refine bi h fun r_20 h hr_20 => ?_
  refine tt ?_
  repeat (with_reducible first | intro _ | refine ⟨ss, ?_⟩)
  refine cS (names_known_ok hr_20) ?_
  refine fv h F (fun h _ F => ?_) (fun h _ F => ?_)
  refine bi h fun r_21 h hr_21 => ?_
  refine tt ?_
  repeat (with_reducible first | intro _ | refine ⟨ss, ?_⟩)
  refine cS (names_all_ok hr_21) ?_
  refine fv h F (fun h _ F => ?_) (fun h _ F => ?_)
  refine bi h fun r_22 h hr_22 => ?_
  refine tt ?_
  repeat (with_reducible first | intro _ | refine ⟨ss, ?_⟩)
  refine cS (names_stmts_r_ok _ _ _ hr_22) ?_
  refine fv h F (fun h _ F => ?_) (fun h _ F => ?_)
  refine bi h fun r_23 h hr_23 => ?_
  refine tt ?_
  repeat (with_reducible first | intro _ | refine ⟨ss, ?_⟩)
  refine cS (names_stmts_r_ok _ _ _ hr_23) ?_
  cases h; exact fin
  cases h; exact fin
  cases h; exact fin
  cases h; exact fin
  cases h; exact fin
theorem names_stmts_g_ok (n : Nat) : (∀ (x0 : api_Program) (x1 : List api_Stmt) (r : Bool), (names_stmts_g n).1 x0 x1 = some r → Pu Try.prog 60 [.agg (e_api_Program x0), .one (.sl (x1.map e_api_Stmt))] (.one (.bool r))) ∧ (∀ (x0 : api_Program) (x1 : api_Stmt) (r : Bool), (names_stmts_g n).2 x0 x1 = some r → Pu Try.prog 83 [.agg (e_api_Stmt x1), .one (.iptr (e_api_Program x0) 0)] (.one (.bool r))) := by
  induction n with
  | zero => exact ⟨fun _ _ r h => (by cases h), fun _ _ r h => (by cases h)⟩
  | succ n ih =>
    obtain ⟨ih0, ih1⟩ := ih
    exact ⟨fun _ _ r h => names_stmts_b_ok ih0 ih1 h, fun _ _ r h => names_stmts_1_b_ok ih0 ih1 h⟩
theorem names_stmts_ok {p : api_Program} {l : List api_Stmt} {r : Bool} (h : names_stmts p l = some r) : Pu Try.prog 60 [.agg (e_api_Program p), .one (.sl (l.map e_api_Stmt))] (.one (.bool r)) := (names_stmts_g_ok 1000000).1 _ _ _ h
theorem names_stmts_1_ok {c0 : api_Program} {s : api_Stmt} {r : Bool} (h : names_stmts_1 c0 s = some r) : Pu Try.prog 83 [.agg (e_api_Stmt s), .one (.iptr (e_api_Program c0) 0)] (.one (.bool r)) := (names_stmts_g_ok 1000000).2 _ _ _ h
theorem names_Check_ok {p : api_Program} {r : Int} (h : names_Check p = some r) :
    Pu Try.prog 31 [.agg (e_api_Program p)] (.one (.int .i64 r)) := by
  have F := trivial; have R := trivial
  refine pA Try.func31 ?_
  simp only [Try.f31]
  unfold names_Check at h
  have R := And.intro (show (O.map [] : O) = .map (eM C.str C.bool []) from rfl) R
  refine bi h fun e_4 h he_4 => ?_
  refine tt ?_
  repeat (with_reducible first | intro _ | refine ⟨ss, ?_⟩)
  refine lE (fun (s__ : (List (Str × Bool)) × Bool × Nat) (a__ : Unit) => match s__, a__ with | (xs_1, ok_2, x_3), _ => ⟨[(1, .one (.ref 0 0 0 0)), (4, .one (.ref 3 0 0 0)), (5, .one (.fn 59 [.ref 3 0 0 0, .ref 2 0 0 0])), (17, .one (.sl (p.Vars.map e_api_Var))), (18, .one (.int .i64 (p.Vars.length : Int))), (19, .one (.int .i64 (x_3 : Int)))], [.cells 0 6 [[.sl (p.Lattice.Names.map eS), .sl (p.Lattice.Below.map (eA2 eI)), .sl (p.Sites.map e_api_Site), .sl (p.Vars.map e_api_Var), .sl (p.Blocks.map e_api_Block), .sl (p.Tasks.map e_api_Task)]], .map (eM C.str C.bool xs_1), .cells 0 1 [[.mp 1]], .cells 0 1 [[.bool ok_2]]]⟩) (fun (e__ : (List (Str × Bool)) × Bool) (b__ : Unit) => match e__, b__ with | (xs_7, ok_8), _ => ⟨[(1, .one (.ref 0 0 0 0)), (4, .one (.ref 3 0 0 0)), (5, .one (.fn 59 [.ref 3 0 0 0, .ref 2 0 0 0]))], [.cells 0 6 [[.sl (p.Lattice.Names.map eS), .sl (p.Lattice.Below.map (eA2 eI)), .sl (p.Sites.map e_api_Site), .sl (p.Vars.map e_api_Var), .sl (p.Blocks.map e_api_Block), .sl (p.Tasks.map e_api_Task)]], .map (eM C.str C.bool xs_7), .cells 0 1 [[.mp 1]], .cells 0 1 [[.bool ok_8]]]⟩) (fun (_ : (List (Str × Bool)) × Bool) => some 0) () he_4 ?_ ?_
  intro i5 b5 hi5
  obtain rfl := Option.some.inj hi5
  obtain ⟨xs_7, ok_8⟩ := e_4
  obtain ⟨⟩ := b5
  dsimp only at h ⊢
  refine bi h fun e_12 h he_12 => ?_
  refine tt ?_
  repeat (with_reducible first | intro _ | refine ⟨ss, ?_⟩)
  refine lE (fun (s__ : (List (Str × Bool)) × Bool × Nat) (a__ : Unit) => match s__, a__ with | (xs_9, ok_10, x_11), _ => ⟨[(1, .one (.ref 0 0 0 0)), (4, .one (.ref 3 0 0 0)), (5, .one (.fn 59 [.ref 3 0 0 0, .ref 2 0 0 0])), (29, .one (.sl (p.Blocks.map e_api_Block))), (30, .one (.int .i64 (p.Blocks.length : Int))), (31, .one (.int .i64 (x_11 : Int)))], [.cells 0 6 [[.sl (p.Lattice.Names.map eS), .sl (p.Lattice.Below.map (eA2 eI)), .sl (p.Sites.map e_api_Site), .sl (p.Vars.map e_api_Var), .sl (p.Blocks.map e_api_Block), .sl (p.Tasks.map e_api_Task)]], .map (eM C.str C.bool xs_9), .cells 0 1 [[.mp 1]], .cells 0 1 [[.bool ok_10]]]⟩) (fun (e__ : (List (Str × Bool)) × Bool) (b__ : Unit) => match e__, b__ with | (xs_15, ok_16), _ => ⟨[(1, .one (.ref 0 0 0 0)), (4, .one (.ref 3 0 0 0)), (5, .one (.fn 59 [.ref 3 0 0 0, .ref 2 0 0 0]))], [.cells 0 6 [[.sl (p.Lattice.Names.map eS), .sl (p.Lattice.Below.map (eA2 eI)), .sl (p.Sites.map e_api_Site), .sl (p.Vars.map e_api_Var), .sl (p.Blocks.map e_api_Block), .sl (p.Tasks.map e_api_Task)]], .map (eM C.str C.bool xs_15), .cells 0 1 [[.mp 1]], .cells 0 1 [[.bool ok_16]]]⟩) (fun (_ : (List (Str × Bool)) × Bool) => some 2) () he_12 ?_ ?_
  intro i13 b13 hi13
  obtain rfl := Option.some.inj hi13
  obtain ⟨xs_15, ok_16⟩ := e_12
  obtain ⟨⟩ := b13
  dsimp only at h ⊢
  refine bi h fun e_20 h he_20 => ?_
  refine tt ?_
  repeat (with_reducible first | intro _ | refine ⟨ss, ?_⟩)
  refine lE (fun (s__ : (List (Str × Bool)) × Bool × Nat) (a__ : Unit) => match s__, a__ with | (xs_17, ok_18, x_19), _ => ⟨[(1, .one (.ref 0 0 0 0)), (4, .one (.ref 3 0 0 0)), (5, .one (.fn 59 [.ref 3 0 0 0, .ref 2 0 0 0])), (41, .one (.sl (p.Sites.map e_api_Site))), (42, .one (.int .i64 (p.Sites.length : Int))), (43, .one (.int .i64 (x_19 : Int)))], [.cells 0 6 [[.sl (p.Lattice.Names.map eS), .sl (p.Lattice.Below.map (eA2 eI)), .sl (p.Sites.map e_api_Site), .sl (p.Vars.map e_api_Var), .sl (p.Blocks.map e_api_Block), .sl (p.Tasks.map e_api_Task)]], .map (eM C.str C.bool xs_17), .cells 0 1 [[.mp 1]], .cells 0 1 [[.bool ok_18]]]⟩) (fun (e__ : (List (Str × Bool)) × Bool) (b__ : Unit) => match e__, b__ with | (xs_23, ok_24), _ => ⟨[(1, .one (.ref 0 0 0 0)), (4, .one (.ref 3 0 0 0))], [.cells 0 6 [[.sl (p.Lattice.Names.map eS), .sl (p.Lattice.Below.map (eA2 eI)), .sl (p.Sites.map e_api_Site), .sl (p.Vars.map e_api_Var), .sl (p.Blocks.map e_api_Block), .sl (p.Tasks.map e_api_Task)]], .map (eM C.str C.bool xs_23), .cells 0 1 [[.mp 1]], .cells 0 1 [[.bool ok_24]]]⟩) (fun (_ : (List (Str × Bool)) × Bool) => some 4) () he_20 ?_ ?_
  intro i21 b21 hi21
  obtain rfl := Option.some.inj hi21
  obtain ⟨xs_23, ok_24⟩ := e_20
  obtain ⟨⟩ := b21
  dsimp only at h ⊢
  refine bi h fun e_27 h he_27 => ?_
  refine tt ?_
  repeat (with_reducible first | intro _ | refine ⟨ss, ?_⟩)
  refine lE (fun (s__ : Bool × Nat) (a__ : Unit) => match s__, a__ with | (ok_25, x_26), _ => ⟨[(1, .one (.ref 0 0 0 0)), (4, .one (.ref 3 0 0 0)), (53, .one (.sl (p.Tasks.map e_api_Task))), (54, .one (.int .i64 (p.Tasks.length : Int))), (55, .one (.int .i64 (x_26 : Int)))], [.cells 0 6 [[.sl (p.Lattice.Names.map eS), .sl (p.Lattice.Below.map (eA2 eI)), .sl (p.Sites.map e_api_Site), .sl (p.Vars.map e_api_Var), .sl (p.Blocks.map e_api_Block), .sl (p.Tasks.map e_api_Task)]], .map (eM C.str C.bool xs_23), .cells 0 1 [[.mp 1]], .cells 0 1 [[.bool ok_25]]]⟩) (fun (e__ : Bool) (b__ : Unit) => match e__, b__ with | e_27, _ => ⟨[(4, .one (.ref 3 0 0 0))], [.cells 0 6 [[.sl (p.Lattice.Names.map eS), .sl (p.Lattice.Below.map (eA2 eI)), .sl (p.Sites.map e_api_Site), .sl (p.Vars.map e_api_Var), .sl (p.Blocks.map e_api_Block), .sl (p.Tasks.map e_api_Task)]], .map (eM C.str C.bool xs_23), .cells 0 1 [[.mp 1]], .cells 0 1 [[.bool e_27]]]⟩) (fun (_ : Bool) => some 6) () he_27 ?_ ?_
  intro i28 b28 hi28
  obtain rfl := Option.some.inj hi28
  obtain ⟨⟩ := b28
  dsimp only at h ⊢
  refine fv h F (fun h _ F => ?_) (fun h _ F => ?_)
  cases h; exact fin
  cases h; exact fin
  intro af28 m28 s28 a28 o28 hf28 ho28 ih28
  obtain ⟨ok_25, x_26⟩ := s28
  obtain ⟨⟩ := a28
  dsimp only [names_Check_L4] at hf28 ⊢
  refine fl hf28 F (fun hf28 _ F => ?_) (fun hf28 _ F => ?_)
  refine bx hf28 F fun x_29 hf28 hx_29 F => ?_
  refine tt ?_
  repeat (with_reducible first | intro _ | refine ⟨ss, ?_⟩)
  refine fv hf28 F (fun hf28 _ F => ?_) (fun hf28 _ F => ?_)
  refine bi hf28 fun r_30 hf28 hr_30 => ?_
  refine tt ?_
  repeat (with_reducible first | intro _ | refine ⟨ss, ?_⟩)
  refine cS (names_stmts_ok hr_30) ?_
  cases hf28
  refine tt ?_
  refine wn x_26 F fun F => ?_
  exact bk ih28 ho28 ()
  cases hf28
  refine tt ?_
  refine wn x_26 F fun F => ?_
  exact bk ih28 ho28 ()
  cases hf28
  refine tt ?_
  exact xt ho28 af28 ()
  intro af21 m21 s21 a21 o21 hf21 ho21 ih21
  obtain ⟨xs_17, ok_18, x_19⟩ := s21
  obtain ⟨⟩ := a21
  dsimp only [names_Check_L3] at hf21 ⊢
  refine fl hf21 F (fun hf21 _ F => ?_) (fun hf21 _ F => ?_)
  refine bx hf21 F fun x_22 hf21 hx_22 F => ?_
  refine tt ?_
  repeat (with_reducible first | intro _ | refine ⟨ss, ?_⟩)
  refine iS Try.func59 ?_
  simp only [Try.f59]
  refine fv hf21 F (fun hf21 _ F => ?_) (fun hf21 _ F => ?_)
  cases hf21
  refine tt ?_
  refine wn x_19 F fun F => ?_
  exact bk ih21 ho21 ()
  cases hf21
  refine tt ?_
  refine wn x_19 F fun F => ?_
  exact bk ih21 ho21 ()
  cases hf21
  refine tt ?_
  exact xt ho21 af21 ()
  intro af13 m13 s13 a13 o13 hf13 ho13 ih13
  obtain ⟨xs_9, ok_10, x_11⟩ := s13
  obtain ⟨⟩ := a13
  dsimp only [names_Check_L2] at hf13 ⊢
  refine fl hf13 F (fun hf13 _ F => ?_) (fun hf13 _ F => ?_)
  refine bx hf13 F fun x_14 hf13 hx_14 F => ?_
  refine tt ?_
  repeat (with_reducible first | intro _ | refine ⟨ss, ?_⟩)
  refine iS Try.func59 ?_
  simp only [Try.f59]
  refine fv hf13 F (fun hf13 _ F => ?_) (fun hf13 _ F => ?_)
  cases hf13
  refine tt ?_
  refine wn x_11 F fun F => ?_
  exact bk ih13 ho13 ()
  cases hf13
  refine tt ?_
  refine wn x_11 F fun F => ?_
  exact bk ih13 ho13 ()
  cases hf13
  refine tt ?_
  exact xt ho13 af13 ()
  intro af5 m5 s5 a5 o5 hf5 ho5 ih5
  obtain ⟨xs_1, ok_2, x_3⟩ := s5
  obtain ⟨⟩ := a5
  dsimp only [names_Check_L1] at hf5 ⊢
  refine fl hf5 F (fun hf5 _ F => ?_) (fun hf5 _ F => ?_)
  refine bx hf5 F fun x_6 hf5 hx_6 F => ?_
  refine tt ?_
  repeat (with_reducible first | intro _ | refine ⟨ss, ?_⟩)
  refine iS Try.func59 ?_
  simp only [Try.f59]
  refine fv hf5 F (fun hf5 _ F => ?_) (fun hf5 _ F => ?_)
  cases hf5
  refine tt ?_
  refine wn x_3 F fun F => ?_
  exact bk ih5 ho5 ()
  cases hf5
  refine tt ?_
  refine wn x_3 F fun F => ?_
  exact bk ih5 ho5 ()
  cases hf5
  refine tt ?_
  exact xt ho5 af5 ()
theorem lazarettolaw10_one_ok {name : Str} {r : api_Program} (h : lazarettolaw10_one name = some r) :
    Pu Try.prog 52 [.one (.str name)] (.agg (e_api_Program r)) := by
  have F := trivial; have R := trivial
  refine pA Try.func52 ?_
  simp only [Try.f52]
  unfold lazarettolaw10_one at h
  cases h; exact fin
theorem lazarettolaw10_awake_ok {r : Bool} (h : lazarettolaw10_awake = some r) :
    Pu Try.prog 24 [] (.one (.bool r)) := by
  have F := trivial; have R := trivial
  refine pA Try.func24 ?_
  simp only [Try.f24]
  unfold lazarettolaw10_awake at h
  refine bi h fun r_1 h hr_1 => ?_
  refine tt ?_
  repeat (with_reducible first | intro _ | refine ⟨ss, ?_⟩)
  refine cS (lazarettolaw10_one_ok hr_1) ?_
  refine bi h fun r_2 h hr_2 => ?_
  refine tt ?_
  repeat (with_reducible first | intro _ | refine ⟨ss, ?_⟩)
  refine cS (names_Check_ok hr_2) ?_
  refine fi h F (fun h _ F => ?_) (fun h _ F => ?_)
  refine bi h fun r_3 h hr_3 => ?_
  refine tt ?_
  repeat (with_reducible first | intro _ | refine ⟨ss, ?_⟩)
  refine cS (lazarettolaw10_one_ok hr_3) ?_
  refine bi h fun r_4 h hr_4 => ?_
  refine tt ?_
  repeat (with_reducible first | intro _ | refine ⟨ss, ?_⟩)
  refine cS (names_Check_ok hr_4) ?_
  refine fi h F (fun h _ F => ?_) (fun h _ F => ?_)
  refine bi h fun r_5 h hr_5 => ?_
  refine tt ?_
  repeat (with_reducible first | intro _ | refine ⟨ss, ?_⟩)
  refine cS (lazarettolaw10_one_ok hr_5) ?_
  refine bi h fun r_6 h hr_6 => ?_
  refine tt ?_
  repeat (with_reducible first | intro _ | refine ⟨ss, ?_⟩)
  refine cS (names_Var_ok hr_6) ?_
  refine fi h F (fun h _ F => ?_) (fun h _ F => ?_)
  refine bi h fun r_7 h hr_7 => ?_
  refine tt ?_
  repeat (with_reducible first | intro _ | refine ⟨ss, ?_⟩)
  refine cS (lazarettolaw10_one_ok hr_7) ?_
  refine bi h fun r_8 h hr_8 => ?_
  refine tt ?_
  repeat (with_reducible first | intro _ | refine ⟨ss, ?_⟩)
  refine cS (names_Block_ok hr_8) ?_
  refine fi h F (fun h _ F => ?_) (fun h _ F => ?_)
  refine bi h fun r_9 h hr_9 => ?_
  refine tt ?_
  repeat (with_reducible first | intro _ | refine ⟨ss, ?_⟩)
  refine cS (lazarettolaw10_one_ok hr_9) ?_
  refine bi h fun r_10 h hr_10 => ?_
  refine tt ?_
  repeat (with_reducible first | intro _ | refine ⟨ss, ?_⟩)
  refine cS (names_Site_ok hr_10) ?_
  refine fi h F (fun h _ F => ?_) (fun h _ F => ?_)
  refine bi h fun r_11 h hr_11 => ?_
  refine tt ?_
  repeat (with_reducible first | intro _ | refine ⟨ss, ?_⟩)
  refine cS (lazarettolaw10_one_ok hr_11) ?_
  refine bi h fun r_12 h hr_12 => ?_
  refine tt ?_
  repeat (with_reducible first | intro _ | refine ⟨ss, ?_⟩)
  refine cS (names_Var_ok hr_12) ?_
  cases h; exact fin
  cases h; exact fin
  cases h; exact fin
  cases h; exact fin
  cases h; exact fin
  cases h; exact fin
theorem lazarettoref10_Var_ok {p : api_Program} {name : Str} {r : Int} (h : lazarettoref10_Var p name = some r) :
    Pu Try.prog 26 [.agg (e_api_Program p), .one (.str name)] (.one (.int .i64 r)) := by
  have F := trivial; have R := trivial
  refine pA Try.func26 ?_
  simp only [Try.f26]
  unfold lazarettoref10_Var at h
  refine bi h fun e_2 h he_2 => ?_
  refine tt ?_
  refine lE (fun (s__ : Nat) (a__ : Unit) => match s__, a__ with | i_1, _ => ⟨[(1, .one (.str name)), (2, .one (.ref 0 0 0 0)), (5, .one (.int .i64 (i_1 : Int)))], [.cells 0 6 [[.sl (p.Lattice.Names.map eS), .sl (p.Lattice.Below.map (eA2 eI)), .sl (p.Sites.map e_api_Site), .sl (p.Vars.map e_api_Var), .sl (p.Blocks.map e_api_Block), .sl (p.Tasks.map e_api_Task)]]]⟩) (fun (e__ : Int ⊕ Unit) (b__ : Unit) => match e__, b__ with | (.inl e_5), _ => ⟨[], []⟩ | (.inr ()), _ => ⟨[], [.cells 0 6 [[.sl (p.Lattice.Names.map eS), .sl (p.Lattice.Below.map (eA2 eI)), .sl (p.Sites.map e_api_Site), .sl (p.Vars.map e_api_Var), .sl (p.Blocks.map e_api_Block), .sl (p.Tasks.map e_api_Task)]]]⟩) (fun (e__ : Int ⊕ Unit) => match e__ with | (.inl _) => none | (.inr _) => some 0) () he_2 ?_ ?_
  intro i3 b3 hi3
  rcases e_2 with e_case | ⟨⟩
  cases hi3
  obtain rfl := Option.some.inj hi3
  obtain ⟨⟩ := b3
  dsimp only at h ⊢
  cases h; exact fin
  intro af3 m3 i_1 a3 o3 hf3 ho3 ih3
  obtain ⟨⟩ := a3
  dsimp only [lazarettoref10_Var_L1] at hf3 ⊢
  refine tt ?_
  repeat (with_reducible first | intro _ | refine ⟨ss, ?_⟩)
  refine fl hf3 F (fun hf3 _ F => ?_) (fun hf3 _ F => ?_)
  refine bx hf3 F fun x_4 hf3 hx_4 F => ?_
  refine tt ?_
  repeat (with_reducible first | intro _ | refine ⟨ss, ?_⟩)
  refine fi hf3 F (fun hf3 _ F => ?_) (fun hf3 _ F => ?_)
  cases hf3
  obtain rfl := sr ho3
  try dsimp only at h
  cases h
  exact fin
  cases hf3
  refine tt ?_
  refine wn i_1 F fun F => ?_
  exact bk ih3 ho3 ()
  cases hf3
  refine tt ?_
  exact xt ho3 af3 ()
theorem lazarettoref10_Block_ok {p : api_Program} {name : Str} {r : Int} (h : lazarettoref10_Block p name = some r) :
    Pu Try.prog 28 [.agg (e_api_Program p), .one (.str name)] (.one (.int .i64 r)) := by
  have F := trivial; have R := trivial
  refine pA Try.func28 ?_
  simp only [Try.f28]
  unfold lazarettoref10_Block at h
  refine bi h fun e_2 h he_2 => ?_
  refine tt ?_
  refine lE (fun (s__ : Nat) (a__ : Unit) => match s__, a__ with | i_1, _ => ⟨[(1, .one (.str name)), (2, .one (.ref 0 0 0 0)), (5, .one (.int .i64 (i_1 : Int)))], [.cells 0 6 [[.sl (p.Lattice.Names.map eS), .sl (p.Lattice.Below.map (eA2 eI)), .sl (p.Sites.map e_api_Site), .sl (p.Vars.map e_api_Var), .sl (p.Blocks.map e_api_Block), .sl (p.Tasks.map e_api_Task)]]]⟩) (fun (e__ : Int ⊕ Unit) (b__ : Unit) => match e__, b__ with | (.inl e_5), _ => ⟨[], []⟩ | (.inr ()), _ => ⟨[], [.cells 0 6 [[.sl (p.Lattice.Names.map eS), .sl (p.Lattice.Below.map (eA2 eI)), .sl (p.Sites.map e_api_Site), .sl (p.Vars.map e_api_Var), .sl (p.Blocks.map e_api_Block), .sl (p.Tasks.map e_api_Task)]]]⟩) (fun (e__ : Int ⊕ Unit) => match e__ with | (.inl _) => none | (.inr _) => some 0) () he_2 ?_ ?_
  intro i3 b3 hi3
  rcases e_2 with e_case | ⟨⟩
  cases hi3
  obtain rfl := Option.some.inj hi3
  obtain ⟨⟩ := b3
  dsimp only at h ⊢
  cases h; exact fin
  intro af3 m3 i_1 a3 o3 hf3 ho3 ih3
  obtain ⟨⟩ := a3
  dsimp only [lazarettoref10_Block_L1] at hf3 ⊢
  refine tt ?_
  repeat (with_reducible first | intro _ | refine ⟨ss, ?_⟩)
  refine fl hf3 F (fun hf3 _ F => ?_) (fun hf3 _ F => ?_)
  refine bx hf3 F fun x_4 hf3 hx_4 F => ?_
  refine tt ?_
  repeat (with_reducible first | intro _ | refine ⟨ss, ?_⟩)
  refine fi hf3 F (fun hf3 _ F => ?_) (fun hf3 _ F => ?_)
  cases hf3
  obtain rfl := sr ho3
  try dsimp only at h
  cases h
  exact fin
  cases hf3
  refine tt ?_
  refine wn i_1 F fun F => ?_
  exact bk ih3 ho3 ()
  cases hf3
  refine tt ?_
  exact xt ho3 af3 ()
theorem lazarettoref10_Site_ok {p : api_Program} {name : Str} {r : Int} (h : lazarettoref10_Site p name = some r) :
    Pu Try.prog 30 [.agg (e_api_Program p), .one (.str name)] (.one (.int .i64 r)) := by
  have F := trivial; have R := trivial
  refine pA Try.func30 ?_
  simp only [Try.f30]
  unfold lazarettoref10_Site at h
  refine bi h fun e_2 h he_2 => ?_
  refine tt ?_
  refine lE (fun (s__ : Nat) (a__ : Unit) => match s__, a__ with | i_1, _ => ⟨[(1, .one (.str name)), (2, .one (.ref 0 0 0 0)), (5, .one (.int .i64 (i_1 : Int)))], [.cells 0 6 [[.sl (p.Lattice.Names.map eS), .sl (p.Lattice.Below.map (eA2 eI)), .sl (p.Sites.map e_api_Site), .sl (p.Vars.map e_api_Var), .sl (p.Blocks.map e_api_Block), .sl (p.Tasks.map e_api_Task)]]]⟩) (fun (e__ : Int ⊕ Unit) (b__ : Unit) => match e__, b__ with | (.inl e_5), _ => ⟨[], []⟩ | (.inr ()), _ => ⟨[], [.cells 0 6 [[.sl (p.Lattice.Names.map eS), .sl (p.Lattice.Below.map (eA2 eI)), .sl (p.Sites.map e_api_Site), .sl (p.Vars.map e_api_Var), .sl (p.Blocks.map e_api_Block), .sl (p.Tasks.map e_api_Task)]]]⟩) (fun (e__ : Int ⊕ Unit) => match e__ with | (.inl _) => none | (.inr _) => some 0) () he_2 ?_ ?_
  intro i3 b3 hi3
  rcases e_2 with e_case | ⟨⟩
  cases hi3
  obtain rfl := Option.some.inj hi3
  obtain ⟨⟩ := b3
  dsimp only at h ⊢
  cases h; exact fin
  intro af3 m3 i_1 a3 o3 hf3 ho3 ih3
  obtain ⟨⟩ := a3
  dsimp only [lazarettoref10_Site_L1] at hf3 ⊢
  refine tt ?_
  repeat (with_reducible first | intro _ | refine ⟨ss, ?_⟩)
  refine fl hf3 F (fun hf3 _ F => ?_) (fun hf3 _ F => ?_)
  refine bx hf3 F fun x_4 hf3 hx_4 F => ?_
  refine tt ?_
  repeat (with_reducible first | intro _ | refine ⟨ss, ?_⟩)
  refine fi hf3 F (fun hf3 _ F => ?_) (fun hf3 _ F => ?_)
  cases hf3
  obtain rfl := sr ho3
  try dsimp only at h
  cases h
  exact fin
  cases hf3
  refine tt ?_
  refine wn i_1 F fun F => ?_
  exact bk ih3 ho3 ()
  cases hf3
  refine tt ?_
  exact xt ho3 af3 ()
theorem lazarettolaw10_NamesFinds_ok {p : api_Program} {name : Str} {r : Bool} (h : lazarettolaw10_NamesFinds p name = some r) :
    Pu Try.prog 6 [.agg (e_api_Program p), .one (.str name)] (.one (.bool r)) := by
  have F := trivial; have R := trivial
  refine pA Try.func6 ?_
  simp only [Try.f6]
  unfold lazarettolaw10_NamesFinds at h
  refine bi h fun r_1 h hr_1 => ?_
  refine tt ?_
  repeat (with_reducible first | intro _ | refine ⟨ss, ?_⟩)
  refine cS (lazarettolaw08_Few_ok hr_1) ?_
  refine fi h F (fun h _ F => ?_) (fun h _ F => ?_)
  refine bi h fun r_2 h hr_2 => ?_
  refine tt ?_
  repeat (with_reducible first | intro _ | refine ⟨ss, ?_⟩)
  refine cS (lazarettolaw10_awake_ok hr_2) ?_
  cases h; exact fin
  refine bi h fun r_3 h hr_3 => ?_
  refine tt ?_
  repeat (with_reducible first | intro _ | refine ⟨ss, ?_⟩)
  refine cD (names_Var_ok hr_3) ?_
  refine bi h fun r_4 h hr_4 => ?_
  refine tt ?_
  repeat (with_reducible first | intro _ | refine ⟨ss, ?_⟩)
  refine cD (lazarettoref10_Var_ok hr_4) ?_
  refine tt ?_
  repeat (with_reducible first | intro _ | refine ⟨ss, ?_⟩)
  refine fi h F (fun h _ F => ?_) (fun h _ F => ?_)
  refine bi h fun r_5 h hr_5 => ?_
  refine tt ?_
  repeat (with_reducible first | intro _ | refine ⟨ss, ?_⟩)
  refine cD (names_Block_ok hr_5) ?_
  refine bi h fun r_6 h hr_6 => ?_
  refine tt ?_
  repeat (with_reducible first | intro _ | refine ⟨ss, ?_⟩)
  refine cD (lazarettoref10_Block_ok hr_6) ?_
  refine tt ?_
  repeat (with_reducible first | intro _ | refine ⟨ss, ?_⟩)
  refine fi h F (fun h _ F => ?_) (fun h _ F => ?_)
  refine bi h fun r_7 h hr_7 => ?_
  refine tt ?_
  repeat (with_reducible first | intro _ | refine ⟨ss, ?_⟩)
  refine cD (names_Site_ok hr_7) ?_
  refine bi h fun r_8 h hr_8 => ?_
  refine tt ?_
  repeat (with_reducible first | intro _ | refine ⟨ss, ?_⟩)
  refine cD (lazarettoref10_Site_ok hr_8) ?_
  refine tt ?_
  repeat (with_reducible first | intro _ | refine ⟨ss, ?_⟩)
  refine fi h F (fun h _ F => ?_) (fun h _ F => ?_)
  refine bi h fun r_9 h hr_9 => ?_
  refine tt ?_
  repeat (with_reducible first | intro _ | refine ⟨ss, ?_⟩)
  refine cD (lazarettolaw10_awake_ok hr_9) ?_
  cases h; exact fin
  cases h; exact fin
  cases h; exact fin
  cases h; exact fin
theorem lazarettolaw10_NamesOne_ok {p : api_Program} {name : Str} {r : Bool} (h : lazarettolaw10_NamesOne p name = some r) :
    Pu Try.prog 7 [.agg (e_api_Program p), .one (.str name)] (.one (.bool r)) := by
  have F := trivial; have R := trivial
  refine pA Try.func7 ?_
  simp only [Try.f7]
  unfold lazarettolaw10_NamesOne at h
  refine bi h fun r_1 h hr_1 => ?_
  refine tt ?_
  repeat (with_reducible first | intro _ | refine ⟨ss, ?_⟩)
  refine cS (lazarettolaw08_Few_ok hr_1) ?_
  refine fi h F (fun h _ F => ?_) (fun h _ F => ?_)
  refine bi h fun r_2 h hr_2 => ?_
  refine tt ?_
  repeat (with_reducible first | intro _ | refine ⟨ss, ?_⟩)
  refine cS (lazarettolaw10_awake_ok hr_2) ?_
  cases h; exact fin
  refine bi h fun r_3 h hr_3 => ?_
  refine tt ?_
  repeat (with_reducible first | intro _ | refine ⟨ss, ?_⟩)
  refine cS (names_Check_ok hr_3) ?_
  refine fi h F (fun h _ F => ?_) (fun h _ F => ?_)
  refine bi h fun r_4 h hr_4 => ?_
  refine tt ?_
  repeat (with_reducible first | intro _ | refine ⟨ss, ?_⟩)
  refine cS (names_Var_ok hr_4) ?_
  refine fi h F (fun h _ F => ?_) (fun h _ F => ?_)
  refine bi h fun r_5 h hr_5 => ?_
  refine tt ?_
  repeat (with_reducible first | intro _ | refine ⟨ss, ?_⟩)
  refine cS (names_Block_ok hr_5) ?_
  refine fi h F (fun h _ F => ?_) (fun h _ F => ?_)
  refine bi h fun r_6 h hr_6 => ?_
  refine tt ?_
  repeat (with_reducible first | intro _ | refine ⟨ss, ?_⟩)
  refine cS (names_Site_ok hr_6) ?_
  refine fi h F (fun h _ F => ?_) (fun h _ F => ?_)
  cases h; exact fin
  cases h; exact fin
  refine bi h fun r_7 h hr_7 => ?_
  refine tt ?_
  repeat (with_reducible first | intro _ | refine ⟨ss, ?_⟩)
  refine cS (names_Site_ok hr_7) ?_
  refine fi h F (fun h _ F => ?_) (fun h _ F => ?_)
  cases h; exact fin
  refine bi h fun r_8 h hr_8 => ?_
  refine tt ?_
  repeat (with_reducible first | intro _ | refine ⟨ss, ?_⟩)
  refine cS (lazarettolaw10_awake_ok hr_8) ?_
  cases h; exact fin
  refine bi h fun r_9 h hr_9 => ?_
  refine tt ?_
  repeat (with_reducible first | intro _ | refine ⟨ss, ?_⟩)
  refine cS (names_Block_ok hr_9) ?_
  refine fi h F (fun h _ F => ?_) (fun h _ F => ?_)
  refine bi h fun r_10 h hr_10 => ?_
  refine tt ?_
  repeat (with_reducible first | intro _ | refine ⟨ss, ?_⟩)
  refine cS (names_Site_ok hr_10) ?_
  refine fi h F (fun h _ F => ?_) (fun h _ F => ?_)
  cases h; exact fin
  refine bi h fun r_11 h hr_11 => ?_
  refine tt ?_
  repeat (with_reducible first | intro _ | refine ⟨ss, ?_⟩)
  refine cS (lazarettolaw10_awake_ok hr_11) ?_
  cases h; exact fin
  refine bi h fun r_12 h hr_12 => ?_
  refine tt ?_
  repeat (with_reducible first | intro _ | refine ⟨ss, ?_⟩)
  refine cS (names_Site_ok hr_12) ?_
  refine fi h F (fun h _ F => ?_) (fun h _ F => ?_)
  refine bi h fun r_13 h hr_13 => ?_
  refine tt ?_
  repeat (with_reducible first | intro _ | refine ⟨ss, ?_⟩)
  refine cS (lazarettolaw10_awake_ok hr_13) ?_
  cases h; exact fin
  refine bi h fun r_14 h hr_14 => ?_
  refine tt ?_
  repeat (with_reducible first | intro _ | refine ⟨ss, ?_⟩)
  refine cS (lazarettolaw10_awake_ok hr_14) ?_
  cases h; exact fin
  refine bi h fun r_15 h hr_15 => ?_
  refine tt ?_
  repeat (with_reducible first | intro _ | refine ⟨ss, ?_⟩)
  refine cS (lazarettolaw10_awake_ok hr_15) ?_
  cases h; exact fin
theorem lazarettolaw10_NamesMore_ok {p : api_Program} {name : Str} {r : Bool} (h : lazarettolaw10_NamesMore p name = some r) :
    Pu Try.prog 8 [.agg (e_api_Program p), .one (.str name)] (.one (.bool r)) := by
  have F := trivial; have R := trivial
  refine pA Try.func8 ?_
  simp only [Try.f8]
  unfold lazarettolaw10_NamesMore at h
  refine bi h fun r_1 h hr_1 => ?_
  refine tt ?_
  repeat (with_reducible first | intro _ | refine ⟨ss, ?_⟩)
  refine cS (lazarettolaw08_Few_ok hr_1) ?_
  refine fi h F (fun h _ F => ?_) (fun h _ F => ?_)
  refine bi h fun r_2 h hr_2 => ?_
  refine tt ?_
  repeat (with_reducible first | intro _ | refine ⟨ss, ?_⟩)
  refine cS (lazarettolaw10_awake_ok hr_2) ?_
  cases h; exact fin
  refine bi h fun r_3 h hr_3 => ?_
  refine tt ?_
  repeat (with_reducible first | intro _ | refine ⟨ss, ?_⟩)
  refine cS (names_Check_ok hr_3) ?_
  refine fi h F (fun h _ F => ?_) (fun h _ F => ?_)
  refine tt ?_
  repeat (with_reducible first | intro _ | refine ⟨ss, ?_⟩)
  refine fv h F (fun h _ F => ?_) (fun h _ F => ?_)
  refine bi h fun r_4 h hr_4 => ?_
  refine tt ?_
  repeat (with_reducible first | intro _ | refine ⟨ss, ?_⟩)
  refine cS (names_Var_ok hr_4) ?_
  refine fi h F (fun h _ F => ?_) (fun h _ F => ?_)
  refine bi h fun r_5 h hr_5 => ?_
  refine tt ?_
  repeat (with_reducible first | intro _ | refine ⟨ss, ?_⟩)
  refine cS (names_Check_ok hr_5) ?_
  refine fi h F (fun h _ F => ?_) (fun h _ F => ?_)
  refine bi h fun r_6 h hr_6 => ?_
  refine tt ?_
  repeat (with_reducible first | intro _ | refine ⟨ss, ?_⟩)
  refine cS (lazarettolaw10_awake_ok hr_6) ?_
  cases h; exact fin
  cases h; exact fin
  refine bi h fun r_7 h hr_7 => ?_
  refine tt ?_
  repeat (with_reducible first | intro _ | refine ⟨ss, ?_⟩)
  refine cS (names_Block_ok hr_7) ?_
  refine fi h F (fun h _ F => ?_) (fun h _ F => ?_)
  refine bi h fun r_8 h hr_8 => ?_
  refine tt ?_
  repeat (with_reducible first | intro _ | refine ⟨ss, ?_⟩)
  refine cS (names_Check_ok hr_8) ?_
  refine fi h F (fun h _ F => ?_) (fun h _ F => ?_)
  refine bi h fun r_9 h hr_9 => ?_
  refine tt ?_
  repeat (with_reducible first | intro _ | refine ⟨ss, ?_⟩)
  refine cS (lazarettolaw10_awake_ok hr_9) ?_
  cases h; exact fin
  cases h; exact fin
  refine bi h fun r_10 h hr_10 => ?_
  refine tt ?_
  repeat (with_reducible first | intro _ | refine ⟨ss, ?_⟩)
  refine cS (names_Site_ok hr_10) ?_
  refine fi h F (fun h _ F => ?_) (fun h _ F => ?_)
  refine bi h fun r_11 h hr_11 => ?_
  refine tt ?_
  repeat (with_reducible first | intro _ | refine ⟨ss, ?_⟩)
  refine cS (names_Check_ok hr_11) ?_
  refine fi h F (fun h _ F => ?_) (fun h _ F => ?_)
  refine bi h fun r_12 h hr_12 => ?_
  refine tt ?_
  repeat (with_reducible first | intro _ | refine ⟨ss, ?_⟩)
  refine cS (lazarettolaw10_awake_ok hr_12) ?_
  cases h; exact fin
  cases h; exact fin
  refine bi h fun r_13 h hr_13 => ?_
  refine tt ?_
  repeat (with_reducible first | intro _ | refine ⟨ss, ?_⟩)
  refine cD (names_Check_ok hr_13) ?_
  refine tt ?_
  repeat (with_reducible first | intro _ | refine ⟨ss, ?_⟩)
  refine fi h F (fun h _ F => ?_) (fun h _ F => ?_)
  refine bi h fun r_14 h hr_14 => ?_
  refine tt ?_
  repeat (with_reducible first | intro _ | refine ⟨ss, ?_⟩)
  refine cD (names_Var_ok hr_14) ?_
  refine tt ?_
  repeat (with_reducible first | intro _ | refine ⟨ss, ?_⟩)
  refine fi h F (fun h _ F => ?_) (fun h _ F => ?_)
  refine bi h fun r_15 h hr_15 => ?_
  refine tt ?_
  repeat (with_reducible first | intro _ | refine ⟨ss, ?_⟩)
  refine cD (lazarettolaw10_awake_ok hr_15) ?_
  cases h; exact fin
  cases h; exact fin
  cases h; exact fin
  refine nd h F fun h F => ?_
  refine bi h fun r_17 h hr_17 => ?_
  refine tt ?_
  repeat (with_reducible first | intro _ | refine ⟨ss, ?_⟩)
  refine cS (names_Var_ok hr_17) ?_
  refine fi h F (fun h _ F => ?_) (fun h _ F => ?_)
  refine bi h fun r_18 h hr_18 => ?_
  refine tt ?_
  repeat (with_reducible first | intro _ | refine ⟨ss, ?_⟩)
  refine cS (names_Check_ok hr_18) ?_
  refine fi h F (fun h _ F => ?_) (fun h _ F => ?_)
  refine bi h fun r_19 h hr_19 => ?_
  refine tt ?_
  repeat (with_reducible first | intro _ | refine ⟨ss, ?_⟩)
  refine cS (lazarettolaw10_awake_ok hr_19) ?_
  cases h; exact fin
  cases h; exact fin
  refine bi h fun r_20 h hr_20 => ?_
  refine tt ?_
  repeat (with_reducible first | intro _ | refine ⟨ss, ?_⟩)
  refine cS (names_Block_ok hr_20) ?_
  refine fi h F (fun h _ F => ?_) (fun h _ F => ?_)
  refine bi h fun r_21 h hr_21 => ?_
  refine tt ?_
  repeat (with_reducible first | intro _ | refine ⟨ss, ?_⟩)
  refine cS (names_Check_ok hr_21) ?_
  refine fi h F (fun h _ F => ?_) (fun h _ F => ?_)
  refine bi h fun r_22 h hr_22 => ?_
  refine tt ?_
  repeat (with_reducible first | intro _ | refine ⟨ss, ?_⟩)
  refine cS (lazarettolaw10_awake_ok hr_22) ?_
  cases h; exact fin
  cases h; exact fin
  refine bi h fun r_23 h hr_23 => ?_
  refine tt ?_
  repeat (with_reducible first | intro _ | refine ⟨ss, ?_⟩)
  refine cS (names_Site_ok hr_23) ?_
  refine fi h F (fun h _ F => ?_) (fun h _ F => ?_)
  refine bi h fun r_24 h hr_24 => ?_
  refine tt ?_
  repeat (with_reducible first | intro _ | refine ⟨ss, ?_⟩)
  refine cS (names_Check_ok hr_24) ?_
  refine fi h F (fun h _ F => ?_) (fun h _ F => ?_)
  refine bi h fun r_25 h hr_25 => ?_
  refine tt ?_
  repeat (with_reducible first | intro _ | refine ⟨ss, ?_⟩)
  refine cS (lazarettolaw10_awake_ok hr_25) ?_
  cases h; exact fin
  cases h; exact fin
  refine bi h fun r_26 h hr_26 => ?_
  refine tt ?_
  repeat (with_reducible first | intro _ | refine ⟨ss, ?_⟩)
  refine cD (names_Check_ok hr_26) ?_
  refine tt ?_
  repeat (with_reducible first | intro _ | refine ⟨ss, ?_⟩)
  refine fi h F (fun h _ F => ?_) (fun h _ F => ?_)
  refine bi h fun r_27 h hr_27 => ?_
  refine tt ?_
  repeat (with_reducible first | intro _ | refine ⟨ss, ?_⟩)
  refine cD (names_Var_ok hr_27) ?_
  refine tt ?_
  repeat (with_reducible first | intro _ | refine ⟨ss, ?_⟩)
  refine fi h F (fun h _ F => ?_) (fun h _ F => ?_)
  refine bi h fun r_28 h hr_28 => ?_
  refine tt ?_
  repeat (with_reducible first | intro _ | refine ⟨ss, ?_⟩)
  refine cD (lazarettolaw10_awake_ok hr_28) ?_
  cases h; exact fin
  cases h; exact fin
  cases h; exact fin
  refine bi h fun r_29 h hr_29 => ?_
  refine tt ?_
  repeat (with_reducible first | intro _ | refine ⟨ss, ?_⟩)
  refine cS (lazarettolaw10_awake_ok hr_29) ?_
  cases h; exact fin
end Go.Lz
