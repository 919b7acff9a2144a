/- V10 -/
import Derived.Test.YtmgedefdjobgdaaGreatV08
namespace Go.Lz
set_option linter.unusedVariables false
set_option linter.unusedSimpArgs false
open Go.Proofs
attribute [-go_sem] q_cond g_b gd_b
set_option maxRecDepth 100000
set_option maxHeartbeats 4000000
noncomputable section
def lazarettoref10_Var_L1 (p : api_Program) (name : Str) : Nat → Option ((Nat) ⊕ (Int ⊕ Unit))
  | i_1 => if (i_1 : Int) < (p.Vars.length : Int) then ((p.Vars[i_1]?).bind fun x_4 => if x_4.Name = name then (some (.inr (.inl ((i_1 : Int))))) else (some (.inl (i_1 + 1)))) else (some (.inr (.inr (()))))
def lazarettoref10_Var (p : api_Program) (name : Str) : Option Int :=
  (loop (lazarettoref10_Var_L1 p name) 0).bind (fun e__ => match e__ with | (.inl e_5) => some e_5 | (.inr ()) => some (-1))
def lazarettoref10_Block_L1 (p : api_Program) (name : Str) : Nat → Option ((Nat) ⊕ (Int ⊕ Unit))
  | i_1 => if (i_1 : Int) < (p.Blocks.length : Int) then ((p.Blocks[i_1]?).bind fun x_4 => if x_4.Name = name then (some (.inr (.inl ((i_1 : Int))))) else (some (.inl (i_1 + 1)))) else (some (.inr (.inr (()))))
def lazarettoref10_Block (p : api_Program) (name : Str) : Option Int :=
  (loop (lazarettoref10_Block_L1 p name) 0).bind (fun e__ => match e__ with | (.inl e_5) => some e_5 | (.inr ()) => some (-1))
def lazarettoref10_Site_L1 (p : api_Program) (name : Str) : Nat → Option ((Nat) ⊕ (Int ⊕ Unit))
  | i_1 => if (i_1 : Int) < (p.Sites.length : Int) then ((p.Sites[i_1]?).bind fun x_4 => if x_4.Name = name then (some (.inr (.inl ((i_1 : Int))))) else (some (.inl (i_1 + 1)))) else (some (.inr (.inr (()))))
def lazarettoref10_Site (p : api_Program) (name : Str) : Option Int :=
  (loop (lazarettoref10_Site_L1 p name) 0).bind (fun e__ => match e__ with | (.inl e_5) => some e_5 | (.inr ()) => some (-1))
def lazarettoref10_term_b (lazarettoref10_term_r : api_Program → api_Expr → Option Bool) (lazarettoref10_terms_r : api_Program → (List api_Expr) → Option Bool) (p : api_Program) (e : api_Expr) : Option Bool :=
  if e.Op = 2 then ((lazarettoref10_Var p e.Name).bind fun r_1 => if r_1 < 0 then (some false) else ((lazarettoref10_terms_r p e.Args).bind fun r_2 => some r_2)) else (if e.Op = 3 then ((lazarettoref10_Var p e.Name).bind fun r_3 => if r_3 < 0 then (some false) else ((lazarettoref10_terms_r p e.Args).bind fun r_4 => some r_4)) else (if e.Op = 4 then ((lazarettoref10_Block p e.Name).bind fun r_5 => if r_5 < 0 then (some false) else ((lazarettoref10_terms_r p e.Args).bind fun r_6 => some r_6)) else (if e.Op = 21 then ((lazarettoref10_Site p e.Name).bind fun r_7 => if r_7 < 0 then (some false) else ((lazarettoref10_terms_r p e.Args).bind fun r_8 => some r_8)) else ((lazarettoref10_terms_r p e.Args).bind fun r_9 => some r_9))))
def lazarettoref10_terms_L1 (lazarettoref10_term_r : api_Program → api_Expr → Option Bool) (p : api_Program) (l : List api_Expr) : Nat → Option ((Nat) ⊕ (Bool ⊕ Unit))
  | i_1 => if (i_1 : Int) < (l.length : Int) then ((l[i_1]?).bind fun x_4 => (lazarettoref10_term_r p x_4).bind fun r_5 => if r_5 = true then (some (.inl (i_1 + 1))) else (some (.inr (.inl (false))))) else (some (.inr (.inr (()))))
def lazarettoref10_terms_b (lazarettoref10_term_r : api_Program → api_Expr → Option Bool) (lazarettoref10_terms_r : api_Program → (List api_Expr) → Option Bool) (p : api_Program) (l : List api_Expr) : Option Bool :=
  (loop (lazarettoref10_terms_L1 lazarettoref10_term_r p l) 0).bind (fun e__ => match e__ with | (.inl e_6) => some e_6 | (.inr ()) => some true)
def lazarettoref10_term_g : Nat → (api_Program → api_Expr → Option Bool) × (api_Program → (List api_Expr) → Option Bool)
  | 0 => (fun _ _ => none, fun _ _ => none)
  | n + 1 => (lazarettoref10_term_b (lazarettoref10_term_g n).1 (lazarettoref10_term_g n).2, lazarettoref10_terms_b (lazarettoref10_term_g n).1 (lazarettoref10_term_g n).2)
def lazarettoref10_term_n (n : Nat) (p : api_Program) (e : api_Expr) : Option Bool := (lazarettoref10_term_g n).1 p e
def lazarettoref10_term (p : api_Program) (e : api_Expr) : Option Bool := lazarettoref10_term_n 1000000 p e
def lazarettoref10_terms_n (n : Nat) (p : api_Program) (l : List api_Expr) : Option Bool := (lazarettoref10_term_g n).2 p l
def lazarettoref10_terms (p : api_Program) (l : List api_Expr) : Option Bool := lazarettoref10_terms_n 1000000 p l
def lazarettoref10_stmts_L1 (lazarettoref10_stmts_r : api_Program → (List api_Stmt) → Option Bool) (p : api_Program) (l : List api_Stmt) : Nat → Option ((Nat) ⊕ (Bool ⊕ Unit))
  | i_1 => if (i_1 : Int) < (l.length : Int) then ((l[i_1]?).bind fun x_4 => if x_4.Kind = 4 then ((lazarettoref10_Var p x_4.Name).bind fun r_5 => if r_5 < 0 then (some (.inr (.inl (false)))) else (if x_4.Kind = 5 then none else ((lazarettoref10_term p x_4.Target).bind fun r_6 => if r_6 = true then ((lazarettoref10_term p x_4.Value).bind fun r_7 => if r_7 = true then ((lazarettoref10_terms p x_4.Args).bind fun r_8 => if r_8 = true then ((lazarettoref10_stmts_r p x_4.Body).bind fun r_9 => if r_9 = true then ((lazarettoref10_stmts_r p x_4.Else).bind fun r_10 => if r_10 = true then (some (.inl (i_1 + 1))) else (some (.inr (.inl (false))))) else (some (.inr (.inl (false))))) else (some (.inr (.inl (false))))) else (some (.inr (.inl (false))))) else (some (.inr (.inl (false))))))) else (if x_4.Kind = 5 then ((lazarettoref10_Block p x_4.Name).bind fun r_11 => if r_11 < 0 then (some (.inr (.inl (false)))) else ((lazarettoref10_term p x_4.Target).bind fun r_12 => if r_12 = true then ((lazarettoref10_term p x_4.Value).bind fun r_13 => if r_13 = true then ((lazarettoref10_terms p x_4.Args).bind fun r_14 => if r_14 = true then ((lazarettoref10_stmts_r p x_4.Body).bind fun r_15 => if r_15 = true then ((lazarettoref10_stmts_r p x_4.Else).bind fun r_16 => if r_16 = true then (some (.inl (i_1 + 1))) else (some (.inr (.inl (false))))) else (some (.inr (.inl (false))))) else (some (.inr (.inl (false))))) else (some (.inr (.inl (false))))) else (some (.inr (.inl (false)))))) else ((lazarettoref10_term p x_4.Target).bind fun r_17 => if r_17 = true then ((lazarettoref10_term p x_4.Value).bind fun r_18 => if r_18 = true then ((lazarettoref10_terms p x_4.Args).bind fun r_19 => if r_19 = true then ((lazarettoref10_stmts_r p x_4.Body).bind fun r_20 => if r_20 = true then ((lazarettoref10_stmts_r p x_4.Else).bind fun r_21 => if r_21 = true then (some (.inl (i_1 + 1))) else (some (.inr (.inl (false))))) else (some (.inr (.inl (false))))) else (some (.inr (.inl (false))))) else (some (.inr (.inl (false))))) else (some (.inr (.inl (false))))))) else (some (.inr (.inr (()))))
def lazarettoref10_stmts_b (lazarettoref10_stmts_r : api_Program → (List api_Stmt) → Option Bool) (p : api_Program) (l : List api_Stmt) : Option Bool :=
  (loop (lazarettoref10_stmts_L1 lazarettoref10_stmts_r p l) 0).bind (fun e__ => match e__ with | (.inl e_22) => some e_22 | (.inr ()) => some true)
def lazarettoref10_stmts_g : Nat → (api_Program → (List api_Stmt) → Option Bool)
  | 0 => fun _ _ => none
  | n + 1 => lazarettoref10_stmts_b (lazarettoref10_stmts_g n)
def lazarettoref10_stmts_n (n : Nat) (p : api_Program) (l : List api_Stmt) : Option Bool := (lazarettoref10_stmts_g n) p l
def lazarettoref10_stmts (p : api_Program) (l : List api_Stmt) : Option Bool := lazarettoref10_stmts_n 1000000 p l
def lazarettoref10_Check_L6 (p : api_Program) : Nat → Option ((Nat) ⊕ (Int ⊕ Unit))
  | i_38 => if (i_38 : Int) < (p.Tasks.length : Int) then ((p.Tasks[i_38]?).bind fun x_41 => (lazarettoref10_stmts p x_41.Body).bind fun r_42 => if r_42 = true then (some (.inl (i_38 + 1))) else (some (.inr (.inl (5))))) else (some (.inr (.inr (()))))
def lazarettoref10_Check_L5 (e_23 : List Str) (i_28 : Nat) : Nat → Option ((Nat) ⊕ (Int ⊕ Unit))
  | k_31 => if (k_31 : Int) < (i_28 : Int) then ((e_23[i_28]?).bind fun x_34 => (e_23[k_31]?).bind fun x_35 => if x_34 = x_35 then (some (.inr (.inl (5)))) else (some (.inl (k_31 + 1)))) else (some (.inr (.inr (()))))
def lazarettoref10_Check_L4 (e_23 : List Str) : Nat → Option ((Nat) ⊕ (Int ⊕ Unit))
  | i_28 => if (i_28 : Int) < (e_23.length : Int) then ((loop (lazarettoref10_Check_L5 e_23 i_28) 0).bind (fun e__ => match e__ with | (.inl e_36) => some (.inr (.inl (e_36))) | (.inr ()) => some (.inl (i_28 + 1)))) else (some (.inr (.inr (()))))
def lazarettoref10_Check_L3 (p : api_Program) : ((List Str) × Nat) → Option (((List Str) × Nat) ⊕ (List Str))
  | (l_20, i_22) => if (i_22 : Int) < (p.Sites.length : Int) then ((p.Sites[i_22]?).bind fun x_25 => need ((l_20.length + 1) * 16 ≤ 140737488355328) (some (.inl ((l_20 ++ [x_25.Name]), (i_22 + 1))))) else (some (.inr (l_20)))
def lazarettoref10_Check_L2 (p : api_Program) : ((List Str) × Nat) → Option (((List Str) × Nat) ⊕ (List Str))
  | (l_11, i_13) => if (i_13 : Int) < (p.Blocks.length : Int) then ((p.Blocks[i_13]?).bind fun x_16 => need ((l_11.length + 1) * 16 ≤ 140737488355328) (some (.inl ((l_11 ++ [x_16.Name]), (i_13 + 1))))) else (some (.inr (l_11)))
def lazarettoref10_Check_L1 (p : api_Program) : ((List Str) × Nat) → Option (((List Str) × Nat) ⊕ (List Str))
  | (l_2, i_4) => if (i_4 : Int) < (p.Vars.length : Int) then ((p.Vars[i_4]?).bind fun x_7 => need ((l_2.length + 1) * 16 ≤ 140737488355328) (some (.inl ((l_2 ++ [x_7.Name]), (i_4 + 1))))) else (some (.inr (l_2)))
def lazarettoref10_Check (p : api_Program) : Option Int :=
  (loop (lazarettoref10_Check_L1 p) ([], 0)).bind (fun e_5 => (loop (lazarettoref10_Check_L2 p) (e_5, 0)).bind (fun e_14 => (loop (lazarettoref10_Check_L3 p) (e_14, 0)).bind (fun e_23 => (loop (lazarettoref10_Check_L4 e_23) 0).bind (fun e__ => match e__ with | (.inl e_37) => some e_37 | (.inr ()) => (loop (lazarettoref10_Check_L6 p) 0).bind (fun e__ => match e__ with | (.inl e_43) => some e_43 | (.inr ()) => some 0)))))
def slices_IndexFunc_api_Var_api_Var_L1 (s : List api_Var) (f : (api_Var → Option Bool)) : Nat → Option ((Nat) ⊕ (Int ⊕ Unit))
  | x_1 => if (x_1 : Int) < (s.length : Int) then ((s[x_1]?).bind fun x_4 => (f x_4).bind fun r_5 => if r_5 = true then (some (.inr (.inl ((x_1 : Int))))) else (some (.inl (x_1 + 1)))) else (some (.inr (.inr (()))))
def slices_IndexFunc_api_Var_api_Var (s : List api_Var) (f : (api_Var → Option Bool)) : Option Int :=
  (loop (slices_IndexFunc_api_Var_api_Var_L1 s f) 0).bind (fun e__ => match e__ with | (.inl e_6) => some e_6 | (.inr ()) => some (-1))
def slices_IndexFunc_api_Block_api_Block_L1 (s : List api_Block) (f : (api_Block → Option Bool)) : Nat → Option ((Nat) ⊕ (Int ⊕ Unit))
  | x_1 => if (x_1 : Int) < (s.length : Int) then ((s[x_1]?).bind fun x_4 => (f x_4).bind fun r_5 => if r_5 = true then (some (.inr (.inl ((x_1 : Int))))) else (some (.inl (x_1 + 1)))) else (some (.inr (.inr (()))))
def slices_IndexFunc_api_Block_api_Block (s : List api_Block) (f : (api_Block → Option Bool)) : Option Int :=
  (loop (slices_IndexFunc_api_Block_api_Block_L1 s f) 0).bind (fun e__ => match e__ with | (.inl e_6) => some e_6 | (.inr ()) => some (-1))
def names_find_api_Var_1 (c0 : (api_Var → Option Str)) (c1 : Str) (x : api_Var) : Option Bool :=
  (c0 x).bind fun r_1 => some (decide (r_1 = c1))
def names_find_api_Var (l : List api_Var) (name : Str) (of : (api_Var → Option Str)) : Option Int :=
  (slices_IndexFunc_api_Var_api_Var l (names_find_api_Var_1 of name)).bind fun r_1 => some r_1
def names_Var_1 (v : api_Var) : Option Str :=
  some v.Name
def names_Var (p : api_Program) (name : Str) : Option Int :=
  (names_find_api_Var p.Vars name names_Var_1).bind fun r_1 => some r_1
def names_find_api_Block_1 (c0 : (api_Block → Option Str)) (c1 : Str) (x : api_Block) : Option Bool :=
  (c0 x).bind fun r_1 => some (decide (r_1 = c1))
def names_find_api_Block (l : List api_Block) (name : Str) (of : (api_Block → Option Str)) : Option Int :=
  (slices_IndexFunc_api_Block_api_Block l (names_find_api_Block_1 of name)).bind fun r_1 => some r_1
def names_Block_1 (b : api_Block) : Option Str :=
  some b.Name
def names_Block (p : api_Program) (name : Str) : Option Int :=
  (names_find_api_Block p.Blocks name names_Block_1).bind fun r_1 => some r_1
def slices_IndexFunc_api_Site_api_Site_L1 (s : List api_Site) (f : (api_Site → Option Bool)) : Nat → Option ((Nat) ⊕ (Int ⊕ Unit))
  | x_1 => if (x_1 : Int) < (s.length : Int) then ((s[x_1]?).bind fun x_4 => (f x_4).bind fun r_5 => if r_5 = true then (some (.inr (.inl ((x_1 : Int))))) else (some (.inl (x_1 + 1)))) else (some (.inr (.inr (()))))
def slices_IndexFunc_api_Site_api_Site (s : List api_Site) (f : (api_Site → Option Bool)) : Option Int :=
  (loop (slices_IndexFunc_api_Site_api_Site_L1 s f) 0).bind (fun e__ => match e__ with | (.inl e_6) => some e_6 | (.inr ()) => some (-1))
def names_find_api_Site_1 (c0 : (api_Site → Option Str)) (c1 : Str) (x : api_Site) : Option Bool :=
  (c0 x).bind fun r_1 => some (decide (r_1 = c1))
def names_find_api_Site (l : List api_Site) (name : Str) (of : (api_Site → Option Str)) : Option Int :=
  (slices_IndexFunc_api_Site_api_Site l (names_find_api_Site_1 of name)).bind fun r_1 => some r_1
def names_Site_1 (s : api_Site) : Option Str :=
  some s.Name
def names_Site (p : api_Program) (name : Str) : Option Int :=
  (names_find_api_Site p.Sites name names_Site_1).bind fun r_1 => some r_1
end
theorem lazarettoref10_Var_ok {p : api_Program} {name : Str} {r : Int} (h : lazarettoref10_Var p name = some r) :
    Pu Tryz.prog 39 [.agg (e_api_Program p), .one (.str name)] (.one (.int .i64 r)) := by
  have F := trivial; have R := trivial
  refine pA Tryz.func39 ?_
  simp only [Tryz.f39]
  unfold lazarettoref10_Var at h
  refine bi h fun e_2 h he_2 => ?_
  refine tt ?_
  refine lE (fun (s__ : Nat) (a__ : Unit) => match s__, a__ with | i_1, _ => ⟨[(1, .one (.str name)), (2, .one (.ref 0 0 0 0)), (5, .one (.int .i64 (i_1 : Int)))], [.cells 0 6 [[.sl (p.Lattice.Names.map eS), .sl (p.Lattice.Below.map (eA2 eI)), .sl (p.Sites.map e_api_Site), .sl (p.Vars.map e_api_Var), .sl (p.Blocks.map e_api_Block), .sl (p.Tasks.map e_api_Task)]]]⟩) (fun (e__ : Int ⊕ Unit) (b__ : Unit) => match e__, b__ with | (.inl e_5), _ => ⟨[], []⟩ | (.inr ()), _ => ⟨[], [.cells 0 6 [[.sl (p.Lattice.Names.map eS), .sl (p.Lattice.Below.map (eA2 eI)), .sl (p.Sites.map e_api_Site), .sl (p.Vars.map e_api_Var), .sl (p.Blocks.map e_api_Block), .sl (p.Tasks.map e_api_Task)]]]⟩) (fun (e__ : Int ⊕ Unit) => match e__ with | (.inl _) => none | (.inr _) => some 0) () he_2 ?_ ?_
  intro i3 b3 hi3
  rcases e_2 with e_case | ⟨⟩
  cases hi3
  obtain rfl := Option.some.inj hi3
  obtain ⟨⟩ := b3
  dsimp only at h ⊢
  cases h; exact fin
  intro af3 m3 i_1 a3 o3 hf3 ho3 ih3
  obtain ⟨⟩ := a3
  dsimp only [lazarettoref10_Var_L1] at hf3 ⊢
  refine tt ?_
  repeat (first | (with_reducible intro _) | (with_reducible refine and_i ?_ ?_; exact ss))
  refine fl hf3 F (fun hf3 _ F => ?_) (fun hf3 _ F => ?_)
  refine bx hf3 F fun x_4 hf3 hx_4 F => ?_
  refine tt ?_
  repeat (first | (with_reducible intro _) | (with_reducible refine and_i ?_ ?_; exact ss))
  refine fi hf3 F (fun hf3 _ F => ?_) (fun hf3 _ F => ?_)
  cases hf3
  obtain rfl := sr ho3
  try dsimp only at h
  cases h
  exact fin
  cases hf3
  refine tt ?_
  refine wn i_1 F fun F => ?_
  exact bk ih3 ho3 ()
  cases hf3
  refine tt ?_
  exact xt ho3 af3 ()
theorem lazarettoref10_Block_ok {p : api_Program} {name : Str} {r : Int} (h : lazarettoref10_Block p name = some r) :
    Pu Tryz.prog 40 [.agg (e_api_Program p), .one (.str name)] (.one (.int .i64 r)) := by
  have F := trivial; have R := trivial
  refine pA Tryz.func40 ?_
  simp only [Tryz.f40]
  unfold lazarettoref10_Block at h
  refine bi h fun e_2 h he_2 => ?_
  refine tt ?_
  refine lE (fun (s__ : Nat) (a__ : Unit) => match s__, a__ with | i_1, _ => ⟨[(1, .one (.str name)), (2, .one (.ref 0 0 0 0)), (5, .one (.int .i64 (i_1 : Int)))], [.cells 0 6 [[.sl (p.Lattice.Names.map eS), .sl (p.Lattice.Below.map (eA2 eI)), .sl (p.Sites.map e_api_Site), .sl (p.Vars.map e_api_Var), .sl (p.Blocks.map e_api_Block), .sl (p.Tasks.map e_api_Task)]]]⟩) (fun (e__ : Int ⊕ Unit) (b__ : Unit) => match e__, b__ with | (.inl e_5), _ => ⟨[], []⟩ | (.inr ()), _ => ⟨[], [.cells 0 6 [[.sl (p.Lattice.Names.map eS), .sl (p.Lattice.Below.map (eA2 eI)), .sl (p.Sites.map e_api_Site), .sl (p.Vars.map e_api_Var), .sl (p.Blocks.map e_api_Block), .sl (p.Tasks.map e_api_Task)]]]⟩) (fun (e__ : Int ⊕ Unit) => match e__ with | (.inl _) => none | (.inr _) => some 0) () he_2 ?_ ?_
  intro i3 b3 hi3
  rcases e_2 with e_case | ⟨⟩
  cases hi3
  obtain rfl := Option.some.inj hi3
  obtain ⟨⟩ := b3
  dsimp only at h ⊢
  cases h; exact fin
  intro af3 m3 i_1 a3 o3 hf3 ho3 ih3
  obtain ⟨⟩ := a3
  dsimp only [lazarettoref10_Block_L1] at hf3 ⊢
  refine tt ?_
  repeat (first | (with_reducible intro _) | (with_reducible refine and_i ?_ ?_; exact ss))
  refine fl hf3 F (fun hf3 _ F => ?_) (fun hf3 _ F => ?_)
  refine bx hf3 F fun x_4 hf3 hx_4 F => ?_
  refine tt ?_
  repeat (first | (with_reducible intro _) | (with_reducible refine and_i ?_ ?_; exact ss))
  refine fi hf3 F (fun hf3 _ F => ?_) (fun hf3 _ F => ?_)
  cases hf3
  obtain rfl := sr ho3
  try dsimp only at h
  cases h
  exact fin
  cases hf3
  refine tt ?_
  refine wn i_1 F fun F => ?_
  exact bk ih3 ho3 ()
  cases hf3
  refine tt ?_
  exact xt ho3 af3 ()
theorem lazarettoref10_Site_ok {p : api_Program} {name : Str} {r : Int} (h : lazarettoref10_Site p name = some r) :
    Pu Tryz.prog 42 [.agg (e_api_Program p), .one (.str name)] (.one (.int .i64 r)) := by
  have F := trivial; have R := trivial
  refine pA Tryz.func42 ?_
  simp only [Tryz.f42]
  unfold lazarettoref10_Site at h
  refine bi h fun e_2 h he_2 => ?_
  refine tt ?_
  refine lE (fun (s__ : Nat) (a__ : Unit) => match s__, a__ with | i_1, _ => ⟨[(1, .one (.str name)), (2, .one (.ref 0 0 0 0)), (5, .one (.int .i64 (i_1 : Int)))], [.cells 0 6 [[.sl (p.Lattice.Names.map eS), .sl (p.Lattice.Below.map (eA2 eI)), .sl (p.Sites.map e_api_Site), .sl (p.Vars.map e_api_Var), .sl (p.Blocks.map e_api_Block), .sl (p.Tasks.map e_api_Task)]]]⟩) (fun (e__ : Int ⊕ Unit) (b__ : Unit) => match e__, b__ with | (.inl e_5), _ => ⟨[], []⟩ | (.inr ()), _ => ⟨[], [.cells 0 6 [[.sl (p.Lattice.Names.map eS), .sl (p.Lattice.Below.map (eA2 eI)), .sl (p.Sites.map e_api_Site), .sl (p.Vars.map e_api_Var), .sl (p.Blocks.map e_api_Block), .sl (p.Tasks.map e_api_Task)]]]⟩) (fun (e__ : Int ⊕ Unit) => match e__ with | (.inl _) => none | (.inr _) => some 0) () he_2 ?_ ?_
  intro i3 b3 hi3
  rcases e_2 with e_case | ⟨⟩
  cases hi3
  obtain rfl := Option.some.inj hi3
  obtain ⟨⟩ := b3
  dsimp only at h ⊢
  cases h; exact fin
  intro af3 m3 i_1 a3 o3 hf3 ho3 ih3
  obtain ⟨⟩ := a3
  dsimp only [lazarettoref10_Site_L1] at hf3 ⊢
  refine tt ?_
  repeat (first | (with_reducible intro _) | (with_reducible refine and_i ?_ ?_; exact ss))
  refine fl hf3 F (fun hf3 _ F => ?_) (fun hf3 _ F => ?_)
  refine bx hf3 F fun x_4 hf3 hx_4 F => ?_
  refine tt ?_
  repeat (first | (with_reducible intro _) | (with_reducible refine and_i ?_ ?_; exact ss))
  refine fi hf3 F (fun hf3 _ F => ?_) (fun hf3 _ F => ?_)
  cases hf3
  obtain rfl := sr ho3
  try dsimp only at h
  cases h
  exact fin
  cases hf3
  refine tt ?_
  refine wn i_1 F fun F => ?_
  exact bk ih3 ho3 ()
  cases hf3
  refine tt ?_
  exact xt ho3 af3 ()
theorem lazarettoref10_term_b_ok {lazarettoref10_term_r : api_Program → api_Expr → Option Bool} {lazarettoref10_terms_r : api_Program → (List api_Expr) → Option Bool} {p : api_Program} {e : api_Expr} {r : Bool}
    (lazarettoref10_term_r_ok : ∀ (x0 : api_Program) (x1 : api_Expr) (r : Bool), lazarettoref10_term_r x0 x1 = some r → Pu Tryz.prog 79 [.agg (e_api_Program x0), .agg (e_api_Expr x1)] (.one (.bool r)))
    (lazarettoref10_terms_r_ok : ∀ (x0 : api_Program) (x1 : List api_Expr) (r : Bool), lazarettoref10_terms_r x0 x1 = some r → Pu Tryz.prog 80 [.agg (e_api_Program x0), .one (.sl (x1.map e_api_Expr))] (.one (.bool r))) (h : lazarettoref10_term_b lazarettoref10_term_r lazarettoref10_terms_r p e = some r) :
    Pu Tryz.prog 79 [.agg (e_api_Program p), .agg (e_api_Expr e)] (.one (.bool r)) := by
  have F := trivial; have R := trivial
  refine pA Tryz.func79 ?_
  simp only [Tryz.f79]
  unfold lazarettoref10_term_b at h
  refine tt ?_
  refine fi h F (fun h _ F => ?_) (fun h _ F => ?_)
  refine bi h fun r_1 h hr_1 => ?_
  refine tt ?_
  repeat (first | (with_reducible intro _) | (with_reducible refine and_i ?_ ?_; exact ss))
  refine cS (lazarettoref10_Var_ok hr_1) ?_
  refine fi h F (fun h _ F => ?_) (fun h _ F => ?_)
  cases h; exact fin
  refine bi h fun r_2 h hr_2 => ?_
  refine tt ?_
  repeat (first | (with_reducible intro _) | (with_reducible refine and_i ?_ ?_; exact ss))
  refine cS (lazarettoref10_terms_r_ok _ _ _ hr_2) ?_
  cases h; exact fin
  refine fi h F (fun h _ F => ?_) (fun h _ F => ?_)
  refine bi h fun r_3 h hr_3 => ?_
  refine tt ?_
  repeat (first | (with_reducible intro _) | (with_reducible refine and_i ?_ ?_; exact ss))
  refine cS (lazarettoref10_Var_ok hr_3) ?_
  refine fi h F (fun h _ F => ?_) (fun h _ F => ?_)
  cases h; exact fin
  refine bi h fun r_4 h hr_4 => ?_
  refine tt ?_
  repeat (first | (with_reducible intro _) | (with_reducible refine and_i ?_ ?_; exact ss))
  refine cS (lazarettoref10_terms_r_ok _ _ _ hr_4) ?_
  cases h; exact fin
  refine fi h F (fun h _ F => ?_) (fun h _ F => ?_)
  refine bi h fun r_5 h hr_5 => ?_
  refine tt ?_
  repeat (first | (with_reducible intro _) | (with_reducible refine and_i ?_ ?_; exact ss))
  refine cS (lazarettoref10_Block_ok hr_5) ?_
  refine fi h F (fun h _ F => ?_) (fun h _ F => ?_)
  cases h; exact fin
  refine bi h fun r_6 h hr_6 => ?_
  refine tt ?_
  repeat (first | (with_reducible intro _) | (with_reducible refine and_i ?_ ?_; exact ss))
  refine cS (lazarettoref10_terms_r_ok _ _ _ hr_6) ?_
  cases h; exact fin
  refine fi h F (fun h _ F => ?_) (fun h _ F => ?_)
  refine bi h fun r_7 h hr_7 => ?_
  refine tt ?_
  repeat (first | (with_reducible intro _) | (with_reducible refine and_i ?_ ?_; exact ss))
  refine cS (lazarettoref10_Site_ok hr_7) ?_
  refine fi h F (fun h _ F => ?_) (fun h _ F => ?_)
  cases h; exact fin
  refine bi h fun r_8 h hr_8 => ?_
  refine tt ?_
  repeat (first | (with_reducible intro _) | (with_reducible refine and_i ?_ ?_; exact ss))
  refine cS (lazarettoref10_terms_r_ok _ _ _ hr_8) ?_
  cases h; exact fin
  refine bi h fun r_9 h hr_9 => ?_
  refine tt ?_
  repeat (first | (with_reducible intro _) | (with_reducible refine and_i ?_ ?_; exact ss))
  refine cS (lazarettoref10_terms_r_ok _ _ _ hr_9) ?_
  cases h; exact fin
theorem lazarettoref10_terms_b_ok {lazarettoref10_term_r : api_Program → api_Expr → Option Bool} {lazarettoref10_terms_r : api_Program → (List api_Expr) → Option Bool} {p : api_Program} {l : List api_Expr} {r : Bool}
    (lazarettoref10_term_r_ok : ∀ (x0 : api_Program) (x1 : api_Expr) (r : Bool), lazarettoref10_term_r x0 x1 = some r → Pu Tryz.prog 79 [.agg (e_api_Program x0), .agg (e_api_Expr x1)] (.one (.bool r)))
    (lazarettoref10_terms_r_ok : ∀ (x0 : api_Program) (x1 : List api_Expr) (r : Bool), lazarettoref10_terms_r x0 x1 = some r → Pu Tryz.prog 80 [.agg (e_api_Program x0), .one (.sl (x1.map e_api_Expr))] (.one (.bool r))) (h : lazarettoref10_terms_b lazarettoref10_term_r lazarettoref10_terms_r p l = some r) :
    Pu Tryz.prog 80 [.agg (e_api_Program p), .one (.sl (l.map e_api_Expr))] (.one (.bool r)) := by
  have F := trivial; have R := trivial
  refine pA Tryz.func80 ?_
  simp only [Tryz.f80]
  unfold lazarettoref10_terms_b at h
  refine bi h fun e_2 h he_2 => ?_
  refine tt ?_
  refine lE (fun (s__ : Nat) (a__ : Unit) => match s__, a__ with | i_1, _ => ⟨[(1, .one (.sl (l.map e_api_Expr))), (2, .one (.ref 0 0 0 0)), (5, .one (.int .i64 (i_1 : Int)))], [.cells 0 6 [[.sl (p.Lattice.Names.map eS), .sl (p.Lattice.Below.map (eA2 eI)), .sl (p.Sites.map e_api_Site), .sl (p.Vars.map e_api_Var), .sl (p.Blocks.map e_api_Block), .sl (p.Tasks.map e_api_Task)]]]⟩) (fun (e__ : Bool ⊕ Unit) (b__ : Unit) => match e__, b__ with | (.inl e_6), _ => ⟨[], []⟩ | (.inr ()), _ => ⟨[], [.cells 0 6 [[.sl (p.Lattice.Names.map eS), .sl (p.Lattice.Below.map (eA2 eI)), .sl (p.Sites.map e_api_Site), .sl (p.Vars.map e_api_Var), .sl (p.Blocks.map e_api_Block), .sl (p.Tasks.map e_api_Task)]]]⟩) (fun (e__ : Bool ⊕ Unit) => match e__ with | (.inl _) => none | (.inr _) => some 0) () he_2 ?_ ?_
  intro i3 b3 hi3
  rcases e_2 with e_case | ⟨⟩
  cases hi3
  obtain rfl := Option.some.inj hi3
  obtain ⟨⟩ := b3
  dsimp only at h ⊢
  cases h; exact fin
  intro af3 m3 i_1 a3 o3 hf3 ho3 ih3
  obtain ⟨⟩ := a3
  dsimp only [lazarettoref10_terms_L1] at hf3 ⊢
  refine tt ?_
  repeat (first | (with_reducible intro _) | (with_reducible refine and_i ?_ ?_; exact ss))
  refine fl hf3 F (fun hf3 _ F => ?_) (fun hf3 _ F => ?_)
  refine bx hf3 F fun x_4 hf3 hx_4 F => ?_
  refine bi hf3 fun r_5 hf3 hr_5 => ?_
  refine tt ?_
  repeat (first | (with_reducible intro _) | (with_reducible refine and_i ?_ ?_; exact ss))
  refine cD (lazarettoref10_term_r_ok _ _ _ hr_5) ?_
  refine tt ?_
  repeat (first | (with_reducible intro _) | (with_reducible refine and_i ?_ ?_; exact ss))
  refine fv hf3 F (fun hf3 _ F => ?_) (fun hf3 _ F => ?_)
  cases hf3
  refine tt ?_
  refine wn i_1 F fun F => ?_
  exact bk ih3 ho3 ()
  cases hf3
  obtain rfl := sr ho3
  try dsimp only at h
  cases h
  exact fin
  cases hf3
  refine tt ?_
  exact xt ho3 af3 ()
theorem lazarettoref10_term_g_ok (n : Nat) : (∀ (x0 : api_Program) (x1 : api_Expr) (r : Bool), (lazarettoref10_term_g n).1 x0 x1 = some r → Pu Tryz.prog 79 [.agg (e_api_Program x0), .agg (e_api_Expr x1)] (.one (.bool r))) ∧ (∀ (x0 : api_Program) (x1 : List api_Expr) (r : Bool), (lazarettoref10_term_g n).2 x0 x1 = some r → Pu Tryz.prog 80 [.agg (e_api_Program x0), .one (.sl (x1.map e_api_Expr))] (.one (.bool r))) := by
  induction n with
  | zero => exact ⟨fun _ _ r h => (by cases h), fun _ _ r h => (by cases h)⟩
  | succ n ih =>
    obtain ⟨ih0, ih1⟩ := ih
    exact ⟨fun _ _ r h => lazarettoref10_term_b_ok ih0 ih1 h, fun _ _ r h => lazarettoref10_terms_b_ok ih0 ih1 h⟩
theorem lazarettoref10_term_ok {p : api_Program} {e : api_Expr} {r : Bool} (h : lazarettoref10_term p e = some r) : Pu Tryz.prog 79 [.agg (e_api_Program p), .agg (e_api_Expr e)] (.one (.bool r)) := (lazarettoref10_term_g_ok 1000000).1 _ _ _ h
theorem lazarettoref10_terms_ok {p : api_Program} {l : List api_Expr} {r : Bool} (h : lazarettoref10_terms p l = some r) : Pu Tryz.prog 80 [.agg (e_api_Program p), .one (.sl (l.map e_api_Expr))] (.one (.bool r)) := (lazarettoref10_term_g_ok 1000000).2 _ _ _ h
theorem lazarettoref10_stmts_b_ok {lazarettoref10_stmts_r : api_Program → (List api_Stmt) → Option Bool} {p : api_Program} {l : List api_Stmt} {r : Bool}
    (lazarettoref10_stmts_r_ok : ∀ (x0 : api_Program) (x1 : List api_Stmt) (r : Bool), lazarettoref10_stmts_r x0 x1 = some r → Pu Tryz.prog 48 [.agg (e_api_Program x0), .one (.sl (x1.map e_api_Stmt))] (.one (.bool r))) (h : lazarettoref10_stmts_b lazarettoref10_stmts_r p l = some r) :
    Pu Tryz.prog 48 [.agg (e_api_Program p), .one (.sl (l.map e_api_Stmt))] (.one (.bool r)) := by
  have F := trivial; have R := trivial
  refine pA Tryz.func48 ?_
  simp only [Tryz.f48]
  unfold lazarettoref10_stmts_b at h
  refine bi h fun e_2 h he_2 => ?_
  refine tt ?_
  refine lE (fun (s__ : Nat) (a__ : Unit) => match s__, a__ with | i_1, _ => ⟨[(1, .one (.sl (l.map e_api_Stmt))), (2, .one (.ref 0 0 0 0)), (5, .one (.int .i64 (i_1 : Int)))], [.cells 0 6 [[.sl (p.Lattice.Names.map eS), .sl (p.Lattice.Below.map (eA2 eI)), .sl (p.Sites.map e_api_Site), .sl (p.Vars.map e_api_Var), .sl (p.Blocks.map e_api_Block), .sl (p.Tasks.map e_api_Task)]]]⟩) (fun (e__ : Bool ⊕ Unit) (b__ : Unit) => match e__, b__ with | (.inl e_22), _ => ⟨[], []⟩ | (.inr ()), _ => ⟨[], [.cells 0 6 [[.sl (p.Lattice.Names.map eS), .sl (p.Lattice.Below.map (eA2 eI)), .sl (p.Sites.map e_api_Site), .sl (p.Vars.map e_api_Var), .sl (p.Blocks.map e_api_Block), .sl (p.Tasks.map e_api_Task)]]]⟩) (fun (e__ : Bool ⊕ Unit) => match e__ with | (.inl _) => none | (.inr _) => some 0) () he_2 ?_ ?_
  intro i3 b3 hi3
  rcases e_2 with e_case | ⟨⟩
  cases hi3
  obtain rfl := Option.some.inj hi3
  obtain ⟨⟩ := b3
  dsimp only at h ⊢
  cases h; exact fin
  intro af3 m3 i_1 a3 o3 hf3 ho3 ih3
  obtain ⟨⟩ := a3
  dsimp only [lazarettoref10_stmts_L1] at hf3 ⊢
  refine tt ?_
  repeat (first | (with_reducible intro _) | (with_reducible refine and_i ?_ ?_; exact ss))
  refine fl hf3 F (fun hf3 _ F => ?_) (fun hf3 _ F => ?_)
  refine bx hf3 F fun x_4 hf3 hx_4 F => ?_
  refine tt ?_
  repeat (first | (with_reducible intro _) | (with_reducible refine and_i ?_ ?_; exact ss))
  refine fi hf3 F (fun hf3 _ F => ?_) (fun hf3 _ F => ?_)
  refine bi hf3 fun r_5 hf3 hr_5 => ?_
  refine tt ?_
  repeat (first | (with_reducible intro _) | (with_reducible refine and_i ?_ ?_; exact ss))
  refine cS (lazarettoref10_Var_ok hr_5) ?_
  refine fi hf3 F (fun hf3 _ F => ?_) (fun hf3 _ F => ?_)
  cases hf3
  obtain rfl := sr ho3
  try dsimp only at h
  cases h
  exact fin
  refine tt ?_
  refine fi hf3 F (fun hf3 _ F => ?_) (fun hf3 _ F => ?_)
  exact (by omega : False).elim
  refine bi hf3 fun r_6 hf3 hr_6 => ?_
  refine tt ?_
  repeat (first | (with_reducible intro _) | (with_reducible refine and_i ?_ ?_; exact ss))
  refine cS (lazarettoref10_term_ok hr_6) ?_
  refine fv hf3 F (fun hf3 _ F => ?_) (fun hf3 _ F => ?_)
  refine bi hf3 fun r_7 hf3 hr_7 => ?_
  refine tt ?_
  repeat (first | (with_reducible intro _) | (with_reducible refine and_i ?_ ?_; exact ss))
  refine cS (lazarettoref10_term_ok hr_7) ?_
  refine fv hf3 F (fun hf3 _ F => ?_) (fun hf3 _ F => ?_)
  refine bi hf3 fun r_8 hf3 hr_8 => ?_
  refine tt ?_
  repeat (first | (with_reducible intro _) | (with_reducible refine and_i ?_ ?_; exact ss))
  refine cS (lazarettoref10_terms_ok hr_8) ?_
  refine fv hf3 F (fun hf3 _ F => ?_) (fun hf3 _ F => ?_)
  refine bi hf3 fun r_9 hf3 hr_9 => ?_
  refine tt ?_
  repeat (first | (with_reducible intro _) | (with_reducible refine and_i ?_ ?_; exact ss))
  refine cS (lazarettoref10_stmts_r_ok _ _ _ hr_9) ?_
  refine fv hf3 F (fun hf3 _ F => ?_) (fun hf3 _ F => ?_)
  refine bi hf3 fun r_10 hf3 hr_10 => ?_
  refine tt ?_
  repeat (first | (with_reducible intro _) | (with_reducible refine and_i ?_ ?_; exact ss))
  refine cS (lazarettoref10_stmts_r_ok _ _ _ hr_10) ?_
  refine fv hf3 F (fun hf3 _ F => ?_) (fun hf3 _ F => ?_)
  cases hf3
  refine tt ?_
  refine wn i_1 F fun F => ?_
  exact bk ih3 ho3 ()
  cases hf3
  obtain rfl := sr ho3
  try dsimp only at h
  cases h
  exact fin
  cases hf3
  obtain rfl := sr ho3
  try dsimp only at h
  cases h
  exact fin
  cases hf3
  obtain rfl := sr ho3
  try dsimp only at h
  cases h
  exact fin
  cases hf3
  obtain rfl := sr ho3
  try dsimp only at h
  cases h
  exact fin
  cases hf3
  obtain rfl := sr ho3
  try dsimp only at h
  cases h
  exact fin
  refine fi hf3 F (fun hf3 _ F => ?_) (fun hf3 _ F => ?_)
  refine bi hf3 fun r_11 hf3 hr_11 => ?_
  refine tt ?_
  repeat (first | (with_reducible intro _) | (with_reducible refine and_i ?_ ?_; exact ss))
  refine cS (lazarettoref10_Block_ok hr_11) ?_
  refine fi hf3 F (fun hf3 _ F => ?_) (fun hf3 _ F => ?_)
  cases hf3
  obtain rfl := sr ho3
  try dsimp only at h
  cases h
  exact fin
  refine bi hf3 fun r_12 hf3 hr_12 => ?_
  refine tt ?_
  repeat (first | (with_reducible intro _) | (with_reducible refine and_i ?_ ?_; exact ss))
  refine cS (lazarettoref10_term_ok hr_12) ?_
  refine fv hf3 F (fun hf3 _ F => ?_) (fun hf3 _ F => ?_)
  refine bi hf3 fun r_13 hf3 hr_13 => ?_
  refine tt ?_
  repeat (first | (with_reducible intro _) | (with_reducible refine and_i ?_ ?_; exact ss))
  refine cS (lazarettoref10_term_ok hr_13) ?_
  refine fv hf3 F (fun hf3 _ F => ?_) (fun hf3 _ F => ?_)
  refine bi hf3 fun r_14 hf3 hr_14 => ?_
  refine tt ?_
  repeat (first | (with_reducible intro _) | (with_reducible refine and_i ?_ ?_; exact ss))
  refine cS (lazarettoref10_terms_ok hr_14) ?_
  refine fv hf3 F (fun hf3 _ F => ?_) (fun hf3 _ F => ?_)
  refine bi hf3 fun r_15 hf3 hr_15 => ?_
  refine tt ?_
  repeat (first | (with_reducible intro _) | (with_reducible refine and_i ?_ ?_; exact ss))
  refine cS (lazarettoref10_stmts_r_ok _ _ _ hr_15) ?_
  refine fv hf3 F (fun hf3 _ F => ?_) (fun hf3 _ F => ?_)
  refine bi hf3 fun r_16 hf3 hr_16 => ?_
  refine tt ?_
  repeat (first | (with_reducible intro _) | (with_reducible refine and_i ?_ ?_; exact ss))
  refine cS (lazarettoref10_stmts_r_ok _ _ _ hr_16) ?_
  refine fv hf3 F (fun hf3 _ F => ?_) (fun hf3 _ F => ?_)
  cases hf3
  refine tt ?_
  refine wn i_1 F fun F => ?_
  exact bk ih3 ho3 ()
  cases hf3
  obtain rfl := sr ho3
  try dsimp only at h
  cases h
  exact fin
  cases hf3
  obtain rfl := sr ho3
  try dsimp only at h
  cases h
  exact fin
  cases hf3
  obtain rfl := sr ho3
  try dsimp only at h
  cases h
  exact fin
  cases hf3
  obtain rfl := sr ho3
  try dsimp only at h
  cases h
  exact fin
  cases hf3
  obtain rfl := sr ho3
  try dsimp only at h
  cases h
  exact fin
  refine bi hf3 fun r_17 hf3 hr_17 => ?_
  refine tt ?_
  repeat (first | (with_reducible intro _) | (with_reducible refine and_i ?_ ?_; exact ss))
  refine cS (lazarettoref10_term_ok hr_17) ?_
  refine fv hf3 F (fun hf3 _ F => ?_) (fun hf3 _ F => ?_)
  refine bi hf3 fun r_18 hf3 hr_18 => ?_
  refine tt ?_
  repeat (first | (with_reducible intro _) | (with_reducible refine and_i ?_ ?_; exact ss))
  refine cS (lazarettoref10_term_ok hr_18) ?_
  refine fv hf3 F (fun hf3 _ F => ?_) (fun hf3 _ F => ?_)
  refine bi hf3 fun r_19 hf3 hr_19 => ?_
  refine tt ?_
  repeat (first | (with_reducible intro _) | (with_reducible refine and_i ?_ ?_; exact ss))
  refine cS (lazarettoref10_terms_ok hr_19) ?_
  refine fv hf3 F (fun hf3 _ F => ?_) (fun hf3 _ F => ?_)
  refine bi hf3 fun r_20 hf3 hr_20 => ?_
  refine tt ?_
  repeat (first | (with_reducible intro _) | (with_reducible refine and_i ?_ ?_; exact ss))
  refine cS (lazarettoref10_stmts_r_ok _ _ _ hr_20) ?_
  refine fv hf3 F (fun hf3 _ F => ?_) (fun hf3 _ F => ?_)
  refine bi hf3 fun r_21 hf3 hr_21 => ?_
  refine tt ?_
  repeat (first | (with_reducible intro _) | (with_reducible refine and_i ?_ ?_; exact ss))
  refine cS (lazarettoref10_stmts_r_ok _ _ _ hr_21) ?_
  refine fv hf3 F (fun hf3 _ F => ?_) (fun hf3 _ F => ?_)
  cases hf3
  refine tt ?_
  refine wn i_1 F fun F => ?_
  exact bk ih3 ho3 ()
  cases hf3
  obtain rfl := sr ho3
  try dsimp only at h
  cases h
  exact fin
  cases hf3
  obtain rfl := sr ho3
  try dsimp only at h
  cases h
  exact fin
  cases hf3
  obtain rfl := sr ho3
  try dsimp only at h
  cases h
  exact fin
  cases hf3
  obtain rfl := sr ho3
  try dsimp only at h
  cases h
  exact fin
  cases hf3
  obtain rfl := sr ho3
  try dsimp only at h
  cases h
  exact fin
  cases hf3
  refine tt ?_
  exact xt ho3 af3 ()
theorem lazarettoref10_stmts_g_ok (n : Nat) : (∀ (x0 : api_Program) (x1 : List api_Stmt) (r : Bool), (lazarettoref10_stmts_g n) x0 x1 = some r → Pu Tryz.prog 48 [.agg (e_api_Program x0), .one (.sl (x1.map e_api_Stmt))] (.one (.bool r))) := by
  induction n with
  | zero => exact fun _ _ r h => (by cases h)
  | succ n ih =>
    have ih0 := ih
    exact fun _ _ r h => lazarettoref10_stmts_b_ok ih0 h
theorem lazarettoref10_stmts_ok {p : api_Program} {l : List api_Stmt} {r : Bool} (h : lazarettoref10_stmts p l = some r) : Pu Tryz.prog 48 [.agg (e_api_Program p), .one (.sl (l.map e_api_Stmt))] (.one (.bool r)) := (lazarettoref10_stmts_g_ok 1000000) _ _ _ h
theorem lazarettoref10_Check_ok {p : api_Program} {r : Int} (h : lazarettoref10_Check p = some r) :
    Pu Tryz.prog 19 [.agg (e_api_Program p)] (.one (.int .i64 r)) := by
  have F := trivial; have R := trivial
  refine pA Tryz.func19 ?_
  simp only [Tryz.f19]
  unfold lazarettoref10_Check at h
  refine bi h fun e_5 h he_5 => ?_
  refine tt ?_
  refine seed_L 3 1 (by simp [go_sem]) ?_
  refine lE (fun (s__ : (List Str) × Nat) (a__ : Nat) => match s__, a__ with | (l_2, i_4), v_1 => ⟨[(1, .one (.ref 0 0 0 0)), (3, .one (.msl 1 v_1 0 l_2.length)), (4, .one (.int .i64 (i_4 : Int)))], [.cells 0 6 [[.sl (p.Lattice.Names.map eS), .sl (p.Lattice.Below.map (eA2 eI)), .sl (p.Sites.map e_api_Site), .sl (p.Vars.map e_api_Var), .sl (p.Blocks.map e_api_Block), .sl (p.Tasks.map e_api_Task)]], .cells v_1 1 (l_2.map eS)]⟩) (fun (e__ : List Str) (b__ : Nat) => match e__, b__ with | e_5, b6 => ⟨[(1, .one (.ref 0 0 0 0)), (3, .one (.msl 1 b6 0 e_5.length))], [.cells 0 6 [[.sl (p.Lattice.Names.map eS), .sl (p.Lattice.Below.map (eA2 eI)), .sl (p.Sites.map e_api_Site), .sl (p.Vars.map e_api_Var), .sl (p.Blocks.map e_api_Block), .sl (p.Tasks.map e_api_Task)]], .cells b6 1 (e_5.map eS)]⟩) (fun (_ : List Str) => some 0) 0 he_5 ?_ ?_
  intro i6 b6 hi6
  obtain rfl := Option.some.inj hi6
  dsimp only at h ⊢
  refine bi h fun e_14 h he_14 => ?_
  refine tt ?_
  refine lE (fun (s__ : (List Str) × Nat) (a__ : Nat) => match s__, a__ with | (l_11, i_13), v_10 => ⟨[(1, .one (.ref 0 0 0 0)), (3, .one (.msl 1 v_10 0 l_11.length)), (5, .one (.int .i64 (i_13 : Int)))], [.cells 0 6 [[.sl (p.Lattice.Names.map eS), .sl (p.Lattice.Below.map (eA2 eI)), .sl (p.Sites.map e_api_Site), .sl (p.Vars.map e_api_Var), .sl (p.Blocks.map e_api_Block), .sl (p.Tasks.map e_api_Task)]], .cells v_10 1 (l_11.map eS)]⟩) (fun (e__ : List Str) (b__ : Nat) => match e__, b__ with | e_14, b15 => ⟨[(1, .one (.ref 0 0 0 0)), (3, .one (.msl 1 b15 0 e_14.length))], [.cells 0 6 [[.sl (p.Lattice.Names.map eS), .sl (p.Lattice.Below.map (eA2 eI)), .sl (p.Sites.map e_api_Site), .sl (p.Vars.map e_api_Var), .sl (p.Blocks.map e_api_Block), .sl (p.Tasks.map e_api_Task)]], .cells b15 1 (e_14.map eS)]⟩) (fun (_ : List Str) => some 2) b6 he_14 ?_ ?_
  intro i15 b15 hi15
  obtain rfl := Option.some.inj hi15
  dsimp only at h ⊢
  refine bi h fun e_23 h he_23 => ?_
  refine tt ?_
  refine lE (fun (s__ : (List Str) × Nat) (a__ : Nat) => match s__, a__ with | (l_20, i_22), v_19 => ⟨[(1, .one (.ref 0 0 0 0)), (3, .one (.msl 1 v_19 0 l_20.length)), (6, .one (.int .i64 (i_22 : Int)))], [.cells 0 6 [[.sl (p.Lattice.Names.map eS), .sl (p.Lattice.Below.map (eA2 eI)), .sl (p.Sites.map e_api_Site), .sl (p.Vars.map e_api_Var), .sl (p.Blocks.map e_api_Block), .sl (p.Tasks.map e_api_Task)]], .cells v_19 1 (l_20.map eS)]⟩) (fun (e__ : List Str) (b__ : Nat) => match e__, b__ with | e_23, b24 => ⟨[(1, .one (.ref 0 0 0 0)), (3, .one (.msl 1 b24 0 e_23.length))], [.cells 0 6 [[.sl (p.Lattice.Names.map eS), .sl (p.Lattice.Below.map (eA2 eI)), .sl (p.Sites.map e_api_Site), .sl (p.Vars.map e_api_Var), .sl (p.Blocks.map e_api_Block), .sl (p.Tasks.map e_api_Task)]], .cells b24 1 (e_23.map eS)]⟩) (fun (_ : List Str) => some 4) b15 he_23 ?_ ?_
  intro i24 b24 hi24
  obtain rfl := Option.some.inj hi24
  dsimp only at h ⊢
  refine bi h fun e_29 h he_29 => ?_
  refine tt ?_
  refine lE (fun (s__ : Nat) (a__ : Unit) => match s__, a__ with | i_28, _ => ⟨[(1, .one (.ref 0 0 0 0)), (3, .one (.msl 1 b24 0 e_23.length)), (7, .one (.int .i64 (i_28 : Int)))], [.cells 0 6 [[.sl (p.Lattice.Names.map eS), .sl (p.Lattice.Below.map (eA2 eI)), .sl (p.Sites.map e_api_Site), .sl (p.Vars.map e_api_Var), .sl (p.Blocks.map e_api_Block), .sl (p.Tasks.map e_api_Task)]], .cells b24 1 (e_23.map eS)]⟩) (fun (e__ : Int ⊕ Unit) (b__ : Unit) => match e__, b__ with | (.inl e_37), _ => ⟨[], []⟩ | (.inr ()), _ => ⟨[(1, .one (.ref 0 0 0 0))], [.cells 0 6 [[.sl (p.Lattice.Names.map eS), .sl (p.Lattice.Below.map (eA2 eI)), .sl (p.Sites.map e_api_Site), .sl (p.Vars.map e_api_Var), .sl (p.Blocks.map e_api_Block), .sl (p.Tasks.map e_api_Task)]], .cells b24 1 (e_23.map eS)]⟩) (fun (e__ : Int ⊕ Unit) => match e__ with | (.inl _) => none | (.inr _) => some 6) () he_29 ?_ ?_
  intro i30 b30 hi30
  rcases e_29 with e_case | ⟨⟩
  cases hi30
  obtain rfl := Option.some.inj hi30
  obtain ⟨⟩ := b30
  dsimp only at h ⊢
  refine bi h fun e_39 h he_39 => ?_
  refine tt ?_
  refine lE (fun (s__ : Nat) (a__ : Unit) => match s__, a__ with | i_38, _ => ⟨[(1, .one (.ref 0 0 0 0)), (9, .one (.int .i64 (i_38 : Int)))], [.cells 0 6 [[.sl (p.Lattice.Names.map eS), .sl (p.Lattice.Below.map (eA2 eI)), .sl (p.Sites.map e_api_Site), .sl (p.Vars.map e_api_Var), .sl (p.Blocks.map e_api_Block), .sl (p.Tasks.map e_api_Task)]], .cells b24 1 (e_23.map eS)]⟩) (fun (e__ : Int ⊕ Unit) (b__ : Unit) => match e__, b__ with | (.inl e_43), _ => ⟨[], []⟩ | (.inr ()), _ => ⟨[], [.cells 0 6 [[.sl (p.Lattice.Names.map eS), .sl (p.Lattice.Below.map (eA2 eI)), .sl (p.Sites.map e_api_Site), .sl (p.Vars.map e_api_Var), .sl (p.Blocks.map e_api_Block), .sl (p.Tasks.map e_api_Task)]], .cells b24 1 (e_23.map eS)]⟩) (fun (e__ : Int ⊕ Unit) => match e__ with | (.inl _) => none | (.inr _) => some 10) () he_39 ?_ ?_
  intro i40 b40 hi40
  rcases e_39 with e_case | ⟨⟩
  cases hi40
  obtain rfl := Option.some.inj hi40
  obtain ⟨⟩ := b40
  dsimp only at h ⊢
  cases h; exact fin
  intro af40 m40 i_38 a40 o40 hf40 ho40 ih40
  obtain ⟨⟩ := a40
  dsimp only [lazarettoref10_Check_L6] at hf40 ⊢
  refine tt ?_
  repeat (first | (with_reducible intro _) | (with_reducible refine and_i ?_ ?_; exact ss))
  refine fl hf40 F (fun hf40 _ F => ?_) (fun hf40 _ F => ?_)
  refine bx hf40 F fun x_41 hf40 hx_41 F => ?_
  refine bi hf40 fun r_42 hf40 hr_42 => ?_
  refine tt ?_
  repeat (first | (with_reducible intro _) | (with_reducible refine and_i ?_ ?_; exact ss))
  refine cD (lazarettoref10_stmts_ok hr_42) ?_
  refine tt ?_
  repeat (first | (with_reducible intro _) | (with_reducible refine and_i ?_ ?_; exact ss))
  refine fv hf40 F (fun hf40 _ F => ?_) (fun hf40 _ F => ?_)
  cases hf40
  refine tt ?_
  refine wn i_38 F fun F => ?_
  exact bk ih40 ho40 ()
  cases hf40
  obtain rfl := sr ho40
  try dsimp only at h
  cases h
  exact fin
  cases hf40
  refine tt ?_
  exact xt ho40 af40 ()
  intro af30 m30 i_28 a30 o30 hf30 ho30 ih30
  obtain ⟨⟩ := a30
  dsimp only [lazarettoref10_Check_L4] at hf30 ⊢
  refine tt ?_
  repeat (first | (with_reducible intro _) | (with_reducible refine and_i ?_ ?_; exact ss))
  refine fl hf30 F (fun hf30 _ F => ?_) (fun hf30 _ F => ?_)
  refine bi hf30 fun e_32 hf30 he_32 => ?_
  refine tt ?_
  refine lE (fun (s__ : Nat) (a__ : Unit) => match s__, a__ with | k_31, _ => ⟨[(1, .one (.ref 0 0 0 0)), (3, .one (.msl 1 b24 0 e_23.length)), (7, .one (.int .i64 (i_28 : Int))), (8, .one (.int .i64 (k_31 : Int)))], [.cells 0 6 [[.sl (p.Lattice.Names.map eS), .sl (p.Lattice.Below.map (eA2 eI)), .sl (p.Sites.map e_api_Site), .sl (p.Vars.map e_api_Var), .sl (p.Blocks.map e_api_Block), .sl (p.Tasks.map e_api_Task)]], .cells b24 1 (e_23.map eS)]⟩) (fun (e__ : Int ⊕ Unit) (b__ : Unit) => match e__, b__ with | (.inl e_36), _ => ⟨[], []⟩ | (.inr ()), _ => ⟨[(1, .one (.ref 0 0 0 0)), (3, .one (.msl 1 b24 0 e_23.length)), (7, .one (.int .i64 (i_28 : Int)))], [.cells 0 6 [[.sl (p.Lattice.Names.map eS), .sl (p.Lattice.Below.map (eA2 eI)), .sl (p.Sites.map e_api_Site), .sl (p.Vars.map e_api_Var), .sl (p.Blocks.map e_api_Block), .sl (p.Tasks.map e_api_Task)]], .cells b24 1 (e_23.map eS)]⟩) (fun (e__ : Int ⊕ Unit) => match e__ with | (.inl _) => none | (.inr _) => some 8) () he_32 ?_ ?_
  intro i33 b33 hi33
  rcases e_32 with e_case | ⟨⟩
  cases hi33
  obtain rfl := Option.some.inj hi33
  obtain ⟨⟩ := b33
  dsimp only at hf30 ⊢
  cases hf30
  refine tt ?_
  refine wn i_28 F fun F => ?_
  exact bk ih30 ho30 ()
  intro af33 m33 k_31 a33 o33 hf33 ho33 ih33
  obtain ⟨⟩ := a33
  dsimp only [lazarettoref10_Check_L5] at hf33 ⊢
  refine fl hf33 F (fun hf33 _ F => ?_) (fun hf33 _ F => ?_)
  refine bx hf33 F fun x_34 hf33 hx_34 F => ?_
  refine bx hf33 F fun x_35 hf33 hx_35 F => ?_
  refine tt ?_
  repeat (first | (with_reducible intro _) | (with_reducible refine and_i ?_ ?_; exact ss))
  refine fi hf33 F (fun hf33 _ F => ?_) (fun hf33 _ F => ?_)
  cases hf33
  obtain rfl := sr ho33
  try dsimp only at hf30
  cases hf30
  obtain rfl := sr ho30
  try dsimp only at h
  cases h
  exact fin
  cases hf33
  refine tt ?_
  refine wn k_31 F fun F => ?_
  exact bk ih33 ho33 ()
  cases hf33
  refine tt ?_
  exact xt ho33 af33 ()
  cases hf30
  refine tt ?_
  exact xt ho30 af30 ()
  intro af24 m24 s24 v_19 o24 hf24 ho24 ih24
  obtain ⟨l_20, i_22⟩ := s24
  dsimp only [lazarettoref10_Check_L3] at hf24 ⊢
  refine tt ?_
  repeat (first | (with_reducible intro _) | (with_reducible refine and_i ?_ ?_; exact ss))
  refine fl hf24 F (fun hf24 _ F => ?_) (fun hf24 _ F => ?_)
  refine bx hf24 F fun x_25 hf24 hx_25 F => ?_
  refine nd hf24 F fun hf24 F => ?_
  cases hf24
  refine tt ?_
  repeat (first | (with_reducible intro _) | (with_reducible refine and_i ?_ ?_; exact ss))
  refine wn i_22 F fun F => ?_
  exact bk ih24 ho24 (v_19 + 1)
  cases hf24
  refine tt ?_
  exact xt ho24 af24 v_19
  intro af15 m15 s15 v_10 o15 hf15 ho15 ih15
  obtain ⟨l_11, i_13⟩ := s15
  dsimp only [lazarettoref10_Check_L2] at hf15 ⊢
  refine tt ?_
  repeat (first | (with_reducible intro _) | (with_reducible refine and_i ?_ ?_; exact ss))
  refine fl hf15 F (fun hf15 _ F => ?_) (fun hf15 _ F => ?_)
  refine bx hf15 F fun x_16 hf15 hx_16 F => ?_
  refine nd hf15 F fun hf15 F => ?_
  cases hf15
  refine tt ?_
  repeat (first | (with_reducible intro _) | (with_reducible refine and_i ?_ ?_; exact ss))
  refine wn i_13 F fun F => ?_
  exact bk ih15 ho15 (v_10 + 1)
  cases hf15
  refine tt ?_
  exact xt ho15 af15 v_10
  intro af6 m6 s6 v_1 o6 hf6 ho6 ih6
  obtain ⟨l_2, i_4⟩ := s6
  dsimp only [lazarettoref10_Check_L1] at hf6 ⊢
  refine tt ?_
  repeat (first | (with_reducible intro _) | (with_reducible refine and_i ?_ ?_; exact ss))
  refine fl hf6 F (fun hf6 _ F => ?_) (fun hf6 _ F => ?_)
  refine bx hf6 F fun x_7 hf6 hx_7 F => ?_
  refine nd hf6 F fun hf6 F => ?_
  cases hf6
  refine tt ?_
  repeat (first | (with_reducible intro _) | (with_reducible refine and_i ?_ ?_; exact ss))
  refine wn i_4 F fun F => ?_
  exact bk ih6 ho6 (v_1 + 1)
  cases hf6
  refine tt ?_
  exact xt ho6 af6 v_1
theorem slices_IndexFunc_api_Var_api_Var_ok {s : List api_Var} {f : (api_Var → Option Bool)} {r : Int}
    {f_f : FuncId} {f_c : List C} (f_cl : Clo f_c) (f_ok : ∀ (x0 : api_Var) (r : Bool), f x0 = some r → Pu Tryz.prog f_f ([.agg (e_api_Var x0)] ++ f_c.map V.one) (.one (.bool r))) (h : slices_IndexFunc_api_Var_api_Var s f = some r) :
    Pu Tryz.prog 49 [.one (.sl (s.map e_api_Var)), .one (.fn f_f f_c)] (.one (.int .i64 r)) := by
  have F := trivial; have R := trivial
  refine pA Tryz.func49 ?_
  simp only [Tryz.f49]
  unfold slices_IndexFunc_api_Var_api_Var at h
  have F := And.intro f_cl.all F
  refine bi h fun e_2 h he_2 => ?_
  refine tt ?_
  repeat (first | (with_reducible intro _) | (with_reducible refine and_i ?_ ?_; exact ss))
  refine lE (fun (s__ : Nat) (a__ : Unit) => match s__, a__ with | x_1, _ => ⟨[(0, .one (.sl (s.map e_api_Var))), (1, .one (.fn f_f f_c)), (7, .one (.int .i64 (s.length : Int))), (8, .one (.int .i64 (x_1 : Int)))], []⟩) (fun (e__ : Int ⊕ Unit) (b__ : Unit) => match e__, b__ with | (.inl e_6), _ => ⟨[], []⟩ | (.inr ()), _ => ⟨[], []⟩) (fun (e__ : Int ⊕ Unit) => match e__ with | (.inl _) => none | (.inr _) => some 0) () he_2 ?_ ?_
  intro i3 b3 hi3
  rcases e_2 with e_case | ⟨⟩
  cases hi3
  obtain rfl := Option.some.inj hi3
  obtain ⟨⟩ := b3
  dsimp only at h ⊢
  cases h; exact fin
  intro af3 m3 x_1 a3 o3 hf3 ho3 ih3
  obtain ⟨⟩ := a3
  dsimp only [slices_IndexFunc_api_Var_api_Var_L1] at hf3 ⊢
  refine fl hf3 F (fun hf3 _ F => ?_) (fun hf3 _ F => ?_)
  refine bx hf3 F fun x_4 hf3 hx_4 F => ?_
  refine bi hf3 fun r_5 hf3 hr_5 => ?_
  refine tt ?_
  repeat (first | (with_reducible intro _) | (with_reducible refine and_i ?_ ?_; exact ss))
  refine cS (f_ok _ _ hr_5) ?_
  refine fv hf3 F (fun hf3 _ F => ?_) (fun hf3 _ F => ?_)
  cases hf3
  obtain rfl := sr ho3
  try dsimp only at h
  cases h
  exact fin
  cases hf3
  refine tt ?_
  refine wn x_1 F fun F => ?_
  exact bk ih3 ho3 ()
  cases hf3
  refine tt ?_
  exact xt ho3 af3 ()
theorem slices_IndexFunc_api_Block_api_Block_ok {s : List api_Block} {f : (api_Block → Option Bool)} {r : Int}
    {f_f : FuncId} {f_c : List C} (f_cl : Clo f_c) (f_ok : ∀ (x0 : api_Block) (r : Bool), f x0 = some r → Pu Tryz.prog f_f ([.agg (e_api_Block x0)] ++ f_c.map V.one) (.one (.bool r))) (h : slices_IndexFunc_api_Block_api_Block s f = some r) :
    Pu Tryz.prog 52 [.one (.sl (s.map e_api_Block)), .one (.fn f_f f_c)] (.one (.int .i64 r)) := by
  have F := trivial; have R := trivial
  refine pA Tryz.func52 ?_
  simp only [Tryz.f52]
  unfold slices_IndexFunc_api_Block_api_Block at h
  have F := And.intro f_cl.all F
  refine bi h fun e_2 h he_2 => ?_
  refine tt ?_
  repeat (first | (with_reducible intro _) | (with_reducible refine and_i ?_ ?_; exact ss))
  refine lE (fun (s__ : Nat) (a__ : Unit) => match s__, a__ with | x_1, _ => ⟨[(0, .one (.sl (s.map e_api_Block))), (1, .one (.fn f_f f_c)), (7, .one (.int .i64 (s.length : Int))), (8, .one (.int .i64 (x_1 : Int)))], []⟩) (fun (e__ : Int ⊕ Unit) (b__ : Unit) => match e__, b__ with | (.inl e_6), _ => ⟨[], []⟩ | (.inr ()), _ => ⟨[], []⟩) (fun (e__ : Int ⊕ Unit) => match e__ with | (.inl _) => none | (.inr _) => some 0) () he_2 ?_ ?_
  intro i3 b3 hi3
  rcases e_2 with e_case | ⟨⟩
  cases hi3
  obtain rfl := Option.some.inj hi3
  obtain ⟨⟩ := b3
  dsimp only at h ⊢
  cases h; exact fin
  intro af3 m3 x_1 a3 o3 hf3 ho3 ih3
  obtain ⟨⟩ := a3
  dsimp only [slices_IndexFunc_api_Block_api_Block_L1] at hf3 ⊢
  refine fl hf3 F (fun hf3 _ F => ?_) (fun hf3 _ F => ?_)
  refine bx hf3 F fun x_4 hf3 hx_4 F => ?_
  refine bi hf3 fun r_5 hf3 hr_5 => ?_
  refine tt ?_
  repeat (first | (with_reducible intro _) | (with_reducible refine and_i ?_ ?_; exact ss))
  refine cS (f_ok _ _ hr_5) ?_
  refine fv hf3 F (fun hf3 _ F => ?_) (fun hf3 _ F => ?_)
  cases hf3
  obtain rfl := sr ho3
  try dsimp only at h
  cases h
  exact fin
  cases hf3
  refine tt ?_
  refine wn x_1 F fun F => ?_
  exact bk ih3 ho3 ()
  cases hf3
  refine tt ?_
  exact xt ho3 af3 ()
theorem names_find_api_Var_1_ok {c0 : (api_Var → Option Str)} {c1 : Str} {x : api_Var} {r : Bool}
    {c0_f : FuncId} {c0_c : List C} (c0_cl : Clo c0_c) (c0_ok : ∀ (x0 : api_Var) (r : Str), c0 x0 = some r → Pu Tryz.prog c0_f ([.agg (e_api_Var x0)] ++ c0_c.map V.one) (.one (.str r))) (h : names_find_api_Var_1 c0 c1 x = some r) :
    Pu Tryz.prog 121 [.agg (e_api_Var x), .one (.iptr [.fn c0_f c0_c] 0), .one (.iptr (eS c1) 0)] (.one (.bool r)) := by
  have F := trivial; have R := trivial
  refine pA Tryz.func121 ?_
  simp only [Tryz.f121]
  unfold names_find_api_Var_1 at h
  have F := And.intro c0_cl.all F
  refine bi h fun r_1 h hr_1 => ?_
  refine tt ?_
  repeat (first | (with_reducible intro _) | (with_reducible refine and_i ?_ ?_; exact ss))
  refine cD (c0_ok _ _ hr_1) ?_
  cases h; exact fin
theorem names_find_api_Var_ok {l : List api_Var} {name : Str} {of : (api_Var → Option Str)} {r : Int}
    {of_f : FuncId} {of_c : List C} (of_cl : Clo of_c) (of_ok : ∀ (x0 : api_Var) (r : Str), of x0 = some r → Pu Tryz.prog of_f ([.agg (e_api_Var x0)] ++ of_c.map V.one) (.one (.str r))) (h : names_find_api_Var l name of = some r) :
    Pu Tryz.prog 93 [.one (.sl (l.map e_api_Var)), .one (.str name), .one (.fn of_f of_c)] (.one (.int .i64 r)) := by
  have F := trivial; have R := trivial
  refine pA Tryz.func93 ?_
  simp only [Tryz.f93]
  unfold names_find_api_Var at h
  have F := And.intro of_cl.all F
  refine bi h fun r_1 h hr_1 => ?_
  refine tt ?_
  repeat (first | (with_reducible intro _) | (with_reducible refine and_i ?_ ?_; exact ss))
  refine cS (slices_IndexFunc_api_Var_api_Var_ok (f_f := 121) (f_c := [.iptr [.fn of_f of_c] 0, .iptr [.str name] 0]) clo (fun _ r h => names_find_api_Var_1_ok (c0_f := of_f) (c0_c := of_c) of_cl of_ok h) hr_1) ?_
  cases h; exact fin
theorem names_Var_1_ok {v : api_Var} {r : Str} (h : names_Var_1 v = some r) :
    Pu Tryz.prog 94 [.agg (e_api_Var v)] (.one (.str r)) := by
  have F := trivial; have R := trivial
  refine pA Tryz.func94 ?_
  simp only [Tryz.f94]
  unfold names_Var_1 at h
  cases h; exact fin
theorem names_Var_ok {p : api_Program} {name : Str} {r : Int} (h : names_Var p name = some r) :
    Pu Tryz.prog 57 [.agg (e_api_Program p), .one (.str name)] (.one (.int .i64 r)) := by
  have F := trivial; have R := trivial
  refine pA Tryz.func57 ?_
  simp only [Tryz.f57]
  unfold names_Var at h
  refine bi h fun r_1 h hr_1 => ?_
  refine tt ?_
  repeat (first | (with_reducible intro _) | (with_reducible refine and_i ?_ ?_; exact ss))
  refine cS (names_find_api_Var_ok (of_f := 94) (of_c := []) clo (fun _ r h => names_Var_1_ok h) hr_1) ?_
  cases h; exact fin
theorem names_find_api_Block_1_ok {c0 : (api_Block → Option Str)} {c1 : Str} {x : api_Block} {r : Bool}
    {c0_f : FuncId} {c0_c : List C} (c0_cl : Clo c0_c) (c0_ok : ∀ (x0 : api_Block) (r : Str), c0 x0 = some r → Pu Tryz.prog c0_f ([.agg (e_api_Block x0)] ++ c0_c.map V.one) (.one (.str r))) (h : names_find_api_Block_1 c0 c1 x = some r) :
    Pu Tryz.prog 123 [.agg (e_api_Block x), .one (.iptr [.fn c0_f c0_c] 0), .one (.iptr (eS c1) 0)] (.one (.bool r)) := by
  have F := trivial; have R := trivial
  refine pA Tryz.func123 ?_
  simp only [Tryz.f123]
  unfold names_find_api_Block_1 at h
  have F := And.intro c0_cl.all F
  refine bi h fun r_1 h hr_1 => ?_
  refine tt ?_
  repeat (first | (with_reducible intro _) | (with_reducible refine and_i ?_ ?_; exact ss))
  refine cD (c0_ok _ _ hr_1) ?_
  cases h; exact fin
theorem names_find_api_Block_ok {l : List api_Block} {name : Str} {of : (api_Block → Option Str)} {r : Int}
    {of_f : FuncId} {of_c : List C} (of_cl : Clo of_c) (of_ok : ∀ (x0 : api_Block) (r : Str), of x0 = some r → Pu Tryz.prog of_f ([.agg (e_api_Block x0)] ++ of_c.map V.one) (.one (.str r))) (h : names_find_api_Block l name of = some r) :
    Pu Tryz.prog 96 [.one (.sl (l.map e_api_Block)), .one (.str name), .one (.fn of_f of_c)] (.one (.int .i64 r)) := by
  have F := trivial; have R := trivial
  refine pA Tryz.func96 ?_
  simp only [Tryz.f96]
  unfold names_find_api_Block at h
  have F := And.intro of_cl.all F
  refine bi h fun r_1 h hr_1 => ?_
  refine tt ?_
  repeat (first | (with_reducible intro _) | (with_reducible refine and_i ?_ ?_; exact ss))
  refine cS (slices_IndexFunc_api_Block_api_Block_ok (f_f := 123) (f_c := [.iptr [.fn of_f of_c] 0, .iptr [.str name] 0]) clo (fun _ r h => names_find_api_Block_1_ok (c0_f := of_f) (c0_c := of_c) of_cl of_ok h) hr_1) ?_
  cases h; exact fin
theorem names_Block_1_ok {b : api_Block} {r : Str} (h : names_Block_1 b = some r) :
    Pu Tryz.prog 97 [.agg (e_api_Block b)] (.one (.str r)) := by
  have F := trivial; have R := trivial
  refine pA Tryz.func97 ?_
  simp only [Tryz.f97]
  unfold names_Block_1 at h
  cases h; exact fin
theorem names_Block_ok {p : api_Program} {name : Str} {r : Int} (h : names_Block p name = some r) :
    Pu Tryz.prog 59 [.agg (e_api_Program p), .one (.str name)] (.one (.int .i64 r)) := by
  have F := trivial; have R := trivial
  refine pA Tryz.func59 ?_
  simp only [Tryz.f59]
  unfold names_Block at h
  refine bi h fun r_1 h hr_1 => ?_
  refine tt ?_
  repeat (first | (with_reducible intro _) | (with_reducible refine and_i ?_ ?_; exact ss))
  refine cS (names_find_api_Block_ok (of_f := 97) (of_c := []) clo (fun _ r h => names_Block_1_ok h) hr_1) ?_
  cases h; exact fin
theorem slices_IndexFunc_api_Site_api_Site_ok {s : List api_Site} {f : (api_Site → Option Bool)} {r : Int}
    {f_f : FuncId} {f_c : List C} (f_cl : Clo f_c) (f_ok : ∀ (x0 : api_Site) (r : Bool), f x0 = some r → Pu Tryz.prog f_f ([.agg (e_api_Site x0)] ++ f_c.map V.one) (.one (.bool r))) (h : slices_IndexFunc_api_Site_api_Site s f = some r) :
    Pu Tryz.prog 132 [.one (.sl (s.map e_api_Site)), .one (.fn f_f f_c)] (.one (.int .i64 r)) := by
  have F := trivial; have R := trivial
  refine pA Tryz.func132 ?_
  simp only [Tryz.f132]
  unfold slices_IndexFunc_api_Site_api_Site at h
  have F := And.intro f_cl.all F
  refine bi h fun e_2 h he_2 => ?_
  refine tt ?_
  repeat (first | (with_reducible intro _) | (with_reducible refine and_i ?_ ?_; exact ss))
  refine lE (fun (s__ : Nat) (a__ : Unit) => match s__, a__ with | x_1, _ => ⟨[(0, .one (.sl (s.map e_api_Site))), (1, .one (.fn f_f f_c)), (7, .one (.int .i64 (s.length : Int))), (8, .one (.int .i64 (x_1 : Int)))], []⟩) (fun (e__ : Int ⊕ Unit) (b__ : Unit) => match e__, b__ with | (.inl e_6), _ => ⟨[], []⟩ | (.inr ()), _ => ⟨[], []⟩) (fun (e__ : Int ⊕ Unit) => match e__ with | (.inl _) => none | (.inr _) => some 0) () he_2 ?_ ?_
  intro i3 b3 hi3
  rcases e_2 with e_case | ⟨⟩
  cases hi3
  obtain rfl := Option.some.inj hi3
  obtain ⟨⟩ := b3
  dsimp only at h ⊢
  cases h; exact fin
  intro af3 m3 x_1 a3 o3 hf3 ho3 ih3
  obtain ⟨⟩ := a3
  dsimp only [slices_IndexFunc_api_Site_api_Site_L1] at hf3 ⊢
  refine fl hf3 F (fun hf3 _ F => ?_) (fun hf3 _ F => ?_)
  refine bx hf3 F fun x_4 hf3 hx_4 F => ?_
  refine bi hf3 fun r_5 hf3 hr_5 => ?_
  refine tt ?_
  repeat (first | (with_reducible intro _) | (with_reducible refine and_i ?_ ?_; exact ss))
  refine cS (f_ok _ _ hr_5) ?_
  refine fv hf3 F (fun hf3 _ F => ?_) (fun hf3 _ F => ?_)
  cases hf3
  obtain rfl := sr ho3
  try dsimp only at h
  cases h
  exact fin
  cases hf3
  refine tt ?_
  refine wn x_1 F fun F => ?_
  exact bk ih3 ho3 ()
  cases hf3
  refine tt ?_
  exact xt ho3 af3 ()
theorem names_find_api_Site_1_ok {c0 : (api_Site → Option Str)} {c1 : Str} {x : api_Site} {r : Bool}
    {c0_f : FuncId} {c0_c : List C} (c0_cl : Clo c0_c) (c0_ok : ∀ (x0 : api_Site) (r : Str), c0 x0 = some r → Pu Tryz.prog c0_f ([.agg (e_api_Site x0)] ++ c0_c.map V.one) (.one (.str r))) (h : names_find_api_Site_1 c0 c1 x = some r) :
    Pu Tryz.prog 133 [.agg (e_api_Site x), .one (.iptr [.fn c0_f c0_c] 0), .one (.iptr (eS c1) 0)] (.one (.bool r)) := by
  have F := trivial; have R := trivial
  refine pA Tryz.func133 ?_
  simp only [Tryz.f133]
  unfold names_find_api_Site_1 at h
  have F := And.intro c0_cl.all F
  refine bi h fun r_1 h hr_1 => ?_
  refine tt ?_
  repeat (first | (with_reducible intro _) | (with_reducible refine and_i ?_ ?_; exact ss))
  refine cD (c0_ok _ _ hr_1) ?_
  cases h; exact fin
theorem names_find_api_Site_ok {l : List api_Site} {name : Str} {of : (api_Site → Option Str)} {r : Int}
    {of_f : FuncId} {of_c : List C} (of_cl : Clo of_c) (of_ok : ∀ (x0 : api_Site) (r : Str), of x0 = some r → Pu Tryz.prog of_f ([.agg (e_api_Site x0)] ++ of_c.map V.one) (.one (.str r))) (h : names_find_api_Site l name of = some r) :
    Pu Tryz.prog 125 [.one (.sl (l.map e_api_Site)), .one (.str name), .one (.fn of_f of_c)] (.one (.int .i64 r)) := by
  have F := trivial; have R := trivial
  refine pA Tryz.func125 ?_
  simp only [Tryz.f125]
  unfold names_find_api_Site at h
  have F := And.intro of_cl.all F
  refine bi h fun r_1 h hr_1 => ?_
  refine tt ?_
  repeat (first | (with_reducible intro _) | (with_reducible refine and_i ?_ ?_; exact ss))
  refine cS (slices_IndexFunc_api_Site_api_Site_ok (f_f := 133) (f_c := [.iptr [.fn of_f of_c] 0, .iptr [.str name] 0]) clo (fun _ r h => names_find_api_Site_1_ok (c0_f := of_f) (c0_c := of_c) of_cl of_ok h) hr_1) ?_
  cases h; exact fin
theorem names_Site_1_ok {s : api_Site} {r : Str} (h : names_Site_1 s = some r) :
    Pu Tryz.prog 126 [.agg (e_api_Site s)] (.one (.str r)) := by
  have F := trivial; have R := trivial
  refine pA Tryz.func126 ?_
  simp only [Tryz.f126]
  unfold names_Site_1 at h
  cases h; exact fin
theorem names_Site_ok {p : api_Program} {name : Str} {r : Int} (h : names_Site p name = some r) :
    Pu Tryz.prog 106 [.agg (e_api_Program p), .one (.str name)] (.one (.int .i64 r)) := by
  have F := trivial; have R := trivial
  refine pA Tryz.func106 ?_
  simp only [Tryz.f106]
  unfold names_Site at h
  refine bi h fun r_1 h hr_1 => ?_
  refine tt ?_
  repeat (first | (with_reducible intro _) | (with_reducible refine and_i ?_ ?_; exact ss))
  refine cS (names_find_api_Site_ok (of_f := 126) (of_c := []) clo (fun _ r h => names_Site_1_ok h) hr_1) ?_
  cases h; exact fin
end Go.Lz
