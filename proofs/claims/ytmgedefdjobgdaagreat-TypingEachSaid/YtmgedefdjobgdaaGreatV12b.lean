/- V12b -/
import Derived.Test.YtmgedefdjobgdaaGreatV12
namespace Go.Lz
set_option linter.unusedVariables false
set_option linter.unusedSimpArgs false
open Go.Proofs
attribute [-go_sem] q_cond g_b gd_b
set_option maxRecDepth 100000
set_option maxHeartbeats 4000000
noncomputable section
def lazarettolaw12_Named (p : api_Program) : Option Int :=
  (lazarettolaw08_Few p).bind fun r_1 => if r_1 = 1 then ((lazarettoref08_Check p).bind fun r_2 => if r_2 = true then ((lazarettoref10_Check p).bind fun r_3 => if r_3 = 0 then (some 1) else (some 0)) else (some 0)) else (some 0)
def lazarettolaw12_one (v : api_Expr) : Option api_Program :=
  some (⟨(⟨[([97] : Str)], []⟩ : api_Lattice), [], [(⟨([120] : Str), (⟨2, 0, 0⟩ : api_Type), 0, 0, 0⟩ : api_Var)], [], [(⟨1, 0, [1], [(⟨1, [], (⟨2, 0, 0, ([120] : Str), []⟩ : api_Expr), v, [], [], []⟩ : api_Stmt)]⟩ : api_Task)]⟩ : api_Program)
def lazarettolaw12_awake : Option Bool :=
  (lazarettolaw12_one (⟨1, 1, 2, [], []⟩ : api_Expr)).bind fun r_1 => (typing_Expr r_1 (⟨14, 0, 0, [], [(⟨1, 1, 2, [], []⟩ : api_Expr), (⟨1, 1, 2, [], []⟩ : api_Expr)]⟩ : api_Expr)).bind fun r_2 => (lazarettolaw12_one (⟨1, 1, 2, [], []⟩ : api_Expr)).bind fun r_3 => (typing_Expr r_3 (⟨10, 0, 0, [], [(⟨1, 1, 2, [], []⟩ : api_Expr), (⟨1, 1, 1, [], []⟩ : api_Expr)]⟩ : api_Expr)).bind fun r_4 => if r_2.1 = 1 then (if r_2.2 = true then (if r_4.2 = true then (some false) else ((lazarettolaw12_one (⟨1, 1, 2, [], []⟩ : api_Expr)).bind fun r_5 => (typing_Check r_5).bind fun r_6 => if r_6 = 0 then ((lazarettolaw12_one (⟨1, 1, 3, [], []⟩ : api_Expr)).bind fun r_7 => (typing_Check r_7).bind fun r_8 => if r_8 = 6 then ((lazarettolaw12_one (⟨1, 1, 2, [], []⟩ : api_Expr)).bind fun r_9 => (lazarettolaw12_one (⟨1, 1, 2, [], []⟩ : api_Expr)).bind fun r_10 => (r_10.Tasks[0]?).bind fun x_11 => (typing_Stmts r_9 x_11.Body).bind fun r_12 => some r_12) else (some false)) else (some false))) else (some false)) else (some false)
def lazarettolaw12_TypingChecks_L1 (p : api_Program) : Nat → Option ((Nat) ⊕ (Bool ⊕ Unit))
  | i_5 => if (i_5 : Int) < (p.Tasks.length : Int) then ((p.Tasks[i_5]?).bind fun x_8 => (typing_Stmts p x_8.Body).bind fun r_9 => (lazarettoref12_Stmts p x_8.Body).bind fun r_10 => if (r_9 == r_10) = true then (some (.inl (i_5 + 1))) else (some (.inr (.inl (false))))) else (some (.inr (.inr (()))))
def lazarettolaw12_TypingChecks (p : api_Program) : Option Bool :=
  (lazarettolaw12_Named p).bind fun r_1 => if r_1 = 0 then ((lazarettolaw12_awake).bind fun r_2 => some r_2) else ((typing_Check p).bind fun r_3 => (lazarettoref12_Check p).bind fun r_4 => if r_3 = r_4 then ((loop (lazarettolaw12_TypingChecks_L1 p) 0).bind (fun e__ => match e__ with | (.inl e_11) => some e_11 | (.inr ()) => (lazarettolaw12_awake).bind fun r_12 => some r_12)) else (some false))
def lazarettolaw12_term (p : api_Program) (e : api_Expr) : Option Bool :=
  (lazarettoref06_Check e).bind fun r_1 => if r_1 = true then ((lazarettoref10_Check (⟨p.Lattice, p.Sites, p.Vars, p.Blocks, [(⟨0, 0, [], [(⟨3, [], (⟨0, 0, 0, [], []⟩ : api_Expr), e, [], [], []⟩ : api_Stmt)]⟩ : api_Task)]⟩ : api_Program)).bind fun r_2 => some (decide (r_2 = 0))) else (some false)
def lazarettolaw12_TypingTerms (p : api_Program) (e : api_Expr) : Option Bool :=
  (lazarettolaw12_Named p).bind fun r_1 => if r_1 = 0 then ((lazarettolaw12_awake).bind fun r_2 => some r_2) else ((lazarettolaw12_term p e).bind fun r_3 => if r_3 = true then ((typing_Expr p e).bind fun r_4 => (lazarettoref12_Expr p e).bind fun r_5 => if r_4.1 = r_5 then (if (r_4.2 == (!(decide (r_5 = 0)))) = true then ((lazarettolaw12_awake).bind fun r_6 => some r_6) else (some false)) else (some false)) else ((lazarettolaw12_awake).bind fun r_7 => some r_7))
def lazarettolaw12_TypingParts_L1 (p : api_Program) (a : api_Expr) (b : api_Expr) (r_5 : Int × Bool) (r_6 : Int × Bool) : Nat → Option ((Nat) ⊕ (Bool ⊕ Unit))
  | op_7 => if (op_7 : Int) ≤ 20 then ((typing_Expr p (⟨(op_7 : Int), 0, 0, [], [a, b]⟩ : api_Expr)).bind fun r_10 => if r_5.2 = true then (if r_6.2 = true then (if r_5.1 = r_6.1 then ((lazarettoref03_Result (op_7 : Int) r_5.1).bind fun r_11 => if r_10.1 = r_11 then (if (r_10.2 == (!(decide (r_11 = 0)))) = true then (some (.inl (op_7 + 1))) else (some (.inr (.inl (false))))) else (some (.inr (.inl (false))))) else (if r_10.1 = 0 then (if r_10.2 = true then (some (.inr (.inl (false)))) else (some (.inl (op_7 + 1)))) else (some (.inr (.inl (false)))))) else (if r_10.1 = 0 then (if r_10.2 = true then (some (.inr (.inl (false)))) else (some (.inl (op_7 + 1)))) else (some (.inr (.inl (false)))))) else (if r_10.1 = 0 then (if r_10.2 = true then (some (.inr (.inl (false)))) else (some (.inl (op_7 + 1)))) else (some (.inr (.inl (false)))))) else (some (.inr (.inr (()))))
def lazarettolaw12_TypingParts (p : api_Program) (a : api_Expr) (b : api_Expr) : Option Bool :=
  (lazarettolaw12_Named p).bind fun r_1 => if r_1 = 0 then ((lazarettolaw12_awake).bind fun r_2 => some r_2) else ((lazarettolaw12_term p a).bind fun r_3 => if r_3 = true then ((lazarettolaw12_term p b).bind fun r_4 => if r_4 = true then ((typing_Expr p a).bind fun r_5 => (typing_Expr p b).bind fun r_6 => (loop (lazarettolaw12_TypingParts_L1 p a b r_5 r_6) 7).bind (fun e__ => match e__ with | (.inl e_12) => some e_12 | (.inr ()) => (lazarettolaw12_awake).bind fun r_13 => some r_13)) else ((lazarettolaw12_awake).bind fun r_14 => some r_14)) else ((lazarettolaw12_awake).bind fun r_15 => some r_15))
def lazarettolaw12_TypingEach_L2 (p : api_Program) (x_6 : api_Task) : (Bool × Nat) → Option ((Bool × Nat) ⊕ (Bool))
  | (all_7, k_8) => if (k_8 : Int) < (x_6.Body.length : Int) then (need (0 ≤ (k_8 : Int) ∧ (k_8 : Int) ≤ (w64 ((k_8 : Int) + 1)) ∧ (w64 ((k_8 : Int) + 1)) ≤ x_6.Body.length) ((typing_Stmts p ((x_6.Body.take (w64 ((k_8 : Int) + 1)).toNat).drop k_8)).bind fun r_12 => if r_12 = true then (some (.inl (all_7, (k_8 + 1)))) else (some (.inl (false, (k_8 + 1)))))) else (some (.inr (all_7)))
def lazarettolaw12_TypingEach_L1 (p : api_Program) : Nat → Option ((Nat) ⊕ (Bool ⊕ Unit))
  | i_3 => if (i_3 : Int) < (p.Tasks.length : Int) then ((p.Tasks[i_3]?).bind fun x_6 => (loop (lazarettolaw12_TypingEach_L2 p x_6) (true, 0)).bind (fun e_9 => (typing_Stmts p x_6.Body).bind fun r_14 => if (r_14 == e_9) = true then (some (.inl (i_3 + 1))) else (some (.inr (.inl (false)))))) else (some (.inr (.inr (()))))
def lazarettolaw12_TypingEach (p : api_Program) : Option Bool :=
  (lazarettolaw12_Named p).bind fun r_1 => if r_1 = 0 then ((lazarettolaw12_awake).bind fun r_2 => some r_2) else ((loop (lazarettolaw12_TypingEach_L1 p) 0).bind (fun e__ => match e__ with | (.inl e_15) => some e_15 | (.inr ()) => (lazarettolaw12_awake).bind fun r_16 => some r_16))
end
theorem lazarettolaw12_Named_ok {p : api_Program} {r : Int} (h : lazarettolaw12_Named p = some r) :
    Pu Tryz.prog 7 [.agg (e_api_Program p)] (.one (.int .i64 r)) := by
  have F := trivial; have R := trivial
  refine pA Tryz.func7 ?_
  simp only [Tryz.f7]
  unfold lazarettolaw12_Named at h
  refine bi h fun r_1 h hr_1 => ?_
  refine tt ?_
  repeat (first | (with_reducible intro _) | (with_reducible refine and_i ?_ ?_; exact ss))
  refine cS (lazarettolaw08_Few_ok hr_1) ?_
  refine fi h F (fun h _ F => ?_) (fun h _ F => ?_)
  refine bi h fun r_2 h hr_2 => ?_
  refine tt ?_
  repeat (first | (with_reducible intro _) | (with_reducible refine and_i ?_ ?_; exact ss))
  refine cS (lazarettoref08_Check_ok hr_2) ?_
  refine fv h F (fun h _ F => ?_) (fun h _ F => ?_)
  refine bi h fun r_3 h hr_3 => ?_
  refine tt ?_
  repeat (first | (with_reducible intro _) | (with_reducible refine and_i ?_ ?_; exact ss))
  refine cS (lazarettoref10_Check_ok hr_3) ?_
  refine fi h F (fun h _ F => ?_) (fun h _ F => ?_)
  cases h; exact fin
  cases h; exact fin
  cases h; exact fin
  cases h; exact fin
theorem lazarettolaw12_one_ok {v : api_Expr} {r : api_Program} (h : lazarettolaw12_one v = some r) :
    Pu Tryz.prog 20 [.agg (e_api_Expr v)] (.agg (e_api_Program r)) := by
  have F := trivial; have R := trivial
  refine pA Tryz.func20 ?_
  simp only [Tryz.f20]
  unfold lazarettolaw12_one at h
  cases h; exact fin
theorem lazarettolaw12_awake_ok {r : Bool} (h : lazarettolaw12_awake = some r) :
    Pu Tryz.prog 8 [] (.one (.bool r)) := by
  have F := trivial; have R := trivial
  refine pA Tryz.func8 ?_
  simp only [Tryz.f8]
  unfold lazarettolaw12_awake at h
  refine bi h fun r_1 h hr_1 => ?_
  refine tt ?_
  repeat (first | (with_reducible intro _) | (with_reducible refine and_i ?_ ?_; exact ss))
  refine cD (lazarettolaw12_one_ok hr_1) ?_
  refine bi h fun r_2 h hr_2 => ?_
  refine tt ?_
  repeat (first | (with_reducible intro _) | (with_reducible refine and_i ?_ ?_; exact ss))
  refine cD (typing_Expr_ok hr_2) ?_
  refine bi h fun r_3 h hr_3 => ?_
  refine tt ?_
  repeat (first | (with_reducible intro _) | (with_reducible refine and_i ?_ ?_; exact ss))
  refine cD (lazarettolaw12_one_ok hr_3) ?_
  refine bi h fun r_4 h hr_4 => ?_
  refine tt ?_
  repeat (first | (with_reducible intro _) | (with_reducible refine and_i ?_ ?_; exact ss))
  refine cD (typing_Expr_ok hr_4) ?_
  refine tt ?_
  repeat (first | (with_reducible intro _) | (with_reducible refine and_i ?_ ?_; exact ss))
  refine fi h F (fun h _ F => ?_) (fun h _ F => ?_)
  refine tt ?_
  repeat (first | (with_reducible intro _) | (with_reducible refine and_i ?_ ?_; exact ss))
  refine fv h F (fun h _ F => ?_) (fun h _ F => ?_)
  refine tt ?_
  repeat (first | (with_reducible intro _) | (with_reducible refine and_i ?_ ?_; exact ss))
  refine fv h F (fun h _ F => ?_) (fun h _ F => ?_)
  cases h; exact fin
  refine bi h fun r_5 h hr_5 => ?_
  refine tt ?_
  repeat (first | (with_reducible intro _) | (with_reducible refine and_i ?_ ?_; exact ss))
  refine cD (lazarettolaw12_one_ok hr_5) ?_
  refine bi h fun r_6 h hr_6 => ?_
  refine tt ?_
  repeat (first | (with_reducible intro _) | (with_reducible refine and_i ?_ ?_; exact ss))
  refine cD (typing_Check_ok hr_6) ?_
  refine tt ?_
  repeat (first | (with_reducible intro _) | (with_reducible refine and_i ?_ ?_; exact ss))
  refine fi h F (fun h _ F => ?_) (fun h _ F => ?_)
  refine bi h fun r_7 h hr_7 => ?_
  refine tt ?_
  repeat (first | (with_reducible intro _) | (with_reducible refine and_i ?_ ?_; exact ss))
  refine cD (lazarettolaw12_one_ok hr_7) ?_
  refine bi h fun r_8 h hr_8 => ?_
  refine tt ?_
  repeat (first | (with_reducible intro _) | (with_reducible refine and_i ?_ ?_; exact ss))
  refine cD (typing_Check_ok hr_8) ?_
  refine tt ?_
  repeat (first | (with_reducible intro _) | (with_reducible refine and_i ?_ ?_; exact ss))
  refine fi h F (fun h _ F => ?_) (fun h _ F => ?_)
  refine bi h fun r_9 h hr_9 => ?_
  refine tt ?_
  repeat (first | (with_reducible intro _) | (with_reducible refine and_i ?_ ?_; exact ss))
  refine cD (lazarettolaw12_one_ok hr_9) ?_
  refine bi h fun r_10 h hr_10 => ?_
  refine tt ?_
  repeat (first | (with_reducible intro _) | (with_reducible refine and_i ?_ ?_; exact ss))
  refine cD (lazarettolaw12_one_ok hr_10) ?_
  refine bx h F fun x_11 h hx_11 F => ?_
  refine bi h fun r_12 h hr_12 => ?_
  refine tt ?_
  repeat (first | (with_reducible intro _) | (with_reducible refine and_i ?_ ?_; exact ss))
  refine cD (typing_Stmts_ok hr_12) ?_
  cases h; exact fin
  cases h; exact fin
  cases h; exact fin
  cases h; exact fin
  cases h; exact fin
theorem lazarettolaw12_TypingChecks_ok {p : api_Program} {r : Bool} (h : lazarettolaw12_TypingChecks p = some r) :
    Pu Tryz.prog 3 [.agg (e_api_Program p)] (.one (.bool r)) := by
  have F := trivial; have R := trivial
  refine pA Tryz.func3 ?_
  simp only [Tryz.f3]
  unfold lazarettolaw12_TypingChecks at h
  refine bi h fun r_1 h hr_1 => ?_
  refine tt ?_
  repeat (first | (with_reducible intro _) | (with_reducible refine and_i ?_ ?_; exact ss))
  refine cS (lazarettolaw12_Named_ok hr_1) ?_
  refine fi h F (fun h _ F => ?_) (fun h _ F => ?_)
  refine bi h fun r_2 h hr_2 => ?_
  refine tt ?_
  repeat (first | (with_reducible intro _) | (with_reducible refine and_i ?_ ?_; exact ss))
  refine cS (lazarettolaw12_awake_ok hr_2) ?_
  cases h; exact fin
  refine bi h fun r_3 h hr_3 => ?_
  refine tt ?_
  repeat (first | (with_reducible intro _) | (with_reducible refine and_i ?_ ?_; exact ss))
  refine cD (typing_Check_ok hr_3) ?_
  refine bi h fun r_4 h hr_4 => ?_
  refine tt ?_
  repeat (first | (with_reducible intro _) | (with_reducible refine and_i ?_ ?_; exact ss))
  refine cD (lazarettoref12_Check_ok hr_4) ?_
  refine tt ?_
  repeat (first | (with_reducible intro _) | (with_reducible refine and_i ?_ ?_; exact ss))
  refine fi h F (fun h _ F => ?_) (fun h _ F => ?_)
  refine bi h fun e_6 h he_6 => ?_
  refine tt ?_
  refine lE (fun (s__ : Nat) (a__ : Unit) => match s__, a__ with | i_5, _ => ⟨[(1, .one (.ref 0 0 0 0)), (3, .one (.int .i64 (i_5 : Int)))], [.cells 0 6 [[.sl (p.Lattice.Names.map eS), .sl (p.Lattice.Below.map (eA2 eI)), .sl (p.Sites.map e_api_Site), .sl (p.Vars.map e_api_Var), .sl (p.Blocks.map e_api_Block), .sl (p.Tasks.map e_api_Task)]]]⟩) (fun (e__ : Bool ⊕ Unit) (b__ : Unit) => match e__, b__ with | (.inl e_11), _ => ⟨[], []⟩ | (.inr ()), _ => ⟨[], [.cells 0 6 [[.sl (p.Lattice.Names.map eS), .sl (p.Lattice.Below.map (eA2 eI)), .sl (p.Sites.map e_api_Site), .sl (p.Vars.map e_api_Var), .sl (p.Blocks.map e_api_Block), .sl (p.Tasks.map e_api_Task)]]]⟩) (fun (e__ : Bool ⊕ Unit) => match e__ with | (.inl _) => none | (.inr _) => some 0) () he_6 ?_ ?_
  intro i7 b7 hi7
  rcases e_6 with e_case | ⟨⟩
  cases hi7
  obtain rfl := Option.some.inj hi7
  obtain ⟨⟩ := b7
  dsimp only at h ⊢
  refine bi h fun r_12 h hr_12 => ?_
  refine tt ?_
  repeat (first | (with_reducible intro _) | (with_reducible refine and_i ?_ ?_; exact ss))
  refine cS (lazarettolaw12_awake_ok hr_12) ?_
  cases h; exact fin
  intro af7 m7 i_5 a7 o7 hf7 ho7 ih7
  obtain ⟨⟩ := a7
  dsimp only [lazarettolaw12_TypingChecks_L1] at hf7 ⊢
  refine tt ?_
  repeat (first | (with_reducible intro _) | (with_reducible refine and_i ?_ ?_; exact ss))
  refine fl hf7 F (fun hf7 _ F => ?_) (fun hf7 _ F => ?_)
  refine bx hf7 F fun x_8 hf7 hx_8 F => ?_
  refine bi hf7 fun r_9 hf7 hr_9 => ?_
  refine tt ?_
  repeat (first | (with_reducible intro _) | (with_reducible refine and_i ?_ ?_; exact ss))
  refine cD (typing_Stmts_ok hr_9) ?_
  refine bi hf7 fun r_10 hf7 hr_10 => ?_
  refine tt ?_
  repeat (first | (with_reducible intro _) | (with_reducible refine and_i ?_ ?_; exact ss))
  refine cD (lazarettoref12_Stmts_ok hr_10) ?_
  refine tt ?_
  repeat (first | (with_reducible intro _) | (with_reducible refine and_i ?_ ?_; exact ss))
  refine fv hf7 F (fun hf7 _ F => ?_) (fun hf7 _ F => ?_)
  cases hf7
  refine tt ?_
  refine wn i_5 F fun F => ?_
  exact bk ih7 ho7 ()
  cases hf7
  obtain rfl := sr ho7
  try dsimp only at h
  cases h
  exact fin
  cases hf7
  refine tt ?_
  exact xt ho7 af7 ()
  cases h; exact fin
theorem lazarettolaw12_term_ok {p : api_Program} {e : api_Expr} {r : Bool} (h : lazarettolaw12_term p e = some r) :
    Pu Tryz.prog 13 [.agg (e_api_Program p), .agg (e_api_Expr e)] (.one (.bool r)) := by
  have F := trivial; have R := trivial
  refine pA Tryz.func13 ?_
  simp only [Tryz.f13]
  unfold lazarettolaw12_term at h
  refine bi h fun r_1 h hr_1 => ?_
  refine tt ?_
  repeat (first | (with_reducible intro _) | (with_reducible refine and_i ?_ ?_; exact ss))
  refine cS (lazarettoref06_Check_ok hr_1) ?_
  refine fv h F (fun h _ F => ?_) (fun h _ F => ?_)
  refine bi h fun r_2 h hr_2 => ?_
  refine tt ?_
  repeat (first | (with_reducible intro _) | (with_reducible refine and_i ?_ ?_; exact ss))
  refine cS (lazarettoref10_Check_ok hr_2) ?_
  cases h; exact fin
  cases h; exact fin
theorem lazarettolaw12_TypingTerms_ok {p : api_Program} {e : api_Expr} {r : Bool} (h : lazarettolaw12_TypingTerms p e = some r) :
    Pu Tryz.prog 4 [.agg (e_api_Program p), .agg (e_api_Expr e)] (.one (.bool r)) := by
  have F := trivial; have R := trivial
  refine pA Tryz.func4 ?_
  simp only [Tryz.f4]
  unfold lazarettolaw12_TypingTerms at h
  refine bi h fun r_1 h hr_1 => ?_
  refine tt ?_
  repeat (first | (with_reducible intro _) | (with_reducible refine and_i ?_ ?_; exact ss))
  refine cS (lazarettolaw12_Named_ok hr_1) ?_
  refine fi h F (fun h _ F => ?_) (fun h _ F => ?_)
  refine bi h fun r_2 h hr_2 => ?_
  refine tt ?_
  repeat (first | (with_reducible intro _) | (with_reducible refine and_i ?_ ?_; exact ss))
  refine cS (lazarettolaw12_awake_ok hr_2) ?_
  cases h; exact fin
  refine bi h fun r_3 h hr_3 => ?_
  refine tt ?_
  repeat (first | (with_reducible intro _) | (with_reducible refine and_i ?_ ?_; exact ss))
  refine cS (lazarettolaw12_term_ok hr_3) ?_
  refine fv h F (fun h _ F => ?_) (fun h _ F => ?_)
  refine bi h fun r_4 h hr_4 => ?_
  refine tt ?_
  repeat (first | (with_reducible intro _) | (with_reducible refine and_i ?_ ?_; exact ss))
  refine cS (typing_Expr_ok hr_4) ?_
  refine bi h fun r_5 h hr_5 => ?_
  refine tt ?_
  repeat (first | (with_reducible intro _) | (with_reducible refine and_i ?_ ?_; exact ss))
  refine cS (lazarettoref12_Expr_ok hr_5) ?_
  refine fi h F (fun h _ F => ?_) (fun h _ F => ?_)
  refine tt ?_
  refine fv h F (fun h _ F => ?_) (fun h _ F => ?_)
  refine bi h fun r_6 h hr_6 => ?_
  refine tt ?_
  repeat (first | (with_reducible intro _) | (with_reducible refine and_i ?_ ?_; exact ss))
  refine cS (lazarettolaw12_awake_ok hr_6) ?_
  cases h; exact fin
  cases h; exact fin
  cases h; exact fin
  refine bi h fun r_7 h hr_7 => ?_
  refine tt ?_
  repeat (first | (with_reducible intro _) | (with_reducible refine and_i ?_ ?_; exact ss))
  refine cS (lazarettolaw12_awake_ok hr_7) ?_
  cases h; exact fin
theorem lazarettolaw12_TypingParts_ok {p : api_Program} {a : api_Expr} {b : api_Expr} {r : Bool} (h : lazarettolaw12_TypingParts p a b = some r) :
    Pu Tryz.prog 5 [.agg (e_api_Program p), .agg (e_api_Expr a), .agg (e_api_Expr b)] (.one (.bool r)) := by
  have F := trivial; have R := trivial
  refine pA Tryz.func5 ?_
  simp only [Tryz.f5]
  unfold lazarettolaw12_TypingParts at h
  refine bi h fun r_1 h hr_1 => ?_
  refine tt ?_
  repeat (first | (with_reducible intro _) | (with_reducible refine and_i ?_ ?_; exact ss))
  refine cS (lazarettolaw12_Named_ok hr_1) ?_
  refine fi h F (fun h _ F => ?_) (fun h _ F => ?_)
  refine bi h fun r_2 h hr_2 => ?_
  refine tt ?_
  repeat (first | (with_reducible intro _) | (with_reducible refine and_i ?_ ?_; exact ss))
  refine cS (lazarettolaw12_awake_ok hr_2) ?_
  cases h; exact fin
  refine bi h fun r_3 h hr_3 => ?_
  refine tt ?_
  repeat (first | (with_reducible intro _) | (with_reducible refine and_i ?_ ?_; exact ss))
  refine cS (lazarettolaw12_term_ok hr_3) ?_
  refine fv h F (fun h _ F => ?_) (fun h _ F => ?_)
  refine bi h fun r_4 h hr_4 => ?_
  refine tt ?_
  repeat (first | (with_reducible intro _) | (with_reducible refine and_i ?_ ?_; exact ss))
  refine cS (lazarettolaw12_term_ok hr_4) ?_
  refine fv h F (fun h _ F => ?_) (fun h _ F => ?_)
  refine bi h fun r_5 h hr_5 => ?_
  refine tt ?_
  repeat (first | (with_reducible intro _) | (with_reducible refine and_i ?_ ?_; exact ss))
  refine cS (typing_Expr_ok hr_5) ?_
  refine bi h fun r_6 h hr_6 => ?_
  refine tt ?_
  repeat (first | (with_reducible intro _) | (with_reducible refine and_i ?_ ?_; exact ss))
  refine cS (typing_Expr_ok hr_6) ?_
  refine bi h fun e_8 h he_8 => ?_
  refine tt ?_
  refine lE (fun (s__ : Nat) (a__ : Unit) => match s__, a__ with | op_7, _ => ⟨[(3, .one (.ref 0 0 0 0)), (4, .one (.ref 1 0 0 0)), (5, .one (.ref 2 0 0 0)), (7, .one (.int .i64 r_5.1)), (8, .one (.bool r_5.2)), (9, .one (.int .i64 r_6.1)), (10, .one (.bool r_6.2)), (11, .one (.int .i64 (op_7 : Int)))], [.cells 0 6 [[.sl (p.Lattice.Names.map eS), .sl (p.Lattice.Below.map (eA2 eI)), .sl (p.Sites.map e_api_Site), .sl (p.Vars.map e_api_Var), .sl (p.Blocks.map e_api_Block), .sl (p.Tasks.map e_api_Task)]], .cells 0 5 [[.int .i64 a.Op, .int .i64 a.N, .int .i64 a.Kind, .str a.Name, .sl (a.Args.map e_api_Expr)]], .cells 0 5 [[.int .i64 b.Op, .int .i64 b.N, .int .i64 b.Kind, .str b.Name, .sl (b.Args.map e_api_Expr)]]]⟩) (fun (e__ : Bool ⊕ Unit) (b__ : Unit) => match e__, b__ with | (.inl e_12), _ => ⟨[], []⟩ | (.inr ()), _ => ⟨[], [.cells 0 6 [[.sl (p.Lattice.Names.map eS), .sl (p.Lattice.Below.map (eA2 eI)), .sl (p.Sites.map e_api_Site), .sl (p.Vars.map e_api_Var), .sl (p.Blocks.map e_api_Block), .sl (p.Tasks.map e_api_Task)]], .cells 0 5 [[.int .i64 a.Op, .int .i64 a.N, .int .i64 a.Kind, .str a.Name, .sl (a.Args.map e_api_Expr)]], .cells 0 5 [[.int .i64 b.Op, .int .i64 b.N, .int .i64 b.Kind, .str b.Name, .sl (b.Args.map e_api_Expr)]]]⟩) (fun (e__ : Bool ⊕ Unit) => match e__ with | (.inl _) => none | (.inr _) => some 0) () he_8 ?_ ?_
  intro i9 b9 hi9
  rcases e_8 with e_case | ⟨⟩
  cases hi9
  obtain rfl := Option.some.inj hi9
  obtain ⟨⟩ := b9
  dsimp only at h ⊢
  refine bi h fun r_13 h hr_13 => ?_
  refine tt ?_
  repeat (first | (with_reducible intro _) | (with_reducible refine and_i ?_ ?_; exact ss))
  refine cS (lazarettolaw12_awake_ok hr_13) ?_
  cases h; exact fin
  intro af9 m9 op_7 a9 o9 hf9 ho9 ih9
  obtain ⟨⟩ := a9
  dsimp only [lazarettolaw12_TypingParts_L1] at hf9 ⊢
  refine fi hf9 F (fun hf9 _ F => ?_) (fun hf9 _ F => ?_)
  refine bi hf9 fun r_10 hf9 hr_10 => ?_
  refine tt ?_
  repeat (first | (with_reducible intro _) | (with_reducible refine and_i ?_ ?_; exact ss))
  refine cS (typing_Expr_ok hr_10) ?_
  refine tt ?_
  refine fv hf9 F (fun hf9 _ F => ?_) (fun hf9 _ F => ?_)
  refine fv hf9 F (fun hf9 _ F => ?_) (fun hf9 _ F => ?_)
  refine tt ?_
  refine fi hf9 F (fun hf9 _ F => ?_) (fun hf9 _ F => ?_)
  refine bi hf9 fun r_11 hf9 hr_11 => ?_
  refine tt ?_
  repeat (first | (with_reducible intro _) | (with_reducible refine and_i ?_ ?_; exact ss))
  refine cS (lazarettoref03_Result_ok hr_11) ?_
  refine fi hf9 F (fun hf9 _ F => ?_) (fun hf9 _ F => ?_)
  refine tt ?_
  refine fv hf9 F (fun hf9 _ F => ?_) (fun hf9 _ F => ?_)
  cases hf9
  refine tt ?_
  refine wn op_7 F fun F => ?_
  exact bk ih9 ho9 ()
  cases hf9
  obtain rfl := sr ho9
  try dsimp only at h
  cases h
  exact fin
  cases hf9
  obtain rfl := sr ho9
  try dsimp only at h
  cases h
  exact fin
  refine fi hf9 F (fun hf9 _ F => ?_) (fun hf9 _ F => ?_)
  refine tt ?_
  refine fv hf9 F (fun hf9 _ F => ?_) (fun hf9 _ F => ?_)
  cases hf9
  obtain rfl := sr ho9
  try dsimp only at h
  cases h
  exact fin
  cases hf9
  refine tt ?_
  refine wn op_7 F fun F => ?_
  exact bk ih9 ho9 ()
  cases hf9
  obtain rfl := sr ho9
  try dsimp only at h
  cases h
  exact fin
  refine tt ?_
  refine fi hf9 F (fun hf9 _ F => ?_) (fun hf9 _ F => ?_)
  refine fv hf9 F (fun hf9 _ F => ?_) (fun hf9 _ F => ?_)
  cases hf9
  obtain rfl := sr ho9
  try dsimp only at h
  cases h
  exact fin
  cases hf9
  refine tt ?_
  refine wn op_7 F fun F => ?_
  exact bk ih9 ho9 ()
  cases hf9
  obtain rfl := sr ho9
  try dsimp only at h
  cases h
  exact fin
  refine tt ?_
  refine fi hf9 F (fun hf9 _ F => ?_) (fun hf9 _ F => ?_)
  refine fv hf9 F (fun hf9 _ F => ?_) (fun hf9 _ F => ?_)
  cases hf9
  obtain rfl := sr ho9
  try dsimp only at h
  cases h
  exact fin
  cases hf9
  refine tt ?_
  refine wn op_7 F fun F => ?_
  exact bk ih9 ho9 ()
  cases hf9
  obtain rfl := sr ho9
  try dsimp only at h
  cases h
  exact fin
  cases hf9
  refine tt ?_
  exact xt ho9 af9 ()
  refine bi h fun r_14 h hr_14 => ?_
  refine tt ?_
  repeat (first | (with_reducible intro _) | (with_reducible refine and_i ?_ ?_; exact ss))
  refine cS (lazarettolaw12_awake_ok hr_14) ?_
  cases h; exact fin
  refine bi h fun r_15 h hr_15 => ?_
  refine tt ?_
  repeat (first | (with_reducible intro _) | (with_reducible refine and_i ?_ ?_; exact ss))
  refine cS (lazarettolaw12_awake_ok hr_15) ?_
  cases h; exact fin
theorem lazarettolaw12_TypingEach_ok {p : api_Program} {r : Bool} (h : lazarettolaw12_TypingEach p = some r) :
    Pu Tryz.prog 6 [.agg (e_api_Program p)] (.one (.bool r)) := by
  have F := trivial; have R := trivial
  refine pA Tryz.func6 ?_
  simp only [Tryz.f6]
  unfold lazarettolaw12_TypingEach at h
  refine bi h fun r_1 h hr_1 => ?_
  refine tt ?_
  repeat (first | (with_reducible intro _) | (with_reducible refine and_i ?_ ?_; exact ss))
  refine cS (lazarettolaw12_Named_ok hr_1) ?_
  refine fi h F (fun h _ F => ?_) (fun h _ F => ?_)
  refine bi h fun r_2 h hr_2 => ?_
  refine tt ?_
  repeat (first | (with_reducible intro _) | (with_reducible refine and_i ?_ ?_; exact ss))
  refine cS (lazarettolaw12_awake_ok hr_2) ?_
  cases h; exact fin
  refine bi h fun e_4 h he_4 => ?_
  refine tt ?_
  refine lE (fun (s__ : Nat) (a__ : Unit) => match s__, a__ with | i_3, _ => ⟨[(1, .one (.ref 0 0 0 0)), (3, .one (.int .i64 (i_3 : Int)))], [.cells 0 6 [[.sl (p.Lattice.Names.map eS), .sl (p.Lattice.Below.map (eA2 eI)), .sl (p.Sites.map e_api_Site), .sl (p.Vars.map e_api_Var), .sl (p.Blocks.map e_api_Block), .sl (p.Tasks.map e_api_Task)]]]⟩) (fun (e__ : Bool ⊕ Unit) (b__ : Unit) => match e__, b__ with | (.inl e_15), _ => ⟨[], []⟩ | (.inr ()), _ => ⟨[], [.cells 0 6 [[.sl (p.Lattice.Names.map eS), .sl (p.Lattice.Below.map (eA2 eI)), .sl (p.Sites.map e_api_Site), .sl (p.Vars.map e_api_Var), .sl (p.Blocks.map e_api_Block), .sl (p.Tasks.map e_api_Task)]]]⟩) (fun (e__ : Bool ⊕ Unit) => match e__ with | (.inl _) => none | (.inr _) => some 0) () he_4 ?_ ?_
  intro i5 b5 hi5
  rcases e_4 with e_case | ⟨⟩
  cases hi5
  obtain rfl := Option.some.inj hi5
  obtain ⟨⟩ := b5
  dsimp only at h ⊢
  refine bi h fun r_16 h hr_16 => ?_
  refine tt ?_
  repeat (first | (with_reducible intro _) | (with_reducible refine and_i ?_ ?_; exact ss))
  refine cS (lazarettolaw12_awake_ok hr_16) ?_
  cases h; exact fin
  intro af5 m5 i_3 a5 o5 hf5 ho5 ih5
  obtain ⟨⟩ := a5
  dsimp only [lazarettolaw12_TypingEach_L1] at hf5 ⊢
  refine tt ?_
  repeat (first | (with_reducible intro _) | (with_reducible refine and_i ?_ ?_; exact ss))
  refine fl hf5 F (fun hf5 _ F => ?_) (fun hf5 _ F => ?_)
  refine bx hf5 F fun x_6 hf5 hx_6 F => ?_
  refine bi hf5 fun e_9 hf5 he_9 => ?_
  refine tt ?_
  repeat (first | (with_reducible intro _) | (with_reducible refine and_i ?_ ?_; exact ss))
  refine lE (fun (s__ : Bool × Nat) (a__ : Unit) => match s__, a__ with | (all_7, k_8), _ => ⟨[(1, .one (.ref 0 0 0 0)), (3, .one (.int .i64 (i_3 : Int))), (4, .one (.sl (x_6.Body.map e_api_Stmt))), (5, .one (.bool all_7)), (6, .one (.int .i64 (k_8 : Int)))], [.cells 0 6 [[.sl (p.Lattice.Names.map eS), .sl (p.Lattice.Below.map (eA2 eI)), .sl (p.Sites.map e_api_Site), .sl (p.Vars.map e_api_Var), .sl (p.Blocks.map e_api_Block), .sl (p.Tasks.map e_api_Task)]]]⟩) (fun (e__ : Bool) (b__ : Unit) => match e__, b__ with | e_9, _ => ⟨[(1, .one (.ref 0 0 0 0)), (3, .one (.int .i64 (i_3 : Int))), (4, .one (.sl (x_6.Body.map e_api_Stmt))), (5, .one (.bool e_9))], [.cells 0 6 [[.sl (p.Lattice.Names.map eS), .sl (p.Lattice.Below.map (eA2 eI)), .sl (p.Sites.map e_api_Site), .sl (p.Vars.map e_api_Var), .sl (p.Blocks.map e_api_Block), .sl (p.Tasks.map e_api_Task)]]]⟩) (fun (_ : Bool) => some 2) () he_9 ?_ ?_
  intro i10 b10 hi10
  obtain rfl := Option.some.inj hi10
  obtain ⟨⟩ := b10
  dsimp only at hf5 ⊢
  refine bi hf5 fun r_14 hf5 hr_14 => ?_
  refine tt ?_
  repeat (first | (with_reducible intro _) | (with_reducible refine and_i ?_ ?_; exact ss))
  refine cS (typing_Stmts_ok hr_14) ?_
  refine fv hf5 F (fun hf5 _ F => ?_) (fun hf5 _ F => ?_)
  cases hf5
  refine tt ?_
  refine wn i_3 F fun F => ?_
  exact bk ih5 ho5 ()
  cases hf5
  obtain rfl := sr ho5
  try dsimp only at h
  cases h
  exact fin
  intro af10 m10 s10 a10 o10 hf10 ho10 ih10
  obtain ⟨all_7, k_8⟩ := s10
  obtain ⟨⟩ := a10
  dsimp only [lazarettolaw12_TypingEach_L2] at hf10 ⊢
  refine tt ?_
  repeat (first | (with_reducible intro _) | (with_reducible refine and_i ?_ ?_; exact ss))
  refine fl hf10 F (fun hf10 _ F => ?_) (fun hf10 _ F => ?_)
  refine nd hf10 F fun hf10 F => ?_
  refine bi hf10 fun r_12 hf10 hr_12 => ?_
  refine tt ?_
  repeat (first | (with_reducible intro _) | (with_reducible refine and_i ?_ ?_; exact ss))
  refine cD (typing_Stmts_ok hr_12) ?_
  refine tt ?_
  repeat (first | (with_reducible intro _) | (with_reducible refine and_i ?_ ?_; exact ss))
  refine fv hf10 F (fun hf10 _ F => ?_) (fun hf10 _ F => ?_)
  cases hf10
  refine tt ?_
  repeat (first | (with_reducible intro _) | (with_reducible refine and_i ?_ ?_; exact ss))
  refine wn k_8 F fun F => ?_
  exact bk ih10 ho10 ()
  cases hf10
  refine tt ?_
  repeat (first | (with_reducible intro _) | (with_reducible refine and_i ?_ ?_; exact ss))
  refine wn k_8 F fun F => ?_
  exact bk ih10 ho10 ()
  cases hf10
  refine tt ?_
  exact xt ho10 af10 ()
  cases hf5
  refine tt ?_
  exact xt ho5 af5 ()
end Go.Lz
