/- The parts of a proof: V141 -/
import Derived.Test.YtcceddpmmgabjaaGreatQ5
section
namespace Go.Lz
set_option linter.unusedVariables false
set_option linter.unusedSimpArgs false
open Go.Proofs
attribute [-go_sem] q_cond g_b gd_b
set_option maxRecDepth 100000
set_option maxHeartbeats 4000000
theorem lazarettoref10_stmts_b_ok {lazarettoref10_stmts_r : api_Program → (List api_Stmt) → Option Bool} {p : api_Program} {l : List api_Stmt} {r : Bool}
    (lazarettoref10_stmts_r_ok : ∀ (x0 : api_Program) (x1 : List api_Stmt) (r : Bool), lazarettoref10_stmts_r x0 x1 = some r → Pu Tryz.prog 113 [.agg (e_api_Program x0), .one (.sl (x1.map e_api_Stmt))] (.one (.bool r))) (h : lazarettoref10_stmts_b lazarettoref10_stmts_r p l = some r) :
    Pu Tryz.prog 113 [.agg (e_api_Program p), .one (.sl (l.map e_api_Stmt))] (.one (.bool r)) := by
  have F := trivial; have R := trivial
  refine pA Tryz.func113 ?_
  simp only [Tryz.f113]
  unfold lazarettoref10_stmts_b at h
  refine bi h fun e_2 h he_2 => ?_
  refine tt ?_
  refine lX he_2 (fun | i_1, _ => ⟨[(1, .one (.sl (l.map e_api_Stmt))), (2, .one (.ref 0 0 0 0)), (5, .one (.int .i64 (i_1 : Int)))], [.cells 0 6 [[.sl (p.Lattice.Names.map eS), .sl (p.Lattice.Below.map (eA2 eI)), .sl (p.Sites.map e_api_Site), .sl (p.Vars.map e_api_Var), .sl (p.Blocks.map e_api_Block), .sl (p.Tasks.map e_api_Task)]]]⟩) (fun | (.inl e_22), _ => ⟨[], []⟩ | (.inr ()), _ => ⟨[], [.cells 0 6 [[.sl (p.Lattice.Names.map eS), .sl (p.Lattice.Below.map (eA2 eI)), .sl (p.Sites.map e_api_Site), .sl (p.Vars.map e_api_Var), .sl (p.Blocks.map e_api_Block), .sl (p.Tasks.map e_api_Task)]]]⟩) (fun | (.inl _) => none | (.inr _) => some 0) ?_ ?_
  intro i3 b3 hi3
  rcases e_2 with e_case | ⟨⟩
  cases hi3
  obtain rfl := Option.some.inj hi3
  obtain ⟨⟩ := b3
  dsimp only at h ⊢
  cases h; exact fin
  intro af3 m3 i_1 a3 o3 hf3 ho3 ih3
  obtain ⟨⟩ := a3
  dsimp only [lazarettoref10_stmts_L1] at hf3 ⊢
  refine tr ?_
  intros
  refine fl hf3 F ?_ ?_ <;> intro hf3 _ F
  refine bx hf3 F fun x_4 hf3 hx_4 F => ?_
  refine tr ?_
  intros
  refine fi hf3 F ?_ ?_ <;> intro hf3 _ F
  refine bi hf3 fun r_5 hf3 hr_5 => ?_
  refine tr ?_
  intros
  refine cS (lazarettoref10_Var_ok hr_5) ?_
  refine fi hf3 F ?_ ?_ <;> intro hf3 _ F
  cases hf3
  obtain rfl := sr ho3
  try dsimp only at h
  cases h
  exact fin
  refine tt ?_
  refine fi hf3 F ?_ ?_ <;> intro hf3 _ F
  exact (by omega : False).elim
  refine bi hf3 fun r_6 hf3 hr_6 => ?_
  refine tr ?_
  intros
  refine cS (lazarettoref10_term_ok hr_6) ?_
  refine fv hf3 F ?_ ?_ <;> intro hf3 _ F
  refine bi hf3 fun r_7 hf3 hr_7 => ?_
  refine tr ?_
  intros
  refine cS (lazarettoref10_term_ok hr_7) ?_
  refine fv hf3 F ?_ ?_ <;> intro hf3 _ F
  refine bi hf3 fun r_8 hf3 hr_8 => ?_
  refine tr ?_
  intros
  refine cS (lazarettoref10_terms_ok hr_8) ?_
  refine fv hf3 F ?_ ?_ <;> intro hf3 _ F
  refine bi hf3 fun r_9 hf3 hr_9 => ?_
  refine tr ?_
  intros
  refine cS (lazarettoref10_stmts_r_ok _ _ _ hr_9) ?_
  refine fv hf3 F ?_ ?_ <;> intro hf3 _ F
  refine bi hf3 fun r_10 hf3 hr_10 => ?_
  refine tr ?_
  intros
  refine cS (lazarettoref10_stmts_r_ok _ _ _ hr_10) ?_
  refine fv hf3 F ?_ ?_ <;> intro hf3 _ F
  cases hf3
  refine tt ?_
  refine wn i_1 F fun F => ?_
  exact bk ih3 ho3 ()
  cases hf3
  obtain rfl := sr ho3
  try dsimp only at h
  cases h
  exact fin
  cases hf3
  obtain rfl := sr ho3
  try dsimp only at h
  cases h
  exact fin
  cases hf3
  obtain rfl := sr ho3
  try dsimp only at h
  cases h
  exact fin
  cases hf3
  obtain rfl := sr ho3
  try dsimp only at h
  cases h
  exact fin
  cases hf3
  obtain rfl := sr ho3
  try dsimp only at h
  cases h
  exact fin
  refine fi hf3 F ?_ ?_ <;> intro hf3 _ F
  refine bi hf3 fun r_11 hf3 hr_11 => ?_
  refine tr ?_
  intros
  refine cS (lazarettoref10_Block_ok hr_11) ?_
  refine fi hf3 F ?_ ?_ <;> intro hf3 _ F
  cases hf3
  obtain rfl := sr ho3
  try dsimp only at h
  cases h
  exact fin
  refine bi hf3 fun r_12 hf3 hr_12 => ?_
  refine tr ?_
  intros
  refine cS (lazarettoref10_term_ok hr_12) ?_
  refine fv hf3 F ?_ ?_ <;> intro hf3 _ F
  refine bi hf3 fun r_13 hf3 hr_13 => ?_
  refine tr ?_
  intros
  refine cS (lazarettoref10_term_ok hr_13) ?_
  refine fv hf3 F ?_ ?_ <;> intro hf3 _ F
  refine bi hf3 fun r_14 hf3 hr_14 => ?_
  refine tr ?_
  intros
  refine cS (lazarettoref10_terms_ok hr_14) ?_
  refine fv hf3 F ?_ ?_ <;> intro hf3 _ F
  refine bi hf3 fun r_15 hf3 hr_15 => ?_
  refine tr ?_
  intros
  refine cS (lazarettoref10_stmts_r_ok _ _ _ hr_15) ?_
  refine fv hf3 F ?_ ?_ <;> intro hf3 _ F
  refine bi hf3 fun r_16 hf3 hr_16 => ?_
  refine tr ?_
  intros
  refine cS (lazarettoref10_stmts_r_ok _ _ _ hr_16) ?_
  refine fv hf3 F ?_ ?_ <;> intro hf3 _ F
  cases hf3
  refine tt ?_
  refine wn i_1 F fun F => ?_
  exact bk ih3 ho3 ()
  cases hf3
  obtain rfl := sr ho3
  try dsimp only at h
  cases h
  exact fin
  cases hf3
  obtain rfl := sr ho3
  try dsimp only at h
  cases h
  exact fin
  cases hf3
  obtain rfl := sr ho3
  try dsimp only at h
  cases h
  exact fin
  cases hf3
  obtain rfl := sr ho3
  try dsimp only at h
  cases h
  exact fin
  cases hf3
  obtain rfl := sr ho3
  try dsimp only at h
  cases h
  exact fin
  refine bi hf3 fun r_17 hf3 hr_17 => ?_
  refine tr ?_
  intros
  refine cS (lazarettoref10_term_ok hr_17) ?_
  refine fv hf3 F ?_ ?_ <;> intro hf3 _ F
  refine bi hf3 fun r_18 hf3 hr_18 => ?_
  refine tr ?_
  intros
  refine cS (lazarettoref10_term_ok hr_18) ?_
  refine fv hf3 F ?_ ?_ <;> intro hf3 _ F
  refine bi hf3 fun r_19 hf3 hr_19 => ?_
  refine tr ?_
  intros
  refine cS (lazarettoref10_terms_ok hr_19) ?_
  refine fv hf3 F ?_ ?_ <;> intro hf3 _ F
  refine bi hf3 fun r_20 hf3 hr_20 => ?_
  refine tr ?_
  intros
  refine cS (lazarettoref10_stmts_r_ok _ _ _ hr_20) ?_
  refine fv hf3 F ?_ ?_ <;> intro hf3 _ F
  refine bi hf3 fun r_21 hf3 hr_21 => ?_
  refine tr ?_
  intros
  refine cS (lazarettoref10_stmts_r_ok _ _ _ hr_21) ?_
  refine fv hf3 F ?_ ?_ <;> intro hf3 _ F
  cases hf3
  refine tt ?_
  refine wn i_1 F fun F => ?_
  exact bk ih3 ho3 ()
  cases hf3
  obtain rfl := sr ho3
  try dsimp only at h
  cases h
  exact fin
  cases hf3
  obtain rfl := sr ho3
  try dsimp only at h
  cases h
  exact fin
  cases hf3
  obtain rfl := sr ho3
  try dsimp only at h
  cases h
  exact fin
  cases hf3
  obtain rfl := sr ho3
  try dsimp only at h
  cases h
  exact fin
  cases hf3
  obtain rfl := sr ho3
  try dsimp only at h
  cases h
  exact fin
  cases hf3
  refine tt ?_
  exact xt ho3 af3 ()
theorem lazarettoref10_stmts_g_ok (n : Nat) : (∀ (x0 : api_Program) (x1 : List api_Stmt) (r : Bool), (lazarettoref10_stmts_g n) x0 x1 = some r → Pu Tryz.prog 113 [.agg (e_api_Program x0), .one (.sl (x1.map e_api_Stmt))] (.one (.bool r))) := by
  induction n with
  | zero => exact fun _ _ r h => (by cases h)
  | succ n ih =>
    have ih0 := ih
    exact fun _ _ r h => lazarettoref10_stmts_b_ok ih0 h
theorem lazarettoref10_stmts_ok {p : api_Program} {l : List api_Stmt} {r : Bool} (h : lazarettoref10_stmts p l = some r) : Pu Tryz.prog 113 [.agg (e_api_Program p), .one (.sl (l.map e_api_Stmt))] (.one (.bool r)) := (lazarettoref10_stmts_g_ok 1000000) _ _ _ h
theorem lazarettoref10_Check_ok {p : api_Program} {r : Int} (h : lazarettoref10_Check p = some r) :
    Pu Tryz.prog 79 [.agg (e_api_Program p)] (.one (.int .i64 r)) := by
  have F := trivial; have R := trivial
  refine pA Tryz.func79 ?_
  simp only [Tryz.f79]
  unfold lazarettoref10_Check at h
  refine bi h fun e_5 h he_5 => ?_
  refine tt ?_
  refine seed_L 3 1 (by simp [go_sem]) ?_
  refine lE (fun (s__ : (List Str) × Nat) (a__ : Nat) => match s__, a__ with | (l_2, i_4), v_1 => ⟨[(1, .one (.ref 0 0 0 0)), (3, .one (.msl 1 v_1 0 l_2.length)), (4, .one (.int .i64 (i_4 : Int)))], [.cells 0 6 [[.sl (p.Lattice.Names.map eS), .sl (p.Lattice.Below.map (eA2 eI)), .sl (p.Sites.map e_api_Site), .sl (p.Vars.map e_api_Var), .sl (p.Blocks.map e_api_Block), .sl (p.Tasks.map e_api_Task)]], .cells v_1 1 (l_2.map eS)]⟩) (fun (e__ : List Str) (b__ : Nat) => match e__, b__ with | e_5, b6 => ⟨[(1, .one (.ref 0 0 0 0)), (3, .one (.msl 1 b6 0 e_5.length))], [.cells 0 6 [[.sl (p.Lattice.Names.map eS), .sl (p.Lattice.Below.map (eA2 eI)), .sl (p.Sites.map e_api_Site), .sl (p.Vars.map e_api_Var), .sl (p.Blocks.map e_api_Block), .sl (p.Tasks.map e_api_Task)]], .cells b6 1 (e_5.map eS)]⟩) (fun (_ : List Str) => some 0) 0 he_5 ?_ ?_
  intro i6 b6 hi6
  obtain rfl := Option.some.inj hi6
  dsimp only at h ⊢
  refine bi h fun e_14 h he_14 => ?_
  refine tt ?_
  refine lE (fun (s__ : (List Str) × Nat) (a__ : Nat) => match s__, a__ with | (l_11, i_13), v_10 => ⟨[(1, .one (.ref 0 0 0 0)), (3, .one (.msl 1 v_10 0 l_11.length)), (5, .one (.int .i64 (i_13 : Int)))], [.cells 0 6 [[.sl (p.Lattice.Names.map eS), .sl (p.Lattice.Below.map (eA2 eI)), .sl (p.Sites.map e_api_Site), .sl (p.Vars.map e_api_Var), .sl (p.Blocks.map e_api_Block), .sl (p.Tasks.map e_api_Task)]], .cells v_10 1 (l_11.map eS)]⟩) (fun (e__ : List Str) (b__ : Nat) => match e__, b__ with | e_14, b15 => ⟨[(1, .one (.ref 0 0 0 0)), (3, .one (.msl 1 b15 0 e_14.length))], [.cells 0 6 [[.sl (p.Lattice.Names.map eS), .sl (p.Lattice.Below.map (eA2 eI)), .sl (p.Sites.map e_api_Site), .sl (p.Vars.map e_api_Var), .sl (p.Blocks.map e_api_Block), .sl (p.Tasks.map e_api_Task)]], .cells b15 1 (e_14.map eS)]⟩) (fun (_ : List Str) => some 2) b6 he_14 ?_ ?_
  intro i15 b15 hi15
  obtain rfl := Option.some.inj hi15
  dsimp only at h ⊢
  refine bi h fun e_23 h he_23 => ?_
  refine tt ?_
  refine lE (fun (s__ : (List Str) × Nat) (a__ : Nat) => match s__, a__ with | (l_20, i_22), v_19 => ⟨[(1, .one (.ref 0 0 0 0)), (3, .one (.msl 1 v_19 0 l_20.length)), (6, .one (.int .i64 (i_22 : Int)))], [.cells 0 6 [[.sl (p.Lattice.Names.map eS), .sl (p.Lattice.Below.map (eA2 eI)), .sl (p.Sites.map e_api_Site), .sl (p.Vars.map e_api_Var), .sl (p.Blocks.map e_api_Block), .sl (p.Tasks.map e_api_Task)]], .cells v_19 1 (l_20.map eS)]⟩) (fun (e__ : List Str) (b__ : Nat) => match e__, b__ with | e_23, b24 => ⟨[(1, .one (.ref 0 0 0 0)), (3, .one (.msl 1 b24 0 e_23.length))], [.cells 0 6 [[.sl (p.Lattice.Names.map eS), .sl (p.Lattice.Below.map (eA2 eI)), .sl (p.Sites.map e_api_Site), .sl (p.Vars.map e_api_Var), .sl (p.Blocks.map e_api_Block), .sl (p.Tasks.map e_api_Task)]], .cells b24 1 (e_23.map eS)]⟩) (fun (_ : List Str) => some 4) b15 he_23 ?_ ?_
  intro i24 b24 hi24
  obtain rfl := Option.some.inj hi24
  dsimp only at h ⊢
  refine bi h fun e_29 h he_29 => ?_
  refine tt ?_
  refine lX he_29 (fun | i_28, _ => ⟨[(1, .one (.ref 0 0 0 0)), (3, .one (.msl 1 b24 0 e_23.length)), (7, .one (.int .i64 (i_28 : Int)))], [.cells 0 6 [[.sl (p.Lattice.Names.map eS), .sl (p.Lattice.Below.map (eA2 eI)), .sl (p.Sites.map e_api_Site), .sl (p.Vars.map e_api_Var), .sl (p.Blocks.map e_api_Block), .sl (p.Tasks.map e_api_Task)]], .cells b24 1 (e_23.map eS)]⟩) (fun | (.inl e_37), _ => ⟨[], []⟩ | (.inr ()), _ => ⟨[(1, .one (.ref 0 0 0 0))], [.cells 0 6 [[.sl (p.Lattice.Names.map eS), .sl (p.Lattice.Below.map (eA2 eI)), .sl (p.Sites.map e_api_Site), .sl (p.Vars.map e_api_Var), .sl (p.Blocks.map e_api_Block), .sl (p.Tasks.map e_api_Task)]], .cells b24 1 (e_23.map eS)]⟩) (fun | (.inl _) => none | (.inr _) => some 6) ?_ ?_
  intro i30 b30 hi30
  rcases e_29 with e_case | ⟨⟩
  cases hi30
  obtain rfl := Option.some.inj hi30
  obtain ⟨⟩ := b30
  dsimp only at h ⊢
  refine bi h fun e_39 h he_39 => ?_
  refine tt ?_
  refine lX he_39 (fun | i_38, _ => ⟨[(1, .one (.ref 0 0 0 0)), (9, .one (.int .i64 (i_38 : Int)))], [.cells 0 6 [[.sl (p.Lattice.Names.map eS), .sl (p.Lattice.Below.map (eA2 eI)), .sl (p.Sites.map e_api_Site), .sl (p.Vars.map e_api_Var), .sl (p.Blocks.map e_api_Block), .sl (p.Tasks.map e_api_Task)]], .cells b24 1 (e_23.map eS)]⟩) (fun | (.inl e_43), _ => ⟨[], []⟩ | (.inr ()), _ => ⟨[], [.cells 0 6 [[.sl (p.Lattice.Names.map eS), .sl (p.Lattice.Below.map (eA2 eI)), .sl (p.Sites.map e_api_Site), .sl (p.Vars.map e_api_Var), .sl (p.Blocks.map e_api_Block), .sl (p.Tasks.map e_api_Task)]], .cells b24 1 (e_23.map eS)]⟩) (fun | (.inl _) => none | (.inr _) => some 10) ?_ ?_
  intro i40 b40 hi40
  rcases e_39 with e_case | ⟨⟩
  cases hi40
  obtain rfl := Option.some.inj hi40
  obtain ⟨⟩ := b40
  dsimp only at h ⊢
  cases h; exact fin
  intro af40 m40 i_38 a40 o40 hf40 ho40 ih40
  obtain ⟨⟩ := a40
  dsimp only [lazarettoref10_Check_L6] at hf40 ⊢
  refine tr ?_
  intros
  refine fl hf40 F ?_ ?_ <;> intro hf40 _ F
  refine bx hf40 F fun x_41 hf40 hx_41 F => ?_
  refine bi hf40 fun r_42 hf40 hr_42 => ?_
  refine tr ?_
  intros
  refine cD (lazarettoref10_stmts_ok hr_42) ?_
  refine tr ?_
  intros
  refine fv hf40 F ?_ ?_ <;> intro hf40 _ F
  cases hf40
  refine tt ?_
  refine wn i_38 F fun F => ?_
  exact bk ih40 ho40 ()
  cases hf40
  obtain rfl := sr ho40
  try dsimp only at h
  cases h
  exact fin
  cases hf40
  refine tt ?_
  exact xt ho40 af40 ()
  intro af30 m30 i_28 a30 o30 hf30 ho30 ih30
  obtain ⟨⟩ := a30
  dsimp only [lazarettoref10_Check_L4] at hf30 ⊢
  refine tr ?_
  intros
  refine fl hf30 F ?_ ?_ <;> intro hf30 _ F
  refine bi hf30 fun e_32 hf30 he_32 => ?_
  refine tt ?_
  refine lX he_32 (fun | k_31, _ => ⟨[(1, .one (.ref 0 0 0 0)), (3, .one (.msl 1 b24 0 e_23.length)), (7, .one (.int .i64 (i_28 : Int))), (8, .one (.int .i64 (k_31 : Int)))], [.cells 0 6 [[.sl (p.Lattice.Names.map eS), .sl (p.Lattice.Below.map (eA2 eI)), .sl (p.Sites.map e_api_Site), .sl (p.Vars.map e_api_Var), .sl (p.Blocks.map e_api_Block), .sl (p.Tasks.map e_api_Task)]], .cells b24 1 (e_23.map eS)]⟩) (fun | (.inl e_36), _ => ⟨[], []⟩ | (.inr ()), _ => ⟨[(1, .one (.ref 0 0 0 0)), (3, .one (.msl 1 b24 0 e_23.length)), (7, .one (.int .i64 (i_28 : Int)))], [.cells 0 6 [[.sl (p.Lattice.Names.map eS), .sl (p.Lattice.Below.map (eA2 eI)), .sl (p.Sites.map e_api_Site), .sl (p.Vars.map e_api_Var), .sl (p.Blocks.map e_api_Block), .sl (p.Tasks.map e_api_Task)]], .cells b24 1 (e_23.map eS)]⟩) (fun | (.inl _) => none | (.inr _) => some 8) ?_ ?_
  intro i33 b33 hi33
  rcases e_32 with e_case | ⟨⟩
  cases hi33
  obtain rfl := Option.some.inj hi33
  obtain ⟨⟩ := b33
  dsimp only at hf30 ⊢
  cases hf30
  refine tt ?_
  refine wn i_28 F fun F => ?_
  exact bk ih30 ho30 ()
  intro af33 m33 k_31 a33 o33 hf33 ho33 ih33
  obtain ⟨⟩ := a33
  dsimp only [lazarettoref10_Check_L5] at hf33 ⊢
  refine fl hf33 F ?_ ?_ <;> intro hf33 _ F
  refine bx hf33 F fun x_34 hf33 hx_34 F => ?_
  refine bx hf33 F fun x_35 hf33 hx_35 F => ?_
  refine tr ?_
  intros
  refine fi hf33 F ?_ ?_ <;> intro hf33 _ F
  cases hf33
  obtain rfl := sr ho33
  try dsimp only at hf30
  cases hf30
  obtain rfl := sr ho30
  try dsimp only at h
  cases h
  exact fin
  cases hf33
  refine tt ?_
  refine wn k_31 F fun F => ?_
  exact bk ih33 ho33 ()
  cases hf33
  refine tt ?_
  exact xt ho33 af33 ()
  cases hf30
  refine tt ?_
  exact xt ho30 af30 ()
  intro af24 m24 s24 v_19 o24 hf24 ho24 ih24
  obtain ⟨l_20, i_22⟩ := s24
  dsimp only [lazarettoref10_Check_L3] at hf24 ⊢
  refine tr ?_
  intros
  refine fl hf24 F ?_ ?_ <;> intro hf24 _ F
  refine bx hf24 F fun x_25 hf24 hx_25 F => ?_
  refine nd hf24 F fun hf24 F => ?_
  cases hf24
  refine tr ?_
  intros
  refine wn i_22 F fun F => ?_
  exact bk ih24 ho24 (v_19 + 1)
  cases hf24
  refine tt ?_
  exact xt ho24 af24 v_19
  intro af15 m15 s15 v_10 o15 hf15 ho15 ih15
  obtain ⟨l_11, i_13⟩ := s15
  dsimp only [lazarettoref10_Check_L2] at hf15 ⊢
  refine tr ?_
  intros
  refine fl hf15 F ?_ ?_ <;> intro hf15 _ F
  refine bx hf15 F fun x_16 hf15 hx_16 F => ?_
  refine nd hf15 F fun hf15 F => ?_
  cases hf15
  refine tr ?_
  intros
  refine wn i_13 F fun F => ?_
  exact bk ih15 ho15 (v_10 + 1)
  cases hf15
  refine tt ?_
  exact xt ho15 af15 v_10
  intro af6 m6 s6 v_1 o6 hf6 ho6 ih6
  obtain ⟨l_2, i_4⟩ := s6
  dsimp only [lazarettoref10_Check_L1] at hf6 ⊢
  refine tr ?_
  intros
  refine fl hf6 F ?_ ?_ <;> intro hf6 _ F
  refine bx hf6 F fun x_7 hf6 hx_7 F => ?_
  refine nd hf6 F fun hf6 F => ?_
  cases hf6
  refine tr ?_
  intros
  refine wn i_4 F fun F => ?_
  exact bk ih6 ho6 (v_1 + 1)
  cases hf6
  refine tt ?_
  exact xt ho6 af6 v_1
theorem lazarettoref11_Inputs_ok {kind : Str} {r : List Int} (h : lazarettoref11_Inputs kind = some r) :
    Pu Tryz.prog 114 [.one (.str kind)] (.one (.sl (r.map eI))) := by
  have F := trivial; have R := trivial
  refine pA Tryz.func114 ?_
  simp only [Tryz.f114]
  unfold lazarettoref11_Inputs at h
  refine fi h F ?_ ?_ <;> intro h _ F
  cases h; exact fin
  refine fi h F ?_ ?_ <;> intro h _ F
  cases h; exact fin
  refine tt ?_
  refine fi h F ?_ ?_ <;> intro h _ F
  cases h; exact fin
  refine fi h F ?_ ?_ <;> intro h _ F
  cases h; exact fin
  refine fi h F ?_ ?_ <;> intro h _ F
  cases h; exact fin
  refine fi h F ?_ ?_ <;> intro h _ F
  cases h; exact fin
  refine tt ?_
  refine fi h F ?_ ?_ <;> intro h _ F
  cases h; exact fin
  refine fi h F ?_ ?_ <;> intro h _ F
  cases h; exact fin
  refine fi h F ?_ ?_ <;> intro h _ F
  cases h; exact fin
  refine fi h F ?_ ?_ <;> intro h _ F
  cases h; exact fin
  cases h; exact fin
theorem lazarettoref11_Outputs_ok {kind : Str} {r : List Int} (h : lazarettoref11_Outputs kind = some r) :
    Pu Tryz.prog 46 [.one (.str kind)] (.one (.sl (r.map eI))) := by
  have F := trivial; have R := trivial
  refine pA Tryz.func46 ?_
  simp only [Tryz.f46]
  unfold lazarettoref11_Outputs at h
  refine fi h F ?_ ?_ <;> intro h _ F
  cases h; exact fin
  refine fi h F ?_ ?_ <;> intro h _ F
  cases h; exact fin
  refine tt ?_
  refine fi h F ?_ ?_ <;> intro h _ F
  cases h; exact fin
  refine fi h F ?_ ?_ <;> intro h _ F
  cases h; exact fin
  refine fi h F ?_ ?_ <;> intro h _ F
  cases h; exact fin
  refine fi h F ?_ ?_ <;> intro h _ F
  cases h; exact fin
  refine tt ?_
  refine fi h F ?_ ?_ <;> intro h _ F
  cases h; exact fin
  refine fi h F ?_ ?_ <;> intro h _ F
  cases h; exact fin
  refine fi h F ?_ ?_ <;> intro h _ F
  cases h; exact fin
  refine fi h F ?_ ?_ <;> intro h _ F
  cases h; exact fin
  cases h; exact fin
theorem lazarettoref03_Result_ok {op : Int} {kind : Int} {r : Int} (h : lazarettoref03_Result op kind = some r) :
    Pu Tryz.prog 48 [.one (.int .i64 op), .one (.int .i64 kind)] (.one (.int .i64 r)) := by
  have F := trivial; have R := trivial
  refine pA Tryz.func48 ?_
  simp only [Tryz.f48]
  unfold lazarettoref03_Result at h
  refine bi h fun r_1 h hr_1 => ?_
  refine tr ?_
  intros
  refine cS (lazarettoref03_Bits_ok hr_1) ?_
  refine fi h F ?_ ?_ <;> intro h _ F
  cases h; exact fin
  refine tt ?_
  refine fi h F ?_ ?_ <;> intro h _ F
  refine fi h F ?_ ?_ <;> intro h _ F
  cases h; exact fin
  cases h; exact fin
  refine fi h F ?_ ?_ <;> intro h _ F
  refine tt ?_
  refine fi h F ?_ ?_ <;> intro h _ F
  refine fi h F ?_ ?_ <;> intro h _ F
  cases h; exact fin
  cases h; exact fin
  refine fi h F ?_ ?_ <;> intro h _ F
  refine tt ?_
  refine fi h F ?_ ?_ <;> intro h _ F
  cases h; exact fin
  cases h; exact fin
  refine fi h F ?_ ?_ <;> intro h _ F
  refine tt ?_
  refine fi h F ?_ ?_ <;> intro h _ F
  refine fi h F ?_ ?_ <;> intro h _ F
  cases h; exact fin
  cases h; exact fin
  refine fi h F ?_ ?_ <;> intro h _ F
  cases h; exact fin
  refine tt ?_
  refine fi h F ?_ ?_ <;> intro h _ F
  cases h; exact fin
  refine fi h F ?_ ?_ <;> intro h _ F
  refine tt ?_
  refine fi h F ?_ ?_ <;> intro h _ F
  refine fi h F ?_ ?_ <;> intro h _ F
  cases h; exact fin
  cases h; exact fin
  cases h; exact fin
  cases h; exact fin
  refine tt ?_
  refine fi h F ?_ ?_ <;> intro h _ F
  cases h; exact fin
  refine fi h F ?_ ?_ <;> intro h _ F
  cases h; exact fin
  refine tt ?_
  refine fi h F ?_ ?_ <;> intro h _ F
  refine fi h F ?_ ?_ <;> intro h _ F
  refine fi h F ?_ ?_ <;> intro h _ F
  cases h; exact fin
  cases h; exact fin
  cases h; exact fin
  cases h; exact fin
  refine tt ?_
  refine fi h F ?_ ?_ <;> intro h _ F
  refine fi h F ?_ ?_ <;> intro h _ F
  cases h; exact fin
  cases h; exact fin
  refine fi h F ?_ ?_ <;> intro h _ F
  refine tt ?_
  refine fi h F ?_ ?_ <;> intro h _ F
  refine fi h F ?_ ?_ <;> intro h _ F
  cases h; exact fin
  cases h; exact fin
  refine fi h F ?_ ?_ <;> intro h _ F
  cases h; exact fin
  refine tt ?_
  refine fi h F ?_ ?_ <;> intro h _ F
  cases h; exact fin
  refine fi h F ?_ ?_ <;> intro h _ F
  refine tt ?_
  refine fi h F ?_ ?_ <;> intro h _ F
  refine fi h F ?_ ?_ <;> intro h _ F
  cases h; exact fin
  cases h; exact fin
  cases h; exact fin
  cases h; exact fin
  refine tt ?_
  refine fi h F ?_ ?_ <;> intro h _ F
  cases h; exact fin
  refine fi h F ?_ ?_ <;> intro h _ F
  cases h; exact fin
  refine tt ?_
  refine fi h F ?_ ?_ <;> intro h _ F
  refine fi h F ?_ ?_ <;> intro h _ F
  refine fi h F ?_ ?_ <;> intro h _ F
  cases h; exact fin
  cases h; exact fin
  cases h; exact fin
  cases h; exact fin
theorem lazarettoref12_Expr_b_ok {lazarettoref12_Expr_r : api_Program → api_Expr → Option Int} {p : api_Program} {e : api_Expr} {r : Int}
    (lazarettoref12_Expr_r_ok : ∀ (x0 : api_Program) (x1 : api_Expr) (r : Int), lazarettoref12_Expr_r x0 x1 = some r → Pu Tryz.prog 18 [.agg (e_api_Program x0), .agg (e_api_Expr x1)] (.one (.int .i64 r))) (h : lazarettoref12_Expr_b lazarettoref12_Expr_r p e = some r) :
    Pu Tryz.prog 18 [.agg (e_api_Program p), .agg (e_api_Expr e)] (.one (.int .i64 r)) := by
  have F := trivial; have R := trivial
  refine pA Tryz.func18 ?_
  simp only [Tryz.f18]
  unfold lazarettoref12_Expr_b at h
  refine tt ?_
  refine fi h F ?_ ?_ <;> intro h _ F
  cases h; exact fin
  refine fi h F ?_ ?_ <;> intro h _ F
  refine bi h fun r_1 h hr_1 => ?_
  refine tr ?_
  intros
  refine cS (lazarettoref10_Var_ok hr_1) ?_
  refine tr ?_
  intros
  refine fi h F ?_ ?_ <;> intro h _ F
  cases h; exact fin
  refine by_ h F fun x_2 h hx_2 F => ?_
  refine tr ?_
  intros
  refine fv h F ?_ ?_ <;> intro h _ F
  refine tr ?_
  intros
  refine fi h F ?_ ?_ <;> intro h _ F
  exact (by omega : False).elim
  cases h; exact fin
  cases h; exact fin
  refine fi h F ?_ ?_ <;> intro h _ F
  refine bi h fun r_3 h hr_3 => ?_
  refine tr ?_
  intros
  refine cS (lazarettoref10_Var_ok hr_3) ?_
  refine tr ?_
  intros
  refine fi h F ?_ ?_ <;> intro h _ F
  cases h; exact fin
  refine by_ h F fun x_4 h hx_4 F => ?_
  refine tr ?_
  intros
  refine fi h F ?_ ?_ <;> intro h _ F
  refine bx h F fun x_5 h hx_5 F => ?_
  refine bi h fun r_6 h hr_6 => ?_
  refine tr ?_
  intros
  refine cD (lazarettoref12_Expr_r_ok _ _ _ hr_6) ?_
  refine tr ?_
  intros
  refine fi h F ?_ ?_ <;> intro h _ F
  cases h; exact fin
  cases h; exact fin
  cases h; exact fin
  refine fi h F ?_ ?_ <;> intro h _ F
  refine bi h fun r_7 h hr_7 => ?_
  refine tr ?_
  intros
  refine cS (lazarettoref10_Block_ok hr_7) ?_
  refine fi h F ?_ ?_ <;> intro h _ F
  cases h; exact fin
  refine by_ h F fun x_8 h hx_8 F => ?_
  refine bi h fun r_9 h hr_9 => ?_
  refine tr ?_
  intros
  refine cS (lazarettoref11_Outputs_ok hr_9) ?_
  refine fi h F ?_ ?_ <;> intro h _ F
  cases h; exact fin
  refine tr ?_
  intros
  refine fi h F ?_ ?_ <;> intro h _ F
  cases h; exact fin
  refine by_ h F fun x_10 h hx_10 F => ?_
  cases h; exact fin
  refine tt ?_
  refine fi h F ?_ ?_ <;> intro h _ F
  refine bi h fun r_11 h hr_11 => ?_
  refine tr ?_
  intros
  refine cS (lazarettoref10_Site_ok hr_11) ?_
  refine fi h F ?_ ?_ <;> intro h _ F
  cases h; exact fin
  refine bx h F fun x_12 h hx_12 F => ?_
  refine bi h fun r_13 h hr_13 => ?_
  refine tr ?_
  intros
  refine cD (lazarettoref12_Expr_r_ok _ _ _ hr_13) ?_
  cases h; exact fin
  refine bx h F fun x_14 h hx_14 F => ?_
  refine bi h fun r_15 h hr_15 => ?_
  refine tr ?_
  intros
  refine cD (lazarettoref12_Expr_r_ok _ _ _ hr_15) ?_
  refine tr ?_
  intros
  refine fi h F ?_ ?_ <;> intro h _ F
  refine bx h F fun x_16 h hx_16 F => ?_
  refine bi h fun r_17 h hr_17 => ?_
  refine tr ?_
  intros
  refine cD (lazarettoref12_Expr_r_ok _ _ _ hr_17) ?_
  refine tr ?_
  intros
  refine fi h F ?_ ?_ <;> intro h _ F
  refine bi h fun r_18 h hr_18 => ?_
  refine tr ?_
  intros
  refine cS (lazarettoref03_Result_ok hr_18) ?_
  cases h; exact fin
  cases h; exact fin
  refine bi h fun r_19 h hr_19 => ?_
  refine tr ?_
  intros
  refine cS (lazarettoref03_Result_ok hr_19) ?_
  cases h; exact fin
theorem lazarettoref12_Expr_g_ok (n : Nat) : (∀ (x0 : api_Program) (x1 : api_Expr) (r : Int), (lazarettoref12_Expr_g n) x0 x1 = some r → Pu Tryz.prog 18 [.agg (e_api_Program x0), .agg (e_api_Expr x1)] (.one (.int .i64 r))) := by
  induction n with
  | zero => exact fun _ _ r h => (by cases h)
  | succ n ih =>
    have ih0 := ih
    exact fun _ _ r h => lazarettoref12_Expr_b_ok ih0 h
theorem lazarettoref12_Expr_ok {p : api_Program} {e : api_Expr} {r : Int} (h : lazarettoref12_Expr p e = some r) : Pu Tryz.prog 18 [.agg (e_api_Program p), .agg (e_api_Expr e)] (.one (.int .i64 r)) := (lazarettoref12_Expr_g_ok 1000000) _ _ _ h
theorem lazarettoref12_sets_b_ok {lazarettoref12_sets_r : (List api_Stmt) → Str → Option Bool} {l : List api_Stmt} {name : Str} {r : Bool}
    (lazarettoref12_sets_r_ok : ∀ (x0 : List api_Stmt) (x1 : Str) (r : Bool), lazarettoref12_sets_r x0 x1 = some r → Pu Tryz.prog 196 [.one (.sl (x0.map e_api_Stmt)), .one (.str x1)] (.one (.bool r))) (h : lazarettoref12_sets_b lazarettoref12_sets_r l name = some r) :
    Pu Tryz.prog 196 [.one (.sl (l.map e_api_Stmt)), .one (.str name)] (.one (.bool r)) := by
  have F := trivial; have R := trivial
  refine pA Tryz.func196 ?_
  simp only [Tryz.f196]
  unfold lazarettoref12_sets_b at h
  refine bi h fun e_2 h he_2 => ?_
  refine tt ?_
  refine lX he_2 (fun | i_1, _ => ⟨[(0, .one (.sl (l.map e_api_Stmt))), (1, .one (.str name)), (5, .one (.int .i64 (i_1 : Int)))], []⟩) (fun | (.inl e_11), _ => ⟨[], []⟩ | (.inr ()), _ => ⟨[], []⟩) (fun | (.inl _) => none | (.inr _) => some 0) ?_ ?_
  intro i3 b3 hi3
  rcases e_2 with e_case | ⟨⟩
  cases hi3
  obtain rfl := Option.some.inj hi3
  obtain ⟨⟩ := b3
  dsimp only at h ⊢
  cases h; exact fin
  intro af3 m3 i_1 a3 o3 hf3 ho3 ih3
  obtain ⟨⟩ := a3
  dsimp only [lazarettoref12_sets_L1] at hf3 ⊢
  refine tr ?_
  intros
  refine fl hf3 F ?_ ?_ <;> intro hf3 _ F
  refine bx hf3 F fun x_4 hf3 hx_4 F => ?_
  refine tr ?_
  intros
  refine fi hf3 F ?_ ?_ <;> intro hf3 _ F
  refine tt ?_
  refine fi hf3 F ?_ ?_ <;> intro hf3 _ F
  cases hf3
  obtain rfl := sr ho3
  try dsimp only at h
  cases h
  exact fin
  refine fi hf3 F ?_ ?_ <;> intro hf3 _ F
  exact (by omega : False).elim
  refine bi hf3 fun r_5 hf3 hr_5 => ?_
  refine tr ?_
  intros
  refine cS (lazarettoref12_sets_r_ok _ _ _ hr_5) ?_
  refine fv hf3 F ?_ ?_ <;> intro hf3 _ F
  cases hf3
  obtain rfl := sr ho3
  try dsimp only at h
  cases h
  exact fin
  refine bi hf3 fun r_6 hf3 hr_6 => ?_
  refine tr ?_
  intros
  refine cS (lazarettoref12_sets_r_ok _ _ _ hr_6) ?_
  refine fv hf3 F ?_ ?_ <;> intro hf3 _ F
  cases hf3
  obtain rfl := sr ho3
  try dsimp only at h
  cases h
  exact fin
  cases hf3
  refine tt ?_
  refine wn i_1 F fun F => ?_
  exact bk ih3 ho3 ()
  refine fi hf3 F ?_ ?_ <;> intro hf3 _ F
  refine tt ?_
  refine fi hf3 F ?_ ?_ <;> intro hf3 _ F
  cases hf3
  obtain rfl := sr ho3
  try dsimp only at h
  cases h
  exact fin
  refine bi hf3 fun r_7 hf3 hr_7 => ?_
  refine tr ?_
  intros
  refine cS (lazarettoref12_sets_r_ok _ _ _ hr_7) ?_
  refine fv hf3 F ?_ ?_ <;> intro hf3 _ F
  cases hf3
  obtain rfl := sr ho3
  try dsimp only at h
  cases h
  exact fin
  refine bi hf3 fun r_8 hf3 hr_8 => ?_
  refine tr ?_
  intros
  refine cS (lazarettoref12_sets_r_ok _ _ _ hr_8) ?_
  refine fv hf3 F ?_ ?_ <;> intro hf3 _ F
  cases hf3
  obtain rfl := sr ho3
  try dsimp only at h
  cases h
  exact fin
  cases hf3
  refine tt ?_
  refine wn i_1 F fun F => ?_
  exact bk ih3 ho3 ()
  refine bi hf3 fun r_9 hf3 hr_9 => ?_
  refine tr ?_
  intros
  refine cS (lazarettoref12_sets_r_ok _ _ _ hr_9) ?_
  refine fv hf3 F ?_ ?_ <;> intro hf3 _ F
  cases hf3
  obtain rfl := sr ho3
  try dsimp only at h
  cases h
  exact fin
  refine bi hf3 fun r_10 hf3 hr_10 => ?_
  refine tr ?_
  intros
  refine cS (lazarettoref12_sets_r_ok _ _ _ hr_10) ?_
  refine fv hf3 F ?_ ?_ <;> intro hf3 _ F
  cases hf3
  obtain rfl := sr ho3
  try dsimp only at h
  cases h
  exact fin
  cases hf3
  refine tt ?_
  refine wn i_1 F fun F => ?_
  exact bk ih3 ho3 ()
  cases hf3
  refine tt ?_
  exact xt ho3 af3 ()
theorem lazarettoref12_sets_g_ok (n : Nat) : (∀ (x0 : List api_Stmt) (x1 : Str) (r : Bool), (lazarettoref12_sets_g n) x0 x1 = some r → Pu Tryz.prog 196 [.one (.sl (x0.map e_api_Stmt)), .one (.str x1)] (.one (.bool r))) := by
  induction n with
  | zero => exact fun _ _ r h => (by cases h)
  | succ n ih =>
    have ih0 := ih
    exact fun _ _ r h => lazarettoref12_sets_b_ok ih0 h
theorem lazarettoref12_sets_ok {l : List api_Stmt} {name : Str} {r : Bool} (h : lazarettoref12_sets l name = some r) : Pu Tryz.prog 196 [.one (.sl (l.map e_api_Stmt)), .one (.str name)] (.one (.bool r)) := (lazarettoref12_sets_g_ok 1000000) _ _ _ h
theorem lazarettoref12_loop_ok {p : api_Program} {s : api_Stmt} {r : Bool} (h : lazarettoref12_loop p s = some r) :
    Pu Tryz.prog 178 [.agg (e_api_Program p), .agg (e_api_Stmt s)] (.one (.bool r)) := by
  have F := trivial; have R := trivial
  refine pA Tryz.func178 ?_
  simp only [Tryz.f178]
  unfold lazarettoref12_loop at h
  refine bi h fun r_1 h hr_1 => ?_
  refine tr ?_
  intros
  refine cS (lazarettoref10_Var_ok hr_1) ?_
  refine fi h F ?_ ?_ <;> intro h _ F
  cases h; exact fin
  refine by_ h F fun x_2 h hx_2 F => ?_
  refine tr ?_
  intros
  refine fi h F ?_ ?_ <;> intro h _ F
  refine fi h F ?_ ?_ <;> intro h _ F
  refine tt ?_
  refine fi h F ?_ ?_ <;> intro h _ F
  refine bx h F fun x_3 h hx_3 F => ?_
  refine bi h fun r_4 h hr_4 => ?_
  refine tr ?_
  intros
  refine cD (lazarettoref12_Expr_ok hr_4) ?_
  refine tr ?_
  intros
  refine fi h F ?_ ?_ <;> intro h _ F
  refine bx h F fun x_5 h hx_5 F => ?_
  refine bi h fun r_6 h hr_6 => ?_
  refine tr ?_
  intros
  refine cD (lazarettoref12_Expr_ok hr_6) ?_
  refine tr ?_
  intros
  refine fi h F ?_ ?_ <;> intro h _ F
  refine bi h fun r_7 h hr_7 => ?_
  refine tr ?_
  intros
  refine cD (lazarettoref12_sets_ok hr_7) ?_
  cases h; exact fin
  cases h; exact fin
  cases h; exact fin
  refine fi h F ?_ ?_ <;> intro h _ F
  refine bx h F fun x_8 h hx_8 F => ?_
  refine bi h fun r_9 h hr_9 => ?_
  refine tr ?_
  intros
  refine cD (lazarettoref12_Expr_ok hr_9) ?_
  refine tr ?_
  intros
  refine fi h F ?_ ?_ <;> intro h _ F
  refine bx h F fun x_10 h hx_10 F => ?_
  refine bi h fun r_11 h hr_11 => ?_
  refine tr ?_
  intros
  refine cD (lazarettoref12_Expr_ok hr_11) ?_
  refine tr ?_
  intros
  refine fi h F ?_ ?_ <;> intro h _ F
  refine bi h fun r_12 h hr_12 => ?_
  refine tr ?_
  intros
  refine cD (lazarettoref12_sets_ok hr_12) ?_
  cases h; exact fin
  cases h; exact fin
  cases h; exact fin
  cases h; exact fin
  cases h; exact fin
  cases h; exact fin
theorem lazarettoref12_call_ok {p : api_Program} {s : api_Stmt} {r : Bool} (h : lazarettoref12_call p s = some r) :
    Pu Tryz.prog 179 [.agg (e_api_Program p), .agg (e_api_Stmt s)] (.one (.bool r)) := by
  have F := trivial; have R := trivial
  refine pA Tryz.func179 ?_
  simp only [Tryz.f179]
  unfold lazarettoref12_call at h
  refine bi h fun r_1 h hr_1 => ?_
  refine tr ?_
  intros
  refine cS (lazarettoref10_Block_ok hr_1) ?_
  refine fi h F ?_ ?_ <;> intro h _ F
  cases h; exact fin
  refine by_ h F fun x_2 h hx_2 F => ?_
  refine bi h fun r_3 h hr_3 => ?_
  refine tr ?_
  intros
  refine cS (lazarettoref11_Inputs_ok hr_3) ?_
  refine tr ?_
  intros
  refine fi h F ?_ ?_ <;> intro h _ F
  refine bi h fun e_5 h he_5 => ?_
  refine tt ?_
  refine lX he_5 (fun | n_4, _ => ⟨[(2, .one (.ref 0 0 0 0)), (3, .one (.ref 1 0 0 0)), (6, .one (.sl (r_3.map eI))), (7, .one (.int .i64 (n_4 : Int)))], [.cells 0 6 [[.sl (p.Lattice.Names.map eS), .sl (p.Lattice.Below.map (eA2 eI)), .sl (p.Sites.map e_api_Site), .sl (p.Vars.map e_api_Var), .sl (p.Blocks.map e_api_Block), .sl (p.Tasks.map e_api_Task)]], .cells 0 15 [[.int .i64 s.Kind, .str s.Name, .int .i64 s.Target.Op, .int .i64 s.Target.N, .int .i64 s.Target.Kind, .str s.Target.Name, .sl (s.Target.Args.map e_api_Expr), .int .i64 s.Value.Op, .int .i64 s.Value.N, .int .i64 s.Value.Kind, .str s.Value.Name, .sl (s.Value.Args.map e_api_Expr), .sl (s.Args.map e_api_Expr), .sl (s.Body.map e_api_Stmt), .sl (s.Else.map e_api_Stmt)]]]⟩) (fun | (.inl e_10), _ => ⟨[], []⟩ | (.inr ()), _ => ⟨[], [.cells 0 6 [[.sl (p.Lattice.Names.map eS), .sl (p.Lattice.Below.map (eA2 eI)), .sl (p.Sites.map e_api_Site), .sl (p.Vars.map e_api_Var), .sl (p.Blocks.map e_api_Block), .sl (p.Tasks.map e_api_Task)]], .cells 0 15 [[.int .i64 s.Kind, .str s.Name, .int .i64 s.Target.Op, .int .i64 s.Target.N, .int .i64 s.Target.Kind, .str s.Target.Name, .sl (s.Target.Args.map e_api_Expr), .int .i64 s.Value.Op, .int .i64 s.Value.N, .int .i64 s.Value.Kind, .str s.Value.Name, .sl (s.Value.Args.map e_api_Expr), .sl (s.Args.map e_api_Expr), .sl (s.Body.map e_api_Stmt), .sl (s.Else.map e_api_Stmt)]]]⟩) (fun | (.inl _) => none | (.inr _) => some 0) ?_ ?_
  intro i6 b6 hi6
  rcases e_5 with e_case | ⟨⟩
  cases hi6
  obtain rfl := Option.some.inj hi6
  obtain ⟨⟩ := b6
  dsimp only at h ⊢
  cases h; exact fin
  intro af6 m6 n_4 a6 o6 hf6 ho6 ih6
  obtain ⟨⟩ := a6
  dsimp only [lazarettoref12_call_L1] at hf6 ⊢
  refine tr ?_
  intros
  refine fl hf6 F ?_ ?_ <;> intro hf6 _ F
  refine bx hf6 F fun x_7 hf6 hx_7 F => ?_
  refine bi hf6 fun r_8 hf6 hr_8 => ?_
  refine tr ?_
  intros
  refine cD (lazarettoref12_Expr_ok hr_8) ?_
  refine bx hf6 F fun x_9 hf6 hx_9 F => ?_
  refine tr ?_
  intros
  refine fi hf6 F ?_ ?_ <;> intro hf6 _ F
  cases hf6
  refine tt ?_
  refine wn n_4 F fun F => ?_
  exact bk ih6 ho6 ()
  cases hf6
  obtain rfl := sr ho6
  try dsimp only at h
  cases h
  exact fin
  cases hf6
  refine tt ?_
  exact xt ho6 af6 ()
  cases h; exact fin
theorem lazarettoref12_one_ok {p : api_Program} {s : api_Stmt} {r : Bool} (h : lazarettoref12_one p s = some r) :
    Pu Tryz.prog 152 [.agg (e_api_Program p), .agg (e_api_Stmt s)] (.one (.bool r)) := by
  have F := trivial; have R := trivial
  refine pA Tryz.func152 ?_
  simp only [Tryz.f152]
  unfold lazarettoref12_one at h
  refine tt ?_
  refine fi h F ?_ ?_ <;> intro h _ F
  refine bi h fun r_1 h hr_1 => ?_
  refine tr ?_
  intros
  refine cS (lazarettoref10_Var_ok hr_1) ?_
  refine bi h fun r_2 h hr_2 => ?_
  refine tr ?_
  intros
  refine cS (lazarettoref12_Expr_ok hr_2) ?_
  refine fi h F ?_ ?_ <;> intro h _ F
  refine by_ h F fun x_3 h hx_3 F => ?_
  refine tr ?_
  intros
  refine fi h F ?_ ?_ <;> intro h _ F
  cases h; exact fin
  refine fi h F ?_ ?_ <;> intro h _ F
  cases h; exact fin
  refine bi h fun r_4 h hr_4 => ?_
  refine tr ?_
  intros
  refine cS (lazarettoref12_Expr_ok hr_4) ?_
  cases h; exact fin
  cases h; exact fin
  refine fi h F ?_ ?_ <;> intro h _ F
  refine bi h fun r_5 h hr_5 => ?_
  refine tr ?_
  intros
  refine cS (lazarettoref12_Expr_ok hr_5) ?_
  cases h; exact fin
  refine fi h F ?_ ?_ <;> intro h _ F
  refine bi h fun r_6 h hr_6 => ?_
  refine tr ?_
  intros
  refine cS (lazarettoref12_Expr_ok hr_6) ?_
  cases h; exact fin
  refine fi h F ?_ ?_ <;> intro h _ F
  refine bi h fun r_7 h hr_7 => ?_
  refine tr ?_
  intros
  refine cS (lazarettoref12_loop_ok hr_7) ?_
  cases h; exact fin
  refine bi h fun r_8 h hr_8 => ?_
  refine tr ?_
  intros
  refine cS (lazarettoref12_call_ok hr_8) ?_
  cases h; exact fin
theorem lazarettoref12_Stmts_b_ok {lazarettoref12_Stmts_r : api_Program → (List api_Stmt) → Option Bool} {p : api_Program} {l : List api_Stmt} {r : Bool}
    (lazarettoref12_Stmts_r_ok : ∀ (x0 : api_Program) (x1 : List api_Stmt) (r : Bool), lazarettoref12_Stmts_r x0 x1 = some r → Pu Tryz.prog 115 [.agg (e_api_Program x0), .one (.sl (x1.map e_api_Stmt))] (.one (.bool r))) (h : lazarettoref12_Stmts_b lazarettoref12_Stmts_r p l = some r) :
    Pu Tryz.prog 115 [.agg (e_api_Program p), .one (.sl (l.map e_api_Stmt))] (.one (.bool r)) := by
  have F := trivial; have R := trivial
  refine pA Tryz.func115 ?_
  simp only [Tryz.f115]
  unfold lazarettoref12_Stmts_b at h
  refine bi h fun e_2 h he_2 => ?_
  refine tt ?_
  refine lX he_2 (fun | i_1, _ => ⟨[(1, .one (.sl (l.map e_api_Stmt))), (2, .one (.ref 0 0 0 0)), (5, .one (.int .i64 (i_1 : Int)))], [.cells 0 6 [[.sl (p.Lattice.Names.map eS), .sl (p.Lattice.Below.map (eA2 eI)), .sl (p.Sites.map e_api_Site), .sl (p.Vars.map e_api_Var), .sl (p.Blocks.map e_api_Block), .sl (p.Tasks.map e_api_Task)]]]⟩) (fun | (.inl e_8), _ => ⟨[], []⟩ | (.inr ()), _ => ⟨[], [.cells 0 6 [[.sl (p.Lattice.Names.map eS), .sl (p.Lattice.Below.map (eA2 eI)), .sl (p.Sites.map e_api_Site), .sl (p.Vars.map e_api_Var), .sl (p.Blocks.map e_api_Block), .sl (p.Tasks.map e_api_Task)]]]⟩) (fun | (.inl _) => none | (.inr _) => some 0) ?_ ?_
  intro i3 b3 hi3
  rcases e_2 with e_case | ⟨⟩
  cases hi3
  obtain rfl := Option.some.inj hi3
  obtain ⟨⟩ := b3
  dsimp only at h ⊢
  cases h; exact fin
  intro af3 m3 i_1 a3 o3 hf3 ho3 ih3
  obtain ⟨⟩ := a3
  dsimp only [lazarettoref12_Stmts_L1] at hf3 ⊢
  refine tr ?_
  intros
  refine fl hf3 F ?_ ?_ <;> intro hf3 _ F
  refine bx hf3 F fun x_4 hf3 hx_4 F => ?_
  refine bi hf3 fun r_5 hf3 hr_5 => ?_
  refine tr ?_
  intros
  refine cD (lazarettoref12_one_ok hr_5) ?_
  refine tr ?_
  intros
  refine fv hf3 F ?_ ?_ <;> intro hf3 _ F
  refine bi hf3 fun r_6 hf3 hr_6 => ?_
  refine tr ?_
  intros
  refine cD (lazarettoref12_Stmts_r_ok _ _ _ hr_6) ?_
  refine tr ?_
  intros
  refine fv hf3 F ?_ ?_ <;> intro hf3 _ F
  refine bi hf3 fun r_7 hf3 hr_7 => ?_
  refine tr ?_
  intros
  refine cD (lazarettoref12_Stmts_r_ok _ _ _ hr_7) ?_
  refine tr ?_
  intros
  refine fv hf3 F ?_ ?_ <;> intro hf3 _ F
  cases hf3
  refine tt ?_
  refine wn i_1 F fun F => ?_
  exact bk ih3 ho3 ()
  cases hf3
  obtain rfl := sr ho3
  try dsimp only at h
  cases h
  exact fin
  cases hf3
  obtain rfl := sr ho3
  try dsimp only at h
  cases h
  exact fin
  cases hf3
  obtain rfl := sr ho3
  try dsimp only at h
  cases h
  exact fin
  cases hf3
  refine tt ?_
  exact xt ho3 af3 ()
theorem lazarettoref12_Stmts_g_ok (n : Nat) : (∀ (x0 : api_Program) (x1 : List api_Stmt) (r : Bool), (lazarettoref12_Stmts_g n) x0 x1 = some r → Pu Tryz.prog 115 [.agg (e_api_Program x0), .one (.sl (x1.map e_api_Stmt))] (.one (.bool r))) := by
  induction n with
  | zero => exact fun _ _ r h => (by cases h)
  | succ n ih =>
    have ih0 := ih
    exact fun _ _ r h => lazarettoref12_Stmts_b_ok ih0 h
theorem lazarettoref12_Stmts_ok {p : api_Program} {l : List api_Stmt} {r : Bool} (h : lazarettoref12_Stmts p l = some r) : Pu Tryz.prog 115 [.agg (e_api_Program p), .one (.sl (l.map e_api_Stmt))] (.one (.bool r)) := (lazarettoref12_Stmts_g_ok 1000000) _ _ _ h
theorem lazarettoref12_Check_ok {p : api_Program} {r : Int} (h : lazarettoref12_Check p = some r) :
    Pu Tryz.prog 80 [.agg (e_api_Program p)] (.one (.int .i64 r)) := by
  have F := trivial; have R := trivial
  refine pA Tryz.func80 ?_
  simp only [Tryz.f80]
  unfold lazarettoref12_Check at h
  refine bi h fun e_2 h he_2 => ?_
  refine tt ?_
  refine lX he_2 (fun | i_1, _ => ⟨[(1, .one (.ref 0 0 0 0)), (3, .one (.int .i64 (i_1 : Int)))], [.cells 0 6 [[.sl (p.Lattice.Names.map eS), .sl (p.Lattice.Below.map (eA2 eI)), .sl (p.Sites.map e_api_Site), .sl (p.Vars.map e_api_Var), .sl (p.Blocks.map e_api_Block), .sl (p.Tasks.map e_api_Task)]]]⟩) (fun | (.inl e_8), _ => ⟨[], []⟩ | (.inr ()), _ => ⟨[(1, .one (.ref 0 0 0 0))], [.cells 0 6 [[.sl (p.Lattice.Names.map eS), .sl (p.Lattice.Below.map (eA2 eI)), .sl (p.Sites.map e_api_Site), .sl (p.Vars.map e_api_Var), .sl (p.Blocks.map e_api_Block), .sl (p.Tasks.map e_api_Task)]]]⟩) (fun | (.inl _) => none | (.inr _) => some 0) ?_ ?_
  intro i3 b3 hi3
  rcases e_2 with e_case | ⟨⟩
  cases hi3
  obtain rfl := Option.some.inj hi3
  obtain ⟨⟩ := b3
  dsimp only at h ⊢
  refine bi h fun e_10 h he_10 => ?_
  refine tt ?_
  refine lX he_10 (fun | i_9, _ => ⟨[(1, .one (.ref 0 0 0 0)), (5, .one (.int .i64 (i_9 : Int)))], [.cells 0 6 [[.sl (p.Lattice.Names.map eS), .sl (p.Lattice.Below.map (eA2 eI)), .sl (p.Sites.map e_api_Site), .sl (p.Vars.map e_api_Var), .sl (p.Blocks.map e_api_Block), .sl (p.Tasks.map e_api_Task)]]]⟩) (fun | (.inl e_14), _ => ⟨[], []⟩ | (.inr ()), _ => ⟨[(1, .one (.ref 0 0 0 0))], [.cells 0 6 [[.sl (p.Lattice.Names.map eS), .sl (p.Lattice.Below.map (eA2 eI)), .sl (p.Sites.map e_api_Site), .sl (p.Vars.map e_api_Var), .sl (p.Blocks.map e_api_Block), .sl (p.Tasks.map e_api_Task)]]]⟩) (fun | (.inl _) => none | (.inr _) => some 2) ?_ ?_
  intro i11 b11 hi11
  rcases e_10 with e_case | ⟨⟩
  cases hi11
  obtain rfl := Option.some.inj hi11
  obtain ⟨⟩ := b11
  dsimp only at h ⊢
  refine bi h fun e_16 h he_16 => ?_
  refine tt ?_
  refine lX he_16 (fun | i_15, _ => ⟨[(1, .one (.ref 0 0 0 0)), (6, .one (.int .i64 (i_15 : Int)))], [.cells 0 6 [[.sl (p.Lattice.Names.map eS), .sl (p.Lattice.Below.map (eA2 eI)), .sl (p.Sites.map e_api_Site), .sl (p.Vars.map e_api_Var), .sl (p.Blocks.map e_api_Block), .sl (p.Tasks.map e_api_Task)]]]⟩) (fun | (.inl e_20), _ => ⟨[], []⟩ | (.inr ()), _ => ⟨[], [.cells 0 6 [[.sl (p.Lattice.Names.map eS), .sl (p.Lattice.Below.map (eA2 eI)), .sl (p.Sites.map e_api_Site), .sl (p.Vars.map e_api_Var), .sl (p.Blocks.map e_api_Block), .sl (p.Tasks.map e_api_Task)]]]⟩) (fun | (.inl _) => none | (.inr _) => some 4) ?_ ?_
  intro i17 b17 hi17
  rcases e_16 with e_case | ⟨⟩
  cases hi17
  obtain rfl := Option.some.inj hi17
  obtain ⟨⟩ := b17
  dsimp only at h ⊢
  cases h; exact fin
  intro af17 m17 i_15 a17 o17 hf17 ho17 ih17
  obtain ⟨⟩ := a17
  dsimp only [lazarettoref12_Check_L3] at hf17 ⊢
  refine tr ?_
  intros
  refine fl hf17 F ?_ ?_ <;> intro hf17 _ F
  refine bx hf17 F fun x_18 hf17 hx_18 F => ?_
  refine bi hf17 fun r_19 hf17 hr_19 => ?_
  refine tr ?_
  intros
  refine cD (lazarettoref12_Stmts_ok hr_19) ?_
  refine tr ?_
  intros
  refine fv hf17 F ?_ ?_ <;> intro hf17 _ F
  cases hf17
  refine tt ?_
  refine wn i_15 F fun F => ?_
  exact bk ih17 ho17 ()
  cases hf17
  obtain rfl := sr ho17
  try dsimp only at h
  cases h
  exact fin
  cases hf17
  refine tt ?_
  exact xt ho17 af17 ()
  intro af11 m11 i_9 a11 o11 hf11 ho11 ih11
  obtain ⟨⟩ := a11
  dsimp only [lazarettoref12_Check_L2] at hf11 ⊢
  refine tr ?_
  intros
  refine fl hf11 F ?_ ?_ <;> intro hf11 _ F
  refine bx hf11 F fun x_12 hf11 hx_12 F => ?_
  refine bi hf11 fun r_13 hf11 hr_13 => ?_
  refine tr ?_
  intros
  refine cS (lazarettoref11_Inputs_ok hr_13) ?_
  refine tr ?_
  intros
  refine fi hf11 F ?_ ?_ <;> intro hf11 _ F
  cases hf11
  obtain rfl := sr ho11
  try dsimp only at h
  cases h
  exact fin
  cases hf11
  refine tt ?_
  refine wn i_9 F fun F => ?_
  exact bk ih11 ho11 ()
  cases hf11
  refine tt ?_
  exact xt ho11 af11 ()
  intro af3 m3 i_1 a3 o3 hf3 ho3 ih3
  obtain ⟨⟩ := a3
  dsimp only [lazarettoref12_Check_L1] at hf3 ⊢
  refine tr ?_
  intros
  refine fl hf3 F ?_ ?_ <;> intro hf3 _ F
  refine bx hf3 F fun x_4 hf3 hx_4 F => ?_
  refine bi hf3 fun r_5 hf3 hr_5 => ?_
  refine tr ?_
  intros
  refine cS (lazarettoref04_Check_ok hr_5) ?_
  refine fi hf3 F ?_ ?_ <;> intro hf3 _ F
  refine fi hf3 F ?_ ?_ <;> intro hf3 _ F
  refine bi hf3 fun r_6 hf3 hr_6 => ?_
  refine tr ?_
  intros
  refine cS (lazarettoref03_Valid_ok hr_6) ?_
  refine fv hf3 F ?_ ?_ <;> intro hf3 _ F
  cases hf3
  refine tt ?_
  refine wn i_1 F fun F => ?_
  exact bk ih3 ho3 ()
  cases hf3
  obtain rfl := sr ho3
  try dsimp only at h
  cases h
  exact fin
  refine tt ?_
  refine fi hf3 F ?_ ?_ <;> intro hf3 _ F
  refine bi hf3 fun r_7 hf3 hr_7 => ?_
  refine tr ?_
  intros
  refine cS (lazarettoref03_Valid_ok hr_7) ?_
  refine fv hf3 F ?_ ?_ <;> intro hf3 _ F
  cases hf3
  refine tt ?_
  refine wn i_1 F fun F => ?_
  exact bk ih3 ho3 ()
  cases hf3
  obtain rfl := sr ho3
  try dsimp only at h
  cases h
  exact fin
  cases hf3
  obtain rfl := sr ho3
  try dsimp only at h
  cases h
  exact fin
  cases hf3
  obtain rfl := sr ho3
  try dsimp only at h
  cases h
  exact fin
  cases hf3
  refine tt ?_
  exact xt ho3 af3 ()
theorem lazarettoref13_all_ok {p : api_Program} {labels : List Int} {r : List Int} (h : lazarettoref13_all p labels = some r) :
    Pu Tryz.prog 49 [.agg (e_api_Program p), .one (.sl (labels.map eI))] (.one (.sl (r.map eI))) := by
  have F := trivial; have R := trivial
  refine pA Tryz.func49 ?_
  simp only [Tryz.f49]
  unfold lazarettoref13_all at h
  refine bi h fun e_5 h he_5 => ?_
  refine tr ?_
  intros
  refine seed_L 6 1 (by simp [go_sem]) ?_
  refine lE (fun (s__ : (List Int) × Nat) (a__ : Nat) => match s__, a__ with | (l_2, i_4), v_1 => ⟨[(1, .one (.sl (labels.map eI))), (2, .one (.ref 0 0 0 0)), (5, .one (.int .i64 (w64 ((p.Vars.length : Int) + (p.Blocks.length : Int))))), (6, .one (.msl 1 v_1 0 l_2.length)), (7, .one (.int .i64 (i_4 : Int)))], [.cells 0 6 [[.sl (p.Lattice.Names.map eS), .sl (p.Lattice.Below.map (eA2 eI)), .sl (p.Sites.map e_api_Site), .sl (p.Vars.map e_api_Var), .sl (p.Blocks.map e_api_Block), .sl (p.Tasks.map e_api_Task)]], .cells v_1 1 (l_2.map eI)]⟩) (fun (e__ : List Int) (b__ : Nat) => match e__, b__ with | e_5, b6 => ⟨[(2, .one (.ref 0 0 0 0)), (6, .one (.msl 1 b6 0 e_5.length))], [.cells 0 6 [[.sl (p.Lattice.Names.map eS), .sl (p.Lattice.Below.map (eA2 eI)), .sl (p.Sites.map e_api_Site), .sl (p.Vars.map e_api_Var), .sl (p.Blocks.map e_api_Block), .sl (p.Tasks.map e_api_Task)]], .cells b6 1 (e_5.map eI)]⟩) (fun (_ : List Int) => some 0) 0 he_5 ?_ ?_
  intro i6 b6 hi6
  obtain rfl := Option.some.inj hi6
  dsimp only at h ⊢
  refine bi h fun e_15 h he_15 => ?_
  refine tt ?_
  refine lE (fun (s__ : (List Int) × Nat) (a__ : Nat) => match s__, a__ with | (l_12, i_14), v_11 => ⟨[(2, .one (.ref 0 0 0 0)), (6, .one (.msl 1 v_11 0 l_12.length)), (8, .one (.int .i64 (i_14 : Int)))], [.cells 0 6 [[.sl (p.Lattice.Names.map eS), .sl (p.Lattice.Below.map (eA2 eI)), .sl (p.Sites.map e_api_Site), .sl (p.Vars.map e_api_Var), .sl (p.Blocks.map e_api_Block), .sl (p.Tasks.map e_api_Task)]], .cells v_11 1 (l_12.map eI)]⟩) (fun (e__ : List Int) (b__ : Nat) => match e__, b__ with | e_15, b16 => ⟨[(6, .one (.msl 1 b16 0 e_15.length))], [.cells 0 6 [[.sl (p.Lattice.Names.map eS), .sl (p.Lattice.Below.map (eA2 eI)), .sl (p.Sites.map e_api_Site), .sl (p.Vars.map e_api_Var), .sl (p.Blocks.map e_api_Block), .sl (p.Tasks.map e_api_Task)]], .cells b16 1 (e_15.map eI)]⟩) (fun (_ : List Int) => some 2) b6 he_15 ?_ ?_
  intro i16 b16 hi16
  obtain rfl := Option.some.inj hi16
  dsimp only at h ⊢
  cases h; exact fin
  intro af16 m16 s16 v_11 o16 hf16 ho16 ih16
  obtain ⟨l_12, i_14⟩ := s16
  dsimp only [lazarettoref13_all_L2] at hf16 ⊢
  refine tr ?_
  intros
  refine fl hf16 F ?_ ?_ <;> intro hf16 _ F
  refine bx hf16 F fun x_17 hf16 hx_17 F => ?_
  refine nd hf16 F fun hf16 F => ?_
  cases hf16
  refine tr ?_
  intros
  refine wn i_14 F fun F => ?_
  exact bk ih16 ho16 (v_11 + 1)
  cases hf16
  refine tt ?_
  exact xt ho16 af16 v_11
  intro af6 m6 s6 v_1 o6 hf6 ho6 ih6
  obtain ⟨l_2, i_4⟩ := s6
  dsimp only [lazarettoref13_all_L1] at hf6 ⊢
  refine fi hf6 F ?_ ?_ <;> intro hf6 _ F
  refine tr ?_
  intros
  refine fl hf6 F ?_ ?_ <;> intro hf6 _ F
  refine bx hf6 F fun x_7 hf6 hx_7 F => ?_
  refine nd hf6 F fun hf6 F => ?_
  cases hf6
  refine tr ?_
  intros
  have F := And.intro (w64_rng ((p.Vars.length : Int) + (p.Blocks.length : Int))) F
  refine wn i_4 F fun F => ?_
  exact bk ih6 ho6 (v_1 + 1)
  refine nd hf6 F fun hf6 F => ?_
  cases hf6
  refine tr ?_
  intros
  have F := And.intro (w64_rng ((p.Vars.length : Int) + (p.Blocks.length : Int))) F
  refine wn i_4 F fun F => ?_
  exact bk ih6 ho6 (v_1 + 1)
  cases hf6
  refine tt ?_
  exact xt ho6 af6 v_1
theorem lazarettoref01_Bottom_ok {l : api_Lattice} {r : Int} (h : lazarettoref01_Bottom l = some r) :
    Pu Tryz.prog 88 [.agg (e_api_Lattice l)] (.one (.int .i64 r)) := by
  have F := trivial; have R := trivial
  refine pA Tryz.func88 ?_
  simp only [Tryz.f88]
  unfold lazarettoref01_Bottom at h
  refine bi h fun e_2 h he_2 => ?_
  refine tt ?_
  refine lX he_2 (fun | c_1, _ => ⟨[(1, .one (.ref 0 0 0 0)), (3, .one (.int .i64 (c_1 : Int)))], [.cells 0 2 [[.sl (l.Names.map eS), .sl (l.Below.map (eA2 eI))]]]⟩) (fun | (.inl e_10), _ => ⟨[], []⟩ | (.inr ()), _ => ⟨[], [.cells 0 2 [[.sl (l.Names.map eS), .sl (l.Below.map (eA2 eI))]]]⟩) (fun | (.inl _) => none | (.inr _) => some 0) ?_ ?_
  intro i3 b3 hi3
  rcases e_2 with e_case | ⟨⟩
  cases hi3
  obtain rfl := Option.some.inj hi3
  obtain ⟨⟩ := b3
  dsimp only at h ⊢
  cases h; exact fin
  intro af3 m3 c_1 a3 o3 hf3 ho3 ih3
  obtain ⟨⟩ := a3
  dsimp only [lazarettoref01_Bottom_L1] at hf3 ⊢
  refine tr ?_
  intros
  refine fl hf3 F ?_ ?_ <;> intro hf3 _ F
  refine bi hf3 fun e_6 hf3 he_6 => ?_
  refine tt ?_
  refine lX he_6 (fun | (ok_4, d_5), _ => ⟨[(1, .one (.ref 0 0 0 0)), (3, .one (.int .i64 (c_1 : Int))), (4, .one (.bool ok_4)), (5, .one (.int .i64 (d_5 : Int)))], [.cells 0 2 [[.sl (l.Names.map eS), .sl (l.Below.map (eA2 eI))]]]⟩) (fun | e_6, _ => ⟨[(1, .one (.ref 0 0 0 0)), (3, .one (.int .i64 (c_1 : Int))), (4, .one (.bool e_6))], [.cells 0 2 [[.sl (l.Names.map eS), .sl (l.Below.map (eA2 eI))]]]⟩) (fun _ => some 2) ?_ ?_
  intro i7 b7 hi7
  obtain rfl := Option.some.inj hi7
  obtain ⟨⟩ := b7
  dsimp only at hf3 ⊢
  refine fv hf3 F ?_ ?_ <;> intro hf3 _ F
  cases hf3
  obtain rfl := sr ho3
  try dsimp only at h
  cases h
  exact fin
  cases hf3
  refine tt ?_
  refine wn c_1 F fun F => ?_
  exact bk ih3 ho3 ()
  intro af7 m7 s7 a7 o7 hf7 ho7 ih7
  obtain ⟨ok_4, d_5⟩ := s7
  obtain ⟨⟩ := a7
  dsimp only [lazarettoref01_Bottom_L2] at hf7 ⊢
  refine tr ?_
  intros
  refine fl hf7 F ?_ ?_ <;> intro hf7 _ F
  refine fv hf7 F ?_ ?_ <;> intro hf7 _ F
  refine bi hf7 fun r_8 hf7 hr_8 => ?_
  refine tr ?_
  intros
  refine cS (lazarettoref01_Leq_ok hr_8) ?_
  cases hf7
  refine tt ?_
  refine wn d_5 F fun F => ?_
  exact bk ih7 ho7 ()
  cases hf7
  refine tt ?_
  exact xt ho7 af7 ()
  cases hf7
  refine tt ?_
  exact xt ho7 af7 ()
  cases hf3
  refine tt ?_
  exact xt ho3 af3 ()
theorem lazarettoref02_Holds_ok {l : api_Lattice} {labels : List Int} {rules : List (A2 Int)} {r : Bool} (h : lazarettoref02_Holds l labels rules = some r) :
    Pu Tryz.prog 153 [.agg (e_api_Lattice l), .one (.sl (labels.map eI)), .one (.sl (rules.map (eA2 eI)))] (.one (.bool r)) := by
  have F := trivial; have R := trivial
  refine pA Tryz.func153 ?_
  simp only [Tryz.f153]
  unfold lazarettoref02_Holds at h
  refine bi h fun e_2 h he_2 => ?_
  refine tt ?_
  refine lX he_2 (fun | i_1, _ => ⟨[(1, .one (.sl (labels.map eI))), (2, .one (.sl (rules.map (eA2 eI)))), (3, .one (.ref 0 0 0 0)), (7, .one (.int .i64 (i_1 : Int)))], [.cells 0 2 [[.sl (l.Names.map eS), .sl (l.Below.map (eA2 eI))]]]⟩) (fun | (.inl e_8), _ => ⟨[], []⟩ | (.inr ()), _ => ⟨[], [.cells 0 2 [[.sl (l.Names.map eS), .sl (l.Below.map (eA2 eI))]]]⟩) (fun | (.inl _) => none | (.inr _) => some 0) ?_ ?_
  intro i3 b3 hi3
  rcases e_2 with e_case | ⟨⟩
  cases hi3
  obtain rfl := Option.some.inj hi3
  obtain ⟨⟩ := b3
  dsimp only at h ⊢
  cases h; exact fin
  intro af3 m3 i_1 a3 o3 hf3 ho3 ih3
  obtain ⟨⟩ := a3
  dsimp only [lazarettoref02_Holds_L1] at hf3 ⊢
  refine tr ?_
  intros
  refine fl hf3 F ?_ ?_ <;> intro hf3 _ F
  refine bx hf3 F fun x_4 hf3 hx_4 F => ?_
  refine tr ?_
  intros
  refine fi hf3 F ?_ ?_ <;> intro hf3 _ F
  cases hf3
  obtain rfl := sr ho3
  try dsimp only at h
  cases h
  exact fin
  refine tr ?_
  intros
  refine fi hf3 F ?_ ?_ <;> intro hf3 _ F
  cases hf3
  obtain rfl := sr ho3
  try dsimp only at h
  cases h
  exact fin
  refine tr ?_
  intros
  refine fi hf3 F ?_ ?_ <;> intro hf3 _ F
  cases hf3
  obtain rfl := sr ho3
  try dsimp only at h
  cases h
  exact fin
  refine tr ?_
  intros
  refine fi hf3 F ?_ ?_ <;> intro hf3 _ F
  cases hf3
  obtain rfl := sr ho3
  try dsimp only at h
  cases h
  exact fin
  refine by_ hf3 F fun x_5 hf3 hx_5 F => ?_
  refine by_ hf3 F fun x_6 hf3 hx_6 F => ?_
  refine bi hf3 fun r_7 hf3 hr_7 => ?_
  refine tr ?_
  intros
  refine cD (lazarettoref01_Leq_ok hr_7) ?_
  refine tr ?_
  intros
  refine fv hf3 F ?_ ?_ <;> intro hf3 _ F
  cases hf3
  refine tt ?_
  refine wn i_1 F fun F => ?_
  exact bk ih3 ho3 ()
  cases hf3
  obtain rfl := sr ho3
  try dsimp only at h
  cases h
  exact fin
  cases hf3
  refine tt ?_
  exact xt ho3 af3 ()
theorem lazarettoref02_Least_ok {l : api_Lattice} {fixed : List Int} {rules : List (A2 Int)} {r : (List Int) × Bool} (h : lazarettoref02_Least l fixed rules = some r) :
    Pu Tryz.prog 116 [.agg (e_api_Lattice l), .one (.sl (fixed.map eI)), .one (.sl (rules.map (eA2 eI)))] (.tup [.one (.sl (r.1.map eI)), .one (.bool r.2)]) := by
  have F := trivial; have R := trivial
  refine pA Tryz.func116 ?_
  simp only [Tryz.f116]
  unfold lazarettoref02_Least at h
  refine bi h fun r_1 h hr_1 => ?_
  refine tr ?_
  intros
  refine cS (lazarettoref01_Bottom_ok hr_1) ?_
  refine fi h F ?_ ?_ <;> intro h _ F
  cases h; exact fin
  refine bi h fun e_6 h he_6 => ?_
  refine tt ?_
  refine seed_L 9 1 (by simp [go_sem]) ?_
  refine lE (fun (s__ : (List Int) × Nat) (a__ : Nat) => match s__, a__ with | (out_3, i_5), v_2 => ⟨[(1, .one (.sl (fixed.map eI))), (2, .one (.sl (rules.map (eA2 eI)))), (3, .one (.ref 0 0 0 0)), (8, .one (.int .i64 r_1)), (9, .one (.msl 1 v_2 0 out_3.length)), (10, .one (.int .i64 (i_5 : Int)))], [.cells 0 2 [[.sl (l.Names.map eS), .sl (l.Below.map (eA2 eI))]], .cells v_2 1 (out_3.map eI)]⟩) (fun (e__ : ((List Int) × Bool) ⊕ (List Int)) (b__ : Nat) => match e__, b__ with | (.inl e_13), _ => ⟨[], []⟩ | (.inr out_14), b7 => ⟨[(1, .one (.sl (fixed.map eI))), (2, .one (.sl (rules.map (eA2 eI)))), (3, .one (.ref 0 0 0 0)), (9, .one (.msl 1 b7 0 out_14.length))], [.cells 0 2 [[.sl (l.Names.map eS), .sl (l.Below.map (eA2 eI))]], .cells b7 1 (out_14.map eI)]⟩) (fun (e__ : ((List Int) × Bool) ⊕ (List Int)) => match e__ with | (.inl _) => none | (.inr _) => some 0) 0 he_6 ?_ ?_
  intro i7 b7 hi7
  rcases e_6 with e_case | out_14
  cases hi7
  obtain rfl := Option.some.inj hi7
  dsimp only at h ⊢
  refine bi h fun e_16 h he_16 => ?_
  refine tt ?_
  refine lX he_16 (fun | i_15, _ => ⟨[(1, .one (.sl (fixed.map eI))), (2, .one (.sl (rules.map (eA2 eI)))), (3, .one (.ref 0 0 0 0)), (9, .one (.msl 1 b7 0 out_14.length)), (12, .one (.int .i64 (i_15 : Int)))], [.cells 0 2 [[.sl (l.Names.map eS), .sl (l.Below.map (eA2 eI))]], .cells b7 1 (out_14.map eI)]⟩) (fun | (.inl e_19), _ => ⟨[], []⟩ | (.inr ()), _ => ⟨[(1, .one (.sl (fixed.map eI))), (2, .one (.sl (rules.map (eA2 eI)))), (3, .one (.ref 0 0 0 0)), (9, .one (.msl 1 b7 0 out_14.length))], [.cells 0 2 [[.sl (l.Names.map eS), .sl (l.Below.map (eA2 eI))]], .cells b7 1 (out_14.map eI)]⟩) (fun | (.inl _) => none | (.inr _) => some 2) ?_ ?_
  intro i17 b17 hi17
  rcases e_16 with e_case | ⟨⟩
  cases hi17
  obtain rfl := Option.some.inj hi17
  obtain ⟨⟩ := b17
  dsimp only at h ⊢
  refine bi h fun e_22 h he_22 => ?_
  refine tt ?_
  refine lX he_22 (fun | (out_20, more_21), _ => ⟨[(1, .one (.sl (fixed.map eI))), (2, .one (.sl (rules.map (eA2 eI)))), (3, .one (.ref 0 0 0 0)), (9, .one (.msl 1 b7 0 out_20.length)), (15, .one (.bool more_21))], [.cells 0 2 [[.sl (l.Names.map eS), .sl (l.Below.map (eA2 eI))]], .cells b7 1 (out_20.map eI)]⟩) (fun | (.inl e_38), _ => ⟨[], []⟩ | (.inr out_39), _ => ⟨[(2, .one (.sl (rules.map (eA2 eI)))), (3, .one (.ref 0 0 0 0)), (9, .one (.msl 1 b7 0 out_39.length))], [.cells 0 2 [[.sl (l.Names.map eS), .sl (l.Below.map (eA2 eI))]], .cells b7 1 (out_39.map eI)]⟩) (fun | (.inl _) => none | (.inr _) => some 4) ?_ ?_
  intro i23 b23 hi23
  rcases e_22 with e_case | out_39
  cases hi23
  obtain rfl := Option.some.inj hi23
  obtain ⟨⟩ := b23
  dsimp only at h ⊢
  refine bi h fun r_40 h hr_40 => ?_
  refine tr ?_
  intros
  refine cS (lazarettoref02_Holds_ok hr_40) ?_
  refine fv h F ?_ ?_ <;> intro h _ F
  cases h; exact fin
  cases h; exact fin
  intro af23 m23 s23 a23 o23 hf23 ho23 ih23
  obtain ⟨out_20, more_21⟩ := s23
  obtain ⟨⟩ := a23
  dsimp only [lazarettoref02_Least_L3] at hf23 ⊢
  refine fv hf23 F ?_ ?_ <;> intro hf23 _ F
  refine bi hf23 fun e_27 hf23 he_27 => ?_
  refine tt ?_
  refine lX he_27 (fun | (out_24, more_25, i_26), _ => ⟨[(1, .one (.sl (fixed.map eI))), (2, .one (.sl (rules.map (eA2 eI)))), (3, .one (.ref 0 0 0 0)), (9, .one (.msl 1 b7 0 out_24.length)), (15, .one (.bool more_25)), (16, .one (.int .i64 (i_26 : Int)))], [.cells 0 2 [[.sl (l.Names.map eS), .sl (l.Below.map (eA2 eI))]], .cells b7 1 (out_24.map eI)]⟩) (fun | (.inl e_35), _ => ⟨[], []⟩ | (.inr (out_36, more_37)), _ => ⟨[(1, .one (.sl (fixed.map eI))), (2, .one (.sl (rules.map (eA2 eI)))), (3, .one (.ref 0 0 0 0)), (9, .one (.msl 1 b7 0 out_36.length)), (15, .one (.bool more_37))], [.cells 0 2 [[.sl (l.Names.map eS), .sl (l.Below.map (eA2 eI))]], .cells b7 1 (out_36.map eI)]⟩) (fun | (.inl _) => none | (.inr _) => some 6) ?_ ?_
  intro i28 b28 hi28
  rcases e_27 with e_case | ⟨out_36, more_37⟩
  cases hi28
  obtain rfl := Option.some.inj hi28
  obtain ⟨⟩ := b28
  dsimp only at hf23 ⊢
  cases hf23
  refine tt ?_
  exact bk ih23 ho23 ()
  intro af28 m28 s28 a28 o28 hf28 ho28 ih28
  obtain ⟨out_24, more_25, i_26⟩ := s28
  obtain ⟨⟩ := a28
  dsimp only [lazarettoref02_Least_L4] at hf28 ⊢
  refine tr ?_
  intros
  refine fl hf28 F ?_ ?_ <;> intro hf28 _ F
  refine bx hf28 F fun x_29 hf28 hx_29 F => ?_
  refine by_ hf28 F fun x_30 hf28 hx_30 F => ?_
  refine by_ hf28 F fun x_31 hf28 hx_31 F => ?_
  refine bi hf28 fun r_32 hf28 hr_32 => ?_
  refine tr ?_
  intros
  refine cD (lazarettoref01_Leq_ok hr_32) ?_
  refine tr ?_
  intros
  refine fv hf28 F ?_ ?_ <;> intro hf28 _ F
  cases hf28
  refine tr ?_
  intros
  refine wn i_26 F fun F => ?_
  exact bk ih28 ho28 ()
  refine by_ hf28 F fun x_33 hf28 hx_33 F => ?_
  refine tr ?_
  intros
  refine fi hf28 F ?_ ?_ <;> intro hf28 _ F
  refine bi hf28 fun r_34 hf28 hr_34 => ?_
  refine tr ?_
  intros
  refine cD (lazarettoref01_Join_ok hr_34) ?_
  refine tr ?_
  intros
  refine fi hf28 F ?_ ?_ <;> intro hf28 _ F
  cases hf28
  obtain rfl := sr ho28
  try dsimp only at hf23
  cases hf23
  obtain rfl := sr ho23
  try dsimp only at h
  cases h
  exact fin
  have R := And.intro (show (List.map eI out_24).set x_29.a1.toNat [.int .i64 r_34] = List.map eI (out_24.set x_29.a1.toNat r_34) by simp [go_sem, List.map_set]) R
  cases hf28
  refine tr ?_
  intros
  refine wn i_26 F fun F => ?_
  exact bk ih28 ho28 ()
  cases hf28
  refine tt ?_
  refine wn i_26 F fun F => ?_
  exact bk ih28 ho28 ()
  cases hf28
  refine tt ?_
  exact xt ho28 af28 ()
  cases hf23
  refine tt ?_
  exact xt ho23 af23 ()
  intro af17 m17 i_15 a17 o17 hf17 ho17 ih17
  obtain ⟨⟩ := a17
  dsimp only [lazarettoref02_Least_L2] at hf17 ⊢
  refine tr ?_
  intros
  refine fl hf17 F ?_ ?_ <;> intro hf17 _ F
  refine bx hf17 F fun x_18 hf17 hx_18 F => ?_
  refine tr ?_
  intros
  refine fi hf17 F ?_ ?_ <;> intro hf17 _ F
  cases hf17
  obtain rfl := sr ho17
  try dsimp only at h
  cases h
  exact fin
  refine tr ?_
  intros
  refine fi hf17 F ?_ ?_ <;> intro hf17 _ F
  cases hf17
  obtain rfl := sr ho17
  try dsimp only at h
  cases h
  exact fin
  refine fi hf17 F ?_ ?_ <;> intro hf17 _ F
  cases hf17
  obtain rfl := sr ho17
  try dsimp only at h
  cases h
  exact fin
  refine tr ?_
  intros
  refine fi hf17 F ?_ ?_ <;> intro hf17 _ F
  cases hf17
  obtain rfl := sr ho17
  try dsimp only at h
  cases h
  exact fin
  cases hf17
  refine tt ?_
  refine wn i_15 F fun F => ?_
  exact bk ih17 ho17 ()
  cases hf17
  refine tt ?_
  exact xt ho17 af17 ()
  intro af7 m7 s7 v_2 o7 hf7 ho7 ih7
  obtain ⟨out_3, i_5⟩ := s7
  dsimp only [lazarettoref02_Least_L1] at hf7 ⊢
  refine tr ?_
  intros
  refine fl hf7 F ?_ ?_ <;> intro hf7 _ F
  refine bx hf7 F fun x_8 hf7 hx_8 F => ?_
  refine tr ?_
  intros
  refine fi hf7 F ?_ ?_ <;> intro hf7 _ F
  refine bi hf7 fun r_9 hf7 hr_9 => ?_
  refine tr ?_
  intros
  refine cS (lazarettoref01_Is_ok hr_9) ?_
  refine fv hf7 F ?_ ?_ <;> intro hf7 _ F
  refine nd hf7 F fun hf7 F => ?_
  cases hf7
  refine tr ?_
  intros
  refine wn i_5 F fun F => ?_
  exact bk ih7 ho7 (v_2 + 1)
  cases hf7
  obtain rfl := sr ho7
  try dsimp only at h
  cases h
  exact fin
  refine bi hf7 fun r_11 hf7 hr_11 => ?_
  refine tr ?_
  intros
  refine cS (lazarettoref01_Is_ok hr_11) ?_
  refine fv hf7 F ?_ ?_ <;> intro hf7 _ F
  refine nd hf7 F fun hf7 F => ?_
  cases hf7
  refine tr ?_
  intros
  refine wn i_5 F fun F => ?_
  exact bk ih7 ho7 (v_2 + 1)
  cases hf7
  obtain rfl := sr ho7
  try dsimp only at h
  cases h
  exact fin
  cases hf7
  refine tt ?_
  exact xt ho7 af7 v_2
theorem lazarettoref13_told_ok {p : api_Program} {r : List Int} (h : lazarettoref13_told p = some r) :
    Pu Tryz.prog 117 [.agg (e_api_Program p)] (.one (.sl (r.map eI))) := by
  have F := trivial; have R := trivial
  refine pA Tryz.func117 ?_
  simp only [Tryz.f117]
  unfold lazarettoref13_told at h
  refine bi h fun e_5 h he_5 => ?_
  refine tt ?_
  refine seed_L 3 1 (by simp [go_sem]) ?_
  refine lE (fun (s__ : (List Int) × Nat) (a__ : Nat) => match s__, a__ with | (l_2, i_4), v_1 => ⟨[(1, .one (.ref 0 0 0 0)), (3, .one (.msl 1 v_1 0 l_2.length)), (4, .one (.int .i64 (i_4 : Int)))], [.cells 0 6 [[.sl (p.Lattice.Names.map eS), .sl (p.Lattice.Below.map (eA2 eI)), .sl (p.Sites.map e_api_Site), .sl (p.Vars.map e_api_Var), .sl (p.Blocks.map e_api_Block), .sl (p.Tasks.map e_api_Task)]], .cells v_1 1 (l_2.map eI)]⟩) (fun (e__ : List Int) (b__ : Nat) => match e__, b__ with | e_5, b6 => ⟨[(1, .one (.ref 0 0 0 0)), (3, .one (.msl 1 b6 0 e_5.length))], [.cells 0 6 [[.sl (p.Lattice.Names.map eS), .sl (p.Lattice.Below.map (eA2 eI)), .sl (p.Sites.map e_api_Site), .sl (p.Vars.map e_api_Var), .sl (p.Blocks.map e_api_Block), .sl (p.Tasks.map e_api_Task)]], .cells b6 1 (e_5.map eI)]⟩) (fun (_ : List Int) => some 0) 0 he_5 ?_ ?_
  intro i6 b6 hi6
  obtain rfl := Option.some.inj hi6
  dsimp only at h ⊢
  refine bi h fun e_14 h he_14 => ?_
  refine tt ?_
  refine lE (fun (s__ : (List Int) × Nat) (a__ : Nat) => match s__, a__ with | (l_11, i_13), v_10 => ⟨[(1, .one (.ref 0 0 0 0)), (3, .one (.msl 1 v_10 0 l_11.length)), (5, .one (.int .i64 (i_13 : Int)))], [.cells 0 6 [[.sl (p.Lattice.Names.map eS), .sl (p.Lattice.Below.map (eA2 eI)), .sl (p.Sites.map e_api_Site), .sl (p.Vars.map e_api_Var), .sl (p.Blocks.map e_api_Block), .sl (p.Tasks.map e_api_Task)]], .cells v_10 1 (l_11.map eI)]⟩) (fun (e__ : List Int) (b__ : Nat) => match e__, b__ with | e_14, b15 => ⟨[(3, .one (.msl 1 b15 0 e_14.length))], [.cells 0 6 [[.sl (p.Lattice.Names.map eS), .sl (p.Lattice.Below.map (eA2 eI)), .sl (p.Sites.map e_api_Site), .sl (p.Vars.map e_api_Var), .sl (p.Blocks.map e_api_Block), .sl (p.Tasks.map e_api_Task)]], .cells b15 1 (e_14.map eI)]⟩) (fun (_ : List Int) => some 2) b6 he_14 ?_ ?_
  intro i15 b15 hi15
  obtain rfl := Option.some.inj hi15
  dsimp only at h ⊢
  cases h; exact fin
  intro af15 m15 s15 v_10 o15 hf15 ho15 ih15
  obtain ⟨l_11, i_13⟩ := s15
  dsimp only [lazarettoref13_told_L2] at hf15 ⊢
  refine tr ?_
  intros
  refine fl hf15 F ?_ ?_ <;> intro hf15 _ F
  refine bx hf15 F fun x_16 hf15 hx_16 F => ?_
  refine nd hf15 F fun hf15 F => ?_
  cases hf15
  refine tr ?_
  intros
  refine wn i_13 F fun F => ?_
  exact bk ih15 ho15 (v_10 + 1)
  cases hf15
  refine tt ?_
  exact xt ho15 af15 v_10
  intro af6 m6 s6 v_1 o6 hf6 ho6 ih6
  obtain ⟨l_2, i_4⟩ := s6
  dsimp only [lazarettoref13_told_L1] at hf6 ⊢
  refine tr ?_
  intros
  refine fl hf6 F ?_ ?_ <;> intro hf6 _ F
  refine bx hf6 F fun x_7 hf6 hx_7 F => ?_
  refine nd hf6 F fun hf6 F => ?_
  cases hf6
  refine tr ?_
  intros
  refine wn i_4 F fun F => ?_
  exact bk ih6 ho6 (v_1 + 1)
  cases hf6
  refine tt ?_
  exact xt ho6 af6 v_1
theorem lazarettoref13_to_ok {p : api_Program} {i : Int} {r : Int} (h : lazarettoref13_to p i = some r) :
    Pu Tryz.prog 87 [.agg (e_api_Program p), .one (.int .i64 i)] (.one (.int .i64 r)) := by
  have F := trivial; have R := trivial
  refine pA Tryz.func87 ?_
  simp only [Tryz.f87]
  unfold lazarettoref13_to at h
  cases h; exact fin
theorem lazarettoref13_has_b_ok {lazarettoref13_has_r : api_Program → api_Expr → Option (List Int)} {p : api_Program} {e : api_Expr} {r : List Int}
    (lazarettoref13_has_r_ok : ∀ (x0 : api_Program) (x1 : api_Expr) (r : List Int), lazarettoref13_has_r x0 x1 = some r → Pu Tryz.prog 50 [.agg (e_api_Program x0), .agg (e_api_Expr x1)] (.one (.sl (r.map eI)))) (h : lazarettoref13_has_b lazarettoref13_has_r p e = some r) :
    Pu Tryz.prog 50 [.agg (e_api_Program p), .agg (e_api_Expr e)] (.one (.sl (r.map eI))) := by
  have F := trivial; have R := trivial
  refine pA Tryz.func50 ?_
  simp only [Tryz.f50]
  unfold lazarettoref13_has_b at h
  refine tt ?_
  refine fi h F ?_ ?_ <;> intro h _ F
  refine bi h fun r_1 h hr_1 => ?_
  refine tr ?_
  intros
  refine cS (lazarettoref10_Var_ok hr_1) ?_
  cases h; exact fin
  refine fi h F ?_ ?_ <;> intro h _ F
  refine bi h fun r_2 h hr_2 => ?_
  refine tr ?_
  intros
  refine cD (lazarettoref10_Block_ok hr_2) ?_
  cases h; exact fin
  refine fi h F ?_ ?_ <;> intro h _ F
  refine bi h fun r_3 h hr_3 => ?_
  refine tr ?_
  intros
  refine cD (lazarettoref10_Site_ok hr_3) ?_
  refine bi h fun r_4 h hr_4 => ?_
  refine tr ?_
  intros
  refine cD (lazarettoref13_to_ok hr_4) ?_
  cases h; exact fin
  refine tt ?_
  refine fi h F ?_ ?_ <;> intro h _ F
  refine bi h fun r_5 h hr_5 => ?_
  refine tr ?_
  intros
  refine cS (lazarettoref10_Var_ok hr_5) ?_
  refine bi h fun e_10 h he_10 => ?_
  refine tr ?_
  intros
  refine lE (fun (s__ : (List Int) × Nat) (a__ : Nat) => match s__, a__ with | (l_7, i_9), v_6 => ⟨[(2, .one (.ref 0 0 0 0)), (3, .one (.ref 1 0 0 0)), (5, .one (.msl 2 v_6 0 l_7.length)), (6, .one (.int .i64 (i_9 : Int)))], [.cells 0 6 [[.sl (p.Lattice.Names.map eS), .sl (p.Lattice.Below.map (eA2 eI)), .sl (p.Sites.map e_api_Site), .sl (p.Vars.map e_api_Var), .sl (p.Blocks.map e_api_Block), .sl (p.Tasks.map e_api_Task)]], .cells 0 5 [[.int .i64 e.Op, .int .i64 e.N, .int .i64 e.Kind, .str e.Name, .sl (e.Args.map e_api_Expr)]], .cells v_6 1 (l_7.map eI)]⟩) (fun (e__ : List Int) (b__ : Nat) => match e__, b__ with | e_10, b11 => ⟨[(5, .one (.msl 2 b11 0 e_10.length))], [.cells 0 6 [[.sl (p.Lattice.Names.map eS), .sl (p.Lattice.Below.map (eA2 eI)), .sl (p.Sites.map e_api_Site), .sl (p.Vars.map e_api_Var), .sl (p.Blocks.map e_api_Block), .sl (p.Tasks.map e_api_Task)]], .cells 0 5 [[.int .i64 e.Op, .int .i64 e.N, .int .i64 e.Kind, .str e.Name, .sl (e.Args.map e_api_Expr)]], .cells b11 1 (e_10.map eI)]⟩) (fun (_ : List Int) => some 1) 0 he_10 ?_ ?_
  intro i11 b11 hi11
  obtain rfl := Option.some.inj hi11
  dsimp only at h ⊢
  cases h; exact fin
  intro af11 m11 s11 v_6 o11 hf11 ho11 ih11
  obtain ⟨l_7, i_9⟩ := s11
  dsimp only [lazarettoref13_has_L1] at hf11 ⊢
  refine tr ?_
  intros
  refine fl hf11 F ?_ ?_ <;> intro hf11 _ F
  refine bx hf11 F fun x_12 hf11 hx_12 F => ?_
  refine bi hf11 fun r_13 hf11 hr_13 => ?_
  refine tr ?_
  intros
  refine cD (lazarettoref13_has_r_ok _ _ _ hr_13) ?_
  refine nd hf11 F fun hf11 F => ?_
  cases hf11
  refine tr ?_
  intros
  refine wn i_9 F fun F => ?_
  exact bk ih11 ho11 (v_6 + 1)
  cases hf11
  refine tt ?_
  exact xt ho11 af11 v_6
  refine bi h fun e_20 h he_20 => ?_
  refine tt ?_
  refine seed_L 5 1 (by simp [go_sem]) ?_
  refine lE (fun (s__ : (List Int) × Nat) (a__ : Nat) => match s__, a__ with | (l_17, i_19), v_16 => ⟨[(2, .one (.ref 0 0 0 0)), (3, .one (.ref 1 0 0 0)), (5, .one (.msl 2 v_16 0 l_17.length)), (6, .one (.int .i64 (i_19 : Int)))], [.cells 0 6 [[.sl (p.Lattice.Names.map eS), .sl (p.Lattice.Below.map (eA2 eI)), .sl (p.Sites.map e_api_Site), .sl (p.Vars.map e_api_Var), .sl (p.Blocks.map e_api_Block), .sl (p.Tasks.map e_api_Task)]], .cells 0 5 [[.int .i64 e.Op, .int .i64 e.N, .int .i64 e.Kind, .str e.Name, .sl (e.Args.map e_api_Expr)]], .cells v_16 1 (l_17.map eI)]⟩) (fun (e__ : List Int) (b__ : Nat) => match e__, b__ with | e_20, b21 => ⟨[(5, .one (.msl 2 b21 0 e_20.length))], [.cells 0 6 [[.sl (p.Lattice.Names.map eS), .sl (p.Lattice.Below.map (eA2 eI)), .sl (p.Sites.map e_api_Site), .sl (p.Vars.map e_api_Var), .sl (p.Blocks.map e_api_Block), .sl (p.Tasks.map e_api_Task)]], .cells 0 5 [[.int .i64 e.Op, .int .i64 e.N, .int .i64 e.Kind, .str e.Name, .sl (e.Args.map e_api_Expr)]], .cells b21 1 (e_20.map eI)]⟩) (fun (_ : List Int) => some 1) 0 he_20 ?_ ?_
  intro i21 b21 hi21
  obtain rfl := Option.some.inj hi21
  dsimp only at h ⊢
  cases h; exact fin
  intro af21 m21 s21 v_16 o21 hf21 ho21 ih21
  obtain ⟨l_17, i_19⟩ := s21
  dsimp only [lazarettoref13_has_L2] at hf21 ⊢
  refine tr ?_
  intros
  refine fl hf21 F ?_ ?_ <;> intro hf21 _ F
  refine bx hf21 F fun x_22 hf21 hx_22 F => ?_
  refine bi hf21 fun r_23 hf21 hr_23 => ?_
  refine tr ?_
  intros
  refine cD (lazarettoref13_has_r_ok _ _ _ hr_23) ?_
  refine nd hf21 F fun hf21 F => ?_
  cases hf21
  refine tr ?_
  intros
  refine wn i_19 F fun F => ?_
  exact bk ih21 ho21 (v_16 + 1)
  cases hf21
  refine tt ?_
  exact xt ho21 af21 v_16
theorem lazarettoref13_has_g_ok (n : Nat) : (∀ (x0 : api_Program) (x1 : api_Expr) (r : List Int), (lazarettoref13_has_g n) x0 x1 = some r → Pu Tryz.prog 50 [.agg (e_api_Program x0), .agg (e_api_Expr x1)] (.one (.sl (r.map eI)))) := by
  induction n with
  | zero => exact fun _ _ r h => (by cases h)
  | succ n ih =>
    have ih0 := ih
    exact fun _ _ r h => lazarettoref13_has_b_ok ih0 h
theorem lazarettoref13_has_ok {p : api_Program} {e : api_Expr} {r : List Int} (h : lazarettoref13_has p e = some r) : Pu Tryz.prog 50 [.agg (e_api_Program p), .agg (e_api_Expr e)] (.one (.sl (r.map eI))) := (lazarettoref13_has_g_ok 1000000) _ _ _ h
theorem lazarettoref13_both_ok {a : List Int} {b : List Int} {r : List Int} (h : lazarettoref13_both a b = some r) :
    Pu Tryz.prog 183 [.one (.sl (a.map eI)), .one (.sl (b.map eI))] (.one (.sl (r.map eI))) := by
  have F := trivial; have R := trivial
  refine pA Tryz.func183 ?_
  simp only [Tryz.f183]
  unfold lazarettoref13_both at h
  refine tr ?_
  intros
  refine fv h F ?_ ?_ <;> intro h _ F
  refine bi h fun e_5 h he_5 => ?_
  refine tr ?_
  intros
  refine seed_L 5 1 (by simp [go_sem]) ?_
  refine lE (fun (s__ : (List Int) × Nat) (a__ : Nat) => match s__, a__ with | (out_2, i_4), v_1 => ⟨[(1, .one (.sl (b.map eI))), (5, .one (.msl 0 v_1 0 out_2.length)), (6, .one (.int .i64 (i_4 : Int)))], [.cells v_1 1 (out_2.map eI)]⟩) (fun (e__ : List Int) (b__ : Nat) => match e__, b__ with | e_5, b6 => ⟨[(5, .one (.msl 0 b6 0 e_5.length))], [.cells b6 1 (e_5.map eI)]⟩) (fun (_ : List Int) => some 0) 0 he_5 ?_ ?_
  intro i6 b6 hi6
  obtain rfl := Option.some.inj hi6
  dsimp only at h ⊢
  cases h; exact fin
  intro af6 m6 s6 v_1 o6 hf6 ho6 ih6
  obtain ⟨out_2, i_4⟩ := s6
  dsimp only [lazarettoref13_both_L1] at hf6 ⊢
  refine tr ?_
  intros
  refine fl hf6 F ?_ ?_ <;> intro hf6 _ F
  refine bi hf6 fun e_9 hf6 he_9 => ?_
  refine tt ?_
  refine lX he_9 (fun | (there_7, k_8), _ => ⟨[(1, .one (.sl (b.map eI))), (5, .one (.msl 0 v_1 0 out_2.length)), (6, .one (.int .i64 (i_4 : Int))), (7, .one (.bool there_7)), (8, .one (.int .i64 (k_8 : Int)))], [.cells v_1 1 (out_2.map eI)]⟩) (fun | e_9, _ => ⟨[(1, .one (.sl (b.map eI))), (5, .one (.msl 0 v_1 0 out_2.length)), (6, .one (.int .i64 (i_4 : Int))), (7, .one (.bool e_9))], [.cells v_1 1 (out_2.map eI)]⟩) (fun _ => some 2) ?_ ?_
  intro i10 b10 hi10
  obtain rfl := Option.some.inj hi10
  obtain ⟨⟩ := b10
  dsimp only at hf6 ⊢
  refine fv hf6 F ?_ ?_ <;> intro hf6 _ F
  cases hf6
  refine tt ?_
  refine wn i_4 F fun F => ?_
  exact bk ih6 ho6 v_1
  refine bx hf6 F fun x_14 hf6 hx_14 F => ?_
  refine nd hf6 F fun hf6 F => ?_
  cases hf6
  refine tr ?_
  intros
  refine wn i_4 F fun F => ?_
  exact bk ih6 ho6 (v_1 + 1)
  intro af10 m10 s10 a10 o10 hf10 ho10 ih10
  obtain ⟨there_7, k_8⟩ := s10
  obtain ⟨⟩ := a10
  dsimp only [lazarettoref13_both_L2] at hf10 ⊢
  refine tr ?_
  intros
  refine fl hf10 F ?_ ?_ <;> intro hf10 _ F
  refine fv hf10 F ?_ ?_ <;> intro hf10 _ F
  cases hf10
  refine tt ?_
  exact xt ho10 af10 ()
  refine bx hf10 F fun x_11 hf10 hx_11 F => ?_
  refine bx hf10 F fun x_12 hf10 hx_12 F => ?_
  cases hf10
  refine tr ?_
  intros
  refine wn k_8 F fun F => ?_
  exact bk ih10 ho10 ()
  cases hf10
  refine tt ?_
  exact xt ho10 af10 ()
  cases hf6
  refine tt ?_
  exact xt ho6 af6 v_1
  refine nd h F fun h F => ?_
  refine bi h fun e_22 h he_22 => ?_
  refine tr ?_
  intros
  refine lE (fun (s__ : (List Int) × Nat) (a__ : Nat) => match s__, a__ with | (out_19, i_21), v_18 => ⟨[(1, .one (.sl (b.map eI))), (5, .one (.msl 0 v_18 0 out_19.length)), (6, .one (.int .i64 (i_21 : Int)))], [.cells v_18 1 (out_19.map eI)]⟩) (fun (e__ : List Int) (b__ : Nat) => match e__, b__ with | e_22, b23 => ⟨[(5, .one (.msl 0 b23 0 e_22.length))], [.cells b23 1 (e_22.map eI)]⟩) (fun (_ : List Int) => some 0) 0 he_22 ?_ ?_
  intro i23 b23 hi23
  obtain rfl := Option.some.inj hi23
  dsimp only at h ⊢
  cases h; exact fin
  intro af23 m23 s23 v_18 o23 hf23 ho23 ih23
  obtain ⟨out_19, i_21⟩ := s23
  dsimp only [lazarettoref13_both_L3] at hf23 ⊢
  refine tr ?_
  intros
  refine fl hf23 F ?_ ?_ <;> intro hf23 _ F
  refine bi hf23 fun e_26 hf23 he_26 => ?_
  refine tt ?_
  refine lX he_26 (fun | (there_24, k_25), _ => ⟨[(1, .one (.sl (b.map eI))), (5, .one (.msl 0 v_18 0 out_19.length)), (6, .one (.int .i64 (i_21 : Int))), (7, .one (.bool there_24)), (8, .one (.int .i64 (k_25 : Int)))], [.cells v_18 1 (out_19.map eI)]⟩) (fun | e_26, _ => ⟨[(1, .one (.sl (b.map eI))), (5, .one (.msl 0 v_18 0 out_19.length)), (6, .one (.int .i64 (i_21 : Int))), (7, .one (.bool e_26))], [.cells v_18 1 (out_19.map eI)]⟩) (fun _ => some 2) ?_ ?_
  intro i27 b27 hi27
  obtain rfl := Option.some.inj hi27
  obtain ⟨⟩ := b27
  dsimp only at hf23 ⊢
  refine fv hf23 F ?_ ?_ <;> intro hf23 _ F
  cases hf23
  refine tt ?_
  refine wn i_21 F fun F => ?_
  exact bk ih23 ho23 v_18
  refine bx hf23 F fun x_31 hf23 hx_31 F => ?_
  refine nd hf23 F fun hf23 F => ?_
  cases hf23
  refine tr ?_
  intros
  refine wn i_21 F fun F => ?_
  exact bk ih23 ho23 (v_18 + 1)
  intro af27 m27 s27 a27 o27 hf27 ho27 ih27
  obtain ⟨there_24, k_25⟩ := s27
  obtain ⟨⟩ := a27
  dsimp only [lazarettoref13_both_L4] at hf27 ⊢
  refine tr ?_
  intros
  refine fl hf27 F ?_ ?_ <;> intro hf27 _ F
  refine fv hf27 F ?_ ?_ <;> intro hf27 _ F
  cases hf27
  refine tt ?_
  exact xt ho27 af27 ()
  refine bx hf27 F fun x_28 hf27 hx_28 F => ?_
  refine bx hf27 F fun x_29 hf27 hx_29 F => ?_
  cases hf27
  refine tr ?_
  intros
  refine wn k_25 F fun F => ?_
  exact bk ih27 ho27 ()
  cases hf27
  refine tt ?_
  exact xt ho27 af27 ()
  cases hf23
  refine tt ?_
  exact xt ho23 af23 v_18
theorem lazarettoref13_put_ok {l : List (A2 Int)} {x : A2 Int} {r : List (A2 Int)} (h : lazarettoref13_put l x = some r) :
    Pu Tryz.prog 197 [.one (.sl (l.map (eA2 eI))), .agg ((eA2 eI) x)] (.one (.sl (r.map (eA2 eI)))) := by
  have F := trivial; have R := trivial
  refine pA Tryz.func197 ?_
  simp only [Tryz.f197]
  unfold lazarettoref13_put at h
  refine tr ?_
  intros
  refine fi h F ?_ ?_ <;> intro h _ F
  cases h; exact fin
  refine bi h fun e_2 h he_2 => ?_
  refine tt ?_
  refine lX he_2 (fun | k_1, _ => ⟨[(0, .one (.sl (l.map (eA2 eI)))), (3, .one (.ref 0 0 0 0)), (5, .one (.int .i64 (k_1 : Int)))], [.cells 0 2 [[.int .i64 x.a0, .int .i64 x.a1]]]⟩) (fun | e_2, _ => ⟨[(0, .one (.sl (l.map (eA2 eI)))), (3, .one (.ref 0 0 0 0)), (5, .one (.int .i64 (e_2 : Int)))], [.cells 0 2 [[.int .i64 x.a0, .int .i64 x.a1]]]⟩) (fun _ => some 0) ?_ ?_
  intro i3 b3 hi3
  obtain rfl := Option.some.inj hi3
  obtain ⟨⟩ := b3
  dsimp only at h ⊢
  refine tr ?_
  intros
  refine fl h F ?_ ?_ <;> intro h _ F
  refine bx h F fun x_6 h hx_6 F => ?_
  refine tr ?_
  intros
  refine fi h F ?_ ?_ <;> intro h _ F
  cases h; exact fin
  refine tt ?_
  first | refine ⟨by kernel_rfl, [0], [4, 5, 7, 8, 9], [3, 6], by kernel_rfl, ?_⟩ | refine ⟨mo, drawB_i (by kernel_rfl), by kernel_rfl, [0], [4, 5, 7, 8, 9], [3, 6], by kernel_rfl, ?_⟩
  refine nd h F fun h F => ?_
  refine tt ?_
  repeat (first | (with_reducible intro _) | ((with_reducible refine and_i ?_ ?_); first | ((with_reducible refine sq_i ?_); exact sq_) | exact ss))
  refine fv h F ?_ ?_ <;> intro h _ F
  refine nd h F fun h F => ?_
  refine nd h F fun h F => ?_
  refine tr ?_
  intros
  · cases h
    have F0 := F
    simp only [List.length_take, List.length_drop] at F0
    refine fin (h := ?_)
    (try simp -implicitDefEqProofs only [go_sem, simprocAttr, F, R])
    (repeat' (first | (with_reducible refine sq_i ?_; exact sq_) | (with_reducible apply And.intro) | (refine fun (_ : (_ : Nat) ≤ _) => ?_)))
    all_goals first | omega | (simp only [List.length_drop, List.length_map, List.length_take]; omega) | (intro r hr; first | (obtain ⟨_, _, rfl⟩ := List.mem_map.1 (List.mem_of_mem_drop hr); rfl) | (obtain ⟨_, _, rfl⟩ := List.mem_map.1 (List.mem_of_mem_take hr); rfl) | (simp at hr; simp [hr]; done)) | (simp [go_sem, F]; refine List.take_of_length_le ?_; simp only [List.length_cons, List.length_drop, List.length_map, List.length_append, List.length_take]; omega) | (refine sq_i ?_; intro H2 hA; simp only [agree_c, agree_n, List.getElem?_cons_zero, List.getElem?_cons_succ, and_true] at hA; simp [go_sem, hA] <;> omega) | (simp [go_sem, F]; done)
  refine nd h F fun h F => ?_
  refine nd h F fun h F => ?_
  refine nd h F fun h F => ?_
  refine nd h F fun h F => ?_
  refine tr ?_
  intros
  · cases h
    have F0 := F
    simp only [List.length_take, List.length_drop] at F0
    refine fin (h := ?_)
    (try simp -implicitDefEqProofs only [go_sem, simprocAttr, F, R])
    (repeat' (first | (with_reducible refine sq_i ?_; exact sq_) | (with_reducible apply And.intro) | (refine fun (_ : (_ : Nat) ≤ _) => ?_)))
    all_goals first | omega | (simp only [List.length_drop, List.length_map, List.length_take]; omega) | (intro r hr; first | (obtain ⟨_, _, rfl⟩ := List.mem_map.1 (List.mem_of_mem_drop hr); rfl) | (obtain ⟨_, _, rfl⟩ := List.mem_map.1 (List.mem_of_mem_take hr); rfl) | (simp at hr; simp [hr]; done)) | (simp [go_sem, F]; refine List.take_of_length_le ?_; simp only [List.length_cons, List.length_drop, List.length_map, List.length_append, List.length_take]; omega) | (refine sq_i ?_; intro H2 hA; simp only [agree_c, agree_n, List.getElem?_cons_zero, List.getElem?_cons_succ, and_true] at hA; simp [go_sem, hA] <;> omega) | (simp [go_sem, F]; done)
  refine tr ?_
  intros
  first | refine ⟨by kernel_rfl, [0], [4, 5, 7, 8, 9], [3, 6], by kernel_rfl, ?_⟩ | refine ⟨mo, drawB_i (by kernel_rfl), by kernel_rfl, [0], [4, 5, 7, 8, 9], [3, 6], by kernel_rfl, ?_⟩
  refine nd h F fun h F => ?_
  refine tt ?_
  repeat (first | (with_reducible intro _) | ((with_reducible refine and_i ?_ ?_); first | ((with_reducible refine sq_i ?_); exact sq_) | exact ss))
  refine fv h F ?_ ?_ <;> intro h _ F
  refine nd h F fun h F => ?_
  refine nd h F fun h F => ?_
  refine tr ?_
  intros
  · cases h
    have F0 := F
    simp only [List.length_take, List.length_drop] at F0
    refine fin (h := ?_)
    (try simp -implicitDefEqProofs only [go_sem, simprocAttr, F, R])
    (repeat' (first | (with_reducible refine sq_i ?_; exact sq_) | (with_reducible apply And.intro) | (refine fun (_ : (_ : Nat) ≤ _) => ?_)))
    all_goals first | omega | (simp only [List.length_drop, List.length_map, List.length_take]; omega) | (intro r hr; first | (obtain ⟨_, _, rfl⟩ := List.mem_map.1 (List.mem_of_mem_drop hr); rfl) | (obtain ⟨_, _, rfl⟩ := List.mem_map.1 (List.mem_of_mem_take hr); rfl) | (simp at hr; simp [hr]; done)) | (simp [go_sem, F]; refine List.take_of_length_le ?_; simp only [List.length_cons, List.length_drop, List.length_map, List.length_append, List.length_take]; omega) | (refine sq_i ?_; intro H2 hA; simp only [agree_c, agree_n, List.getElem?_cons_zero, List.getElem?_cons_succ, and_true] at hA; simp [go_sem, hA] <;> omega) | (simp [go_sem, F]; done)
  refine nd h F fun h F => ?_
  refine nd h F fun h F => ?_
  refine nd h F fun h F => ?_
  refine nd h F fun h F => ?_
  refine tr ?_
  intros
  · cases h
    have F0 := F
    simp only [List.length_take, List.length_drop] at F0
    refine fin (h := ?_)
    (try simp -implicitDefEqProofs only [go_sem, simprocAttr, F, R])
    (repeat' (first | (with_reducible refine sq_i ?_; exact sq_) | (with_reducible apply And.intro) | (refine fun (_ : (_ : Nat) ≤ _) => ?_)))
    all_goals first | omega | (simp only [List.length_drop, List.length_map, List.length_take]; omega) | (intro r hr; first | (obtain ⟨_, _, rfl⟩ := List.mem_map.1 (List.mem_of_mem_drop hr); rfl) | (obtain ⟨_, _, rfl⟩ := List.mem_map.1 (List.mem_of_mem_take hr); rfl) | (simp at hr; simp [hr]; done)) | (simp [go_sem, F]; refine List.take_of_length_le ?_; simp only [List.length_cons, List.length_drop, List.length_map, List.length_append, List.length_take]; omega) | (refine sq_i ?_; intro H2 hA; simp only [agree_c, agree_n, List.getElem?_cons_zero, List.getElem?_cons_succ, and_true] at hA; simp [go_sem, hA] <;> omega) | (simp [go_sem, F]; done)
  intro af3 m3 k_1 a3 o3 hf3 ho3 ih3
  obtain ⟨⟩ := a3
  dsimp only [lazarettoref13_put_L1] at hf3 ⊢
  refine tr ?_
  intros
  refine fl hf3 F ?_ ?_ <;> intro hf3 _ F
  refine bx hf3 F fun x_4 hf3 hx_4 F => ?_
  refine tr ?_
  intros
  refine fi hf3 F ?_ ?_ <;> intro hf3 _ F
  cases hf3
  refine tr ?_
  intros
  refine wn k_1 F fun F => ?_
  exact bk ih3 ho3 ()
  refine tr ?_
  intros
  refine fi hf3 F ?_ ?_ <;> intro hf3 _ F
  refine tr ?_
  intros
  refine fi hf3 F ?_ ?_ <;> intro hf3 _ F
  cases hf3
  refine tt ?_
  refine wn k_1 F fun F => ?_
  exact bk ih3 ho3 ()
  cases hf3
  refine tt ?_
  exact xt ho3 af3 ()
  cases hf3
  refine tr ?_
  intros
  exact xt ho3 af3 ()
  cases hf3
  refine tr ?_
  intros
  exact xt ho3 af3 ()
theorem lazarettoref13_each_ok {l : List (A2 Int)} {from_ : List Int} {y : Int} {r : List (A2 Int)} (h : lazarettoref13_each l from_ y = some r) :
    Pu Tryz.prog 182 [.one (.sl (l.map (eA2 eI))), .one (.sl (from_.map eI)), .one (.int .i64 y)] (.one (.sl (r.map (eA2 eI)))) := by
  have F := trivial; have R := trivial
  refine pA Tryz.func182 ?_
  simp only [Tryz.f182]
  unfold lazarettoref13_each at h
  refine bi h fun e_3 h he_3 => ?_
  refine tt ?_
  refine lX he_3 (fun | (l_1, i_2), _ => ⟨[(0, .one (.sl (l_1.map (eA2 eI)))), (1, .one (.sl (from_.map eI))), (2, .one (.int .i64 y)), (7, .one (.int .i64 (i_2 : Int)))], []⟩) (fun | e_3, _ => ⟨[(0, .one (.sl (e_3.map (eA2 eI))))], []⟩) (fun _ => some 0) ?_ ?_
  intro i4 b4 hi4
  obtain rfl := Option.some.inj hi4
  obtain ⟨⟩ := b4
  dsimp only at h ⊢
  cases h; exact fin
  intro af4 m4 s4 a4 o4 hf4 ho4 ih4
  obtain ⟨l_1, i_2⟩ := s4
  obtain ⟨⟩ := a4
  dsimp only [lazarettoref13_each_L1] at hf4 ⊢
  refine tr ?_
  intros
  refine fl hf4 F ?_ ?_ <;> intro hf4 _ F
  refine bx hf4 F fun x_5 hf4 hx_5 F => ?_
  refine bi hf4 fun r_6 hf4 hr_6 => ?_
  refine tr ?_
  intros
  refine cS (lazarettoref13_put_ok hr_6) ?_
  cases hf4
  refine tt ?_
  refine wn i_2 F fun F => ?_
  exact bk ih4 ho4 ()
  cases hf4
  refine tt ?_
  exact xt ho4 af4 ()
theorem lazarettoref13_sites_b_ok {lazarettoref13_sites_r : api_Program → (List (A2 Int)) → api_Expr → (List Int) → Option (List (A2 Int))} {p : api_Program} {l : List (A2 Int)} {e : api_Expr} {around : List Int} {r : List (A2 Int)}
    (lazarettoref13_sites_r_ok : ∀ (x0 : api_Program) (x1 : List (A2 Int)) (x2 : api_Expr) (x3 : List Int) (r : List (A2 Int)), lazarettoref13_sites_r x0 x1 x2 x3 = some r → Pu Tryz.prog 184 [.agg (e_api_Program x0), .one (.sl (x1.map (eA2 eI))), .agg (e_api_Expr x2), .one (.sl (x3.map eI))] (.one (.sl (r.map (eA2 eI))))) (h : lazarettoref13_sites_b lazarettoref13_sites_r p l e around = some r) :
    Pu Tryz.prog 184 [.agg (e_api_Program p), .one (.sl (l.map (eA2 eI))), .agg (e_api_Expr e), .one (.sl (around.map eI))] (.one (.sl (r.map (eA2 eI)))) := by
  have F := trivial; have R := trivial
  refine pA Tryz.func184 ?_
  simp only [Tryz.f184]
  unfold lazarettoref13_sites_b at h
  refine fi h F ?_ ?_ <;> intro h _ F
  refine bi h fun r_1 h hr_1 => ?_
  refine tr ?_
  intros
  refine cD (lazarettoref10_Site_ok hr_1) ?_
  refine bi h fun r_2 h hr_2 => ?_
  refine tr ?_
  intros
  refine cD (lazarettoref13_to_ok hr_2) ?_
  refine bx h F fun x_3 h hx_3 F => ?_
  refine bi h fun r_4 h hr_4 => ?_
  refine tr ?_
  intros
  refine cD (lazarettoref13_has_ok hr_4) ?_
  refine bi h fun r_5 h hr_5 => ?_
  refine tr ?_
  intros
  refine cD (lazarettoref13_each_ok hr_5) ?_
  refine bi h fun r_6 h hr_6 => ?_
  refine tr ?_
  intros
  refine cS (lazarettoref13_each_ok hr_6) ?_
  refine bi h fun e_9 h he_9 => ?_
  refine tt ?_
  refine lX he_9 (fun | (l_7, i_8), _ => ⟨[(1, .one (.sl (l_7.map (eA2 eI)))), (3, .one (.sl (around.map eI))), (4, .one (.ref 0 0 0 0)), (6, .one (.ref 1 0 0 0)), (10, .one (.int .i64 (i_8 : Int)))], [.cells 0 6 [[.sl (p.Lattice.Names.map eS), .sl (p.Lattice.Below.map (eA2 eI)), .sl (p.Sites.map e_api_Site), .sl (p.Vars.map e_api_Var), .sl (p.Blocks.map e_api_Block), .sl (p.Tasks.map e_api_Task)]], .cells 0 5 [[.int .i64 e.Op, .int .i64 e.N, .int .i64 e.Kind, .str e.Name, .sl (e.Args.map e_api_Expr)]]]⟩) (fun | e_9, _ => ⟨[(1, .one (.sl (e_9.map (eA2 eI))))], [.cells 0 6 [[.sl (p.Lattice.Names.map eS), .sl (p.Lattice.Below.map (eA2 eI)), .sl (p.Sites.map e_api_Site), .sl (p.Vars.map e_api_Var), .sl (p.Blocks.map e_api_Block), .sl (p.Tasks.map e_api_Task)]], .cells 0 5 [[.int .i64 e.Op, .int .i64 e.N, .int .i64 e.Kind, .str e.Name, .sl (e.Args.map e_api_Expr)]]]⟩) (fun _ => some 0) ?_ ?_
  intro i10 b10 hi10
  obtain rfl := Option.some.inj hi10
  obtain ⟨⟩ := b10
  dsimp only at h ⊢
  cases h; exact fin
  intro af10 m10 s10 a10 o10 hf10 ho10 ih10
  obtain ⟨l_7, i_8⟩ := s10
  obtain ⟨⟩ := a10
  dsimp only [lazarettoref13_sites_L1] at hf10 ⊢
  refine tr ?_
  intros
  refine fl hf10 F ?_ ?_ <;> intro hf10 _ F
  refine bx hf10 F fun x_11 hf10 hx_11 F => ?_
  refine bi hf10 fun r_12 hf10 hr_12 => ?_
  refine tr ?_
  intros
  refine cD (lazarettoref13_sites_r_ok _ _ _ _ _ hr_12) ?_
  cases hf10
  refine tr ?_
  intros
  refine wn i_8 F fun F => ?_
  exact bk ih10 ho10 ()
  cases hf10
  refine tt ?_
  exact xt ho10 af10 ()
  refine bi h fun e_16 h he_16 => ?_
  refine tt ?_
  refine lX he_16 (fun | (l_14, i_15), _ => ⟨[(1, .one (.sl (l_14.map (eA2 eI)))), (3, .one (.sl (around.map eI))), (4, .one (.ref 0 0 0 0)), (6, .one (.ref 1 0 0 0)), (10, .one (.int .i64 (i_15 : Int)))], [.cells 0 6 [[.sl (p.Lattice.Names.map eS), .sl (p.Lattice.Below.map (eA2 eI)), .sl (p.Sites.map e_api_Site), .sl (p.Vars.map e_api_Var), .sl (p.Blocks.map e_api_Block), .sl (p.Tasks.map e_api_Task)]], .cells 0 5 [[.int .i64 e.Op, .int .i64 e.N, .int .i64 e.Kind, .str e.Name, .sl (e.Args.map e_api_Expr)]]]⟩) (fun | e_16, _ => ⟨[(1, .one (.sl (e_16.map (eA2 eI))))], [.cells 0 6 [[.sl (p.Lattice.Names.map eS), .sl (p.Lattice.Below.map (eA2 eI)), .sl (p.Sites.map e_api_Site), .sl (p.Vars.map e_api_Var), .sl (p.Blocks.map e_api_Block), .sl (p.Tasks.map e_api_Task)]], .cells 0 5 [[.int .i64 e.Op, .int .i64 e.N, .int .i64 e.Kind, .str e.Name, .sl (e.Args.map e_api_Expr)]]]⟩) (fun _ => some 0) ?_ ?_
  intro i17 b17 hi17
  obtain rfl := Option.some.inj hi17
  obtain ⟨⟩ := b17
  dsimp only at h ⊢
  cases h; exact fin
  intro af17 m17 s17 a17 o17 hf17 ho17 ih17
  obtain ⟨l_14, i_15⟩ := s17
  obtain ⟨⟩ := a17
  dsimp only [lazarettoref13_sites_L2] at hf17 ⊢
  refine tr ?_
  intros
  refine fl hf17 F ?_ ?_ <;> intro hf17 _ F
  refine bx hf17 F fun x_18 hf17 hx_18 F => ?_
  refine bi hf17 fun r_19 hf17 hr_19 => ?_
  refine tr ?_
  intros
  refine cD (lazarettoref13_sites_r_ok _ _ _ _ _ hr_19) ?_
  cases hf17
  refine tr ?_
  intros
  refine wn i_15 F fun F => ?_
  exact bk ih17 ho17 ()
  cases hf17
  refine tt ?_
  exact xt ho17 af17 ()
theorem lazarettoref13_sites_g_ok (n : Nat) : (∀ (x0 : api_Program) (x1 : List (A2 Int)) (x2 : api_Expr) (x3 : List Int) (r : List (A2 Int)), (lazarettoref13_sites_g n) x0 x1 x2 x3 = some r → Pu Tryz.prog 184 [.agg (e_api_Program x0), .one (.sl (x1.map (eA2 eI))), .agg (e_api_Expr x2), .one (.sl (x3.map eI))] (.one (.sl (r.map (eA2 eI))))) := by
  induction n with
  | zero => exact fun _ _ _ _ r h => (by cases h)
  | succ n ih =>
    have ih0 := ih
    exact fun _ _ _ _ r h => lazarettoref13_sites_b_ok ih0 h
theorem lazarettoref13_sites_ok {p : api_Program} {l : List (A2 Int)} {e : api_Expr} {around : List Int} {r : List (A2 Int)} (h : lazarettoref13_sites p l e around = some r) : Pu Tryz.prog 184 [.agg (e_api_Program p), .one (.sl (l.map (eA2 eI))), .agg (e_api_Expr e), .one (.sl (around.map eI))] (.one (.sl (r.map (eA2 eI)))) := (lazarettoref13_sites_g_ok 1000000) _ _ _ _ _ h
theorem lazarettoref13_terms_ok {p : api_Program} {l : List (A2 Int)} {t : List api_Expr} {around : List Int} {r : (List (A2 Int)) × (List Int)} (h : lazarettoref13_terms p l t around = some r) :
    Pu Tryz.prog 180 [.agg (e_api_Program p), .one (.sl (l.map (eA2 eI))), .one (.sl (t.map e_api_Expr)), .one (.sl (around.map eI))] (.tup [.one (.sl (r.1.map (eA2 eI))), .one (.sl (r.2.map eI))]) := by
  have F := trivial; have R := trivial
  refine pA Tryz.func180 ?_
  simp only [Tryz.f180]
  unfold lazarettoref13_terms at h
  refine bi h fun e_4 h he_4 => ?_
  refine tt ?_
  refine plain_L 10 _ (by simp [go_sem]; rfl) ?_
  refine lX he_4 (fun | (l_1, h_2, i_3), _ => ⟨[(1, .one (.sl (l_1.map (eA2 eI)))), (2, .one (.sl (t.map e_api_Expr))), (3, .one (.sl (around.map eI))), (4, .one (.ref 0 0 0 0)), (10, .one (.sl (h_2.map eI))), (11, .one (.int .i64 (i_3 : Int)))], [.cells 0 6 [[.sl (p.Lattice.Names.map eS), .sl (p.Lattice.Below.map (eA2 eI)), .sl (p.Sites.map e_api_Site), .sl (p.Vars.map e_api_Var), .sl (p.Blocks.map e_api_Block), .sl (p.Tasks.map e_api_Task)]]]⟩) (fun | (l_10, h_11), _ => ⟨[(1, .one (.sl (l_10.map (eA2 eI)))), (10, .one (.sl (h_11.map eI)))], [.cells 0 6 [[.sl (p.Lattice.Names.map eS), .sl (p.Lattice.Below.map (eA2 eI)), .sl (p.Sites.map e_api_Site), .sl (p.Vars.map e_api_Var), .sl (p.Blocks.map e_api_Block), .sl (p.Tasks.map e_api_Task)]]]⟩) (fun _ => some 0) ?_ ?_
  intro i5 b5 hi5
  obtain rfl := Option.some.inj hi5
  obtain ⟨l_10, h_11⟩ := e_4
  obtain ⟨⟩ := b5
  dsimp only at h ⊢
  cases h; exact fin
  intro af5 m5 s5 a5 o5 hf5 ho5 ih5
  obtain ⟨l_1, h_2, i_3⟩ := s5
  obtain ⟨⟩ := a5
  dsimp only [lazarettoref13_terms_L1] at hf5 ⊢
  refine tr ?_
  intros
  refine fl hf5 F ?_ ?_ <;> intro hf5 _ F
  refine bx hf5 F fun x_6 hf5 hx_6 F => ?_
  refine bi hf5 fun r_7 hf5 hr_7 => ?_
  refine tr ?_
  intros
  refine cD (lazarettoref13_sites_ok hr_7) ?_
  refine bi hf5 fun r_8 hf5 hr_8 => ?_
  refine tr ?_
  intros
  refine cD (lazarettoref13_has_ok hr_8) ?_
  refine bi hf5 fun r_9 hf5 hr_9 => ?_
  refine tr ?_
  intros
  refine cD (lazarettoref13_both_ok hr_9) ?_
  cases hf5
  refine tr ?_
  intros
  refine wn i_3 F fun F => ?_
  exact bk ih5 ho5 ()
  cases hf5
  refine tt ?_
  exact xt ho5 af5 ()
theorem lazarettoref13_both2_ok {s : api_Stmt} {r : List api_Expr} (h : lazarettoref13_both2 s = some r) :
    Pu Tryz.prog 181 [.agg (e_api_Stmt s)] (.one (.sl (r.map e_api_Expr))) := by
  have F := trivial; have R := trivial
  refine pA Tryz.func181 ?_
  simp only [Tryz.f181]
  unfold lazarettoref13_both2 at h
  refine fi h F ?_ ?_ <;> intro h _ F
  refine bx h F fun x_1 h hx_1 F => ?_
  cases h; exact fin
  cases h; exact fin
theorem lazarettoref13_stmts_b_ok {lazarettoref13_stmts_r : api_Program → (List (A2 Int)) → (List api_Stmt) → (List Int) → Option (List (A2 Int))} {p : api_Program} {l : List (A2 Int)} {s : List api_Stmt} {around : List Int} {r : List (A2 Int)}
    (lazarettoref13_stmts_r_ok : ∀ (x0 : api_Program) (x1 : List (A2 Int)) (x2 : List api_Stmt) (x3 : List Int) (r : List (A2 Int)), lazarettoref13_stmts_r x0 x1 x2 x3 = some r → Pu Tryz.prog 154 [.agg (e_api_Program x0), .one (.sl (x1.map (eA2 eI))), .one (.sl (x2.map e_api_Stmt)), .one (.sl (x3.map eI))] (.one (.sl (r.map (eA2 eI))))) (h : lazarettoref13_stmts_b lazarettoref13_stmts_r p l s around = some r) :
    Pu Tryz.prog 154 [.agg (e_api_Program p), .one (.sl (l.map (eA2 eI))), .one (.sl (s.map e_api_Stmt)), .one (.sl (around.map eI))] (.one (.sl (r.map (eA2 eI)))) := by
  have F := trivial; have R := trivial
  refine pA Tryz.func154 ?_
  simp only [Tryz.f154]
  unfold lazarettoref13_stmts_b at h
  refine bi h fun e_3 h he_3 => ?_
  refine tt ?_
  refine lX he_3 (fun | (l_1, i_2), _ => ⟨[(1, .one (.sl (l_1.map (eA2 eI)))), (2, .one (.sl (s.map e_api_Stmt))), (3, .one (.sl (around.map eI))), (4, .one (.ref 0 0 0 0)), (9, .one (.int .i64 (i_2 : Int)))], [.cells 0 6 [[.sl (p.Lattice.Names.map eS), .sl (p.Lattice.Below.map (eA2 eI)), .sl (p.Sites.map e_api_Site), .sl (p.Vars.map e_api_Var), .sl (p.Blocks.map e_api_Block), .sl (p.Tasks.map e_api_Task)]]]⟩) (fun | e_3, _ => ⟨[(1, .one (.sl (e_3.map (eA2 eI))))], [.cells 0 6 [[.sl (p.Lattice.Names.map eS), .sl (p.Lattice.Below.map (eA2 eI)), .sl (p.Sites.map e_api_Site), .sl (p.Vars.map e_api_Var), .sl (p.Blocks.map e_api_Block), .sl (p.Tasks.map e_api_Task)]]]⟩) (fun _ => some 0) ?_ ?_
  intro i4 b4 hi4
  obtain rfl := Option.some.inj hi4
  obtain ⟨⟩ := b4
  dsimp only at h ⊢
  cases h; exact fin
  intro af4 m4 s4 a4 o4 hf4 ho4 ih4
  obtain ⟨l_1, i_2⟩ := s4
  obtain ⟨⟩ := a4
  dsimp only [lazarettoref13_stmts_L1] at hf4 ⊢
  refine tr ?_
  intros
  refine fl hf4 F ?_ ?_ <;> intro hf4 _ F
  refine bx hf4 F fun x_5 hf4 hx_5 F => ?_
  refine tr ?_
  intros
  refine fi hf4 F ?_ ?_ <;> intro hf4 _ F
  refine bi hf4 fun r_6 hf4 hr_6 => ?_
  refine tr ?_
  intros
  refine cD (lazarettoref13_both2_ok hr_6) ?_
  refine bi hf4 fun r_7 hf4 hr_7 => ?_
  refine tr ?_
  intros
  refine cD (lazarettoref13_terms_ok hr_7) ?_
  refine bi hf4 fun r_8 hf4 hr_8 => ?_
  refine tr ?_
  intros
  refine cD (lazarettoref13_both_ok hr_8) ?_
  refine bi hf4 fun r_9 hf4 hr_9 => ?_
  refine tr ?_
  intros
  refine cD (lazarettoref10_Var_ok hr_9) ?_
  refine bi hf4 fun r_10 hf4 hr_10 => ?_
  refine tr ?_
  intros
  refine cD (lazarettoref13_each_ok hr_10) ?_
  cases hf4
  refine tr ?_
  intros
  refine wn i_2 F fun F => ?_
  exact bk ih4 ho4 ()
  refine fi hf4 F ?_ ?_ <;> intro hf4 _ F
  refine bi hf4 fun r_11 hf4 hr_11 => ?_
  refine tr ?_
  intros
  refine cS (lazarettoref13_has_ok hr_11) ?_
  refine bi hf4 fun r_12 hf4 hr_12 => ?_
  refine tr ?_
  intros
  refine cS (lazarettoref13_both_ok hr_12) ?_
  refine fi hf4 F ?_ ?_ <;> intro hf4 _ F
  exact (by omega : False).elim
  refine bi hf4 fun r_13 hf4 hr_13 => ?_
  refine tr ?_
  intros
  refine cS (lazarettoref13_sites_ok hr_13) ?_
  refine bi hf4 fun r_14 hf4 hr_14 => ?_
  refine tr ?_
  intros
  refine cS (lazarettoref13_stmts_r_ok _ _ _ _ _ hr_14) ?_
  refine bi hf4 fun r_15 hf4 hr_15 => ?_
  refine tr ?_
  intros
  refine cS (lazarettoref13_stmts_r_ok _ _ _ _ _ hr_15) ?_
  cases hf4
  refine tt ?_
  refine wn i_2 F fun F => ?_
  exact bk ih4 ho4 ()
  refine fi hf4 F ?_ ?_ <;> intro hf4 _ F
  refine bi hf4 fun r_16 hf4 hr_16 => ?_
  refine tr ?_
  intros
  refine cS (lazarettoref13_has_ok hr_16) ?_
  refine bi hf4 fun r_17 hf4 hr_17 => ?_
  refine tr ?_
  intros
  refine cS (lazarettoref13_both_ok hr_17) ?_
  refine bi hf4 fun r_18 hf4 hr_18 => ?_
  refine tr ?_
  intros
  refine cS (lazarettoref13_sites_ok hr_18) ?_
  refine bi hf4 fun r_19 hf4 hr_19 => ?_
  refine tr ?_
  intros
  refine cS (lazarettoref13_stmts_r_ok _ _ _ _ _ hr_19) ?_
  refine bi hf4 fun r_20 hf4 hr_20 => ?_
  refine tr ?_
  intros
  refine cS (lazarettoref13_stmts_r_ok _ _ _ _ _ hr_20) ?_
  cases hf4
  refine tt ?_
  refine wn i_2 F fun F => ?_
  exact bk ih4 ho4 ()
  refine fi hf4 F ?_ ?_ <;> intro hf4 _ F
  refine bi hf4 fun r_21 hf4 hr_21 => ?_
  refine tr ?_
  intros
  refine cS (lazarettoref10_Var_ok hr_21) ?_
  refine bi hf4 fun r_22 hf4 hr_22 => ?_
  refine tr ?_
  intros
  refine cS (lazarettoref13_terms_ok hr_22) ?_
  refine bi hf4 fun r_23 hf4 hr_23 => ?_
  refine tr ?_
  intros
  refine cS (lazarettoref13_both_ok hr_23) ?_
  refine bi hf4 fun r_24 hf4 hr_24 => ?_
  refine tr ?_
  intros
  refine cS (lazarettoref13_each_ok hr_24) ?_
  refine bi hf4 fun r_25 hf4 hr_25 => ?_
  refine tr ?_
  intros
  refine cD (lazarettoref13_both_ok hr_25) ?_
  refine bi hf4 fun r_26 hf4 hr_26 => ?_
  refine tr ?_
  intros
  refine cD (lazarettoref13_stmts_r_ok _ _ _ _ _ hr_26) ?_
  cases hf4
  refine tr ?_
  intros
  refine wn i_2 F fun F => ?_
  exact bk ih4 ho4 ()
  refine tt ?_
  refine fi hf4 F ?_ ?_ <;> intro hf4 _ F
  refine bi hf4 fun r_27 hf4 hr_27 => ?_
  refine tr ?_
  intros
  refine cS (lazarettoref13_terms_ok hr_27) ?_
  refine bi hf4 fun r_28 hf4 hr_28 => ?_
  refine tr ?_
  intros
  refine cD (lazarettoref13_both_ok hr_28) ?_
  refine bi hf4 fun r_29 hf4 hr_29 => ?_
  refine tr ?_
  intros
  refine cD (lazarettoref10_Block_ok hr_29) ?_
  refine bi hf4 fun r_30 hf4 hr_30 => ?_
  refine tr ?_
  intros
  refine cD (lazarettoref13_each_ok hr_30) ?_
  cases hf4
  refine tr ?_
  intros
  refine wn i_2 F fun F => ?_
  exact bk ih4 ho4 ()
  cases hf4
  refine tt ?_
  refine wn i_2 F fun F => ?_
  exact bk ih4 ho4 ()
  cases hf4
  refine tt ?_
  exact xt ho4 af4 ()
theorem lazarettoref13_stmts_g_ok (n : Nat) : (∀ (x0 : api_Program) (x1 : List (A2 Int)) (x2 : List api_Stmt) (x3 : List Int) (r : List (A2 Int)), (lazarettoref13_stmts_g n) x0 x1 x2 x3 = some r → Pu Tryz.prog 154 [.agg (e_api_Program x0), .one (.sl (x1.map (eA2 eI))), .one (.sl (x2.map e_api_Stmt)), .one (.sl (x3.map eI))] (.one (.sl (r.map (eA2 eI))))) := by
  induction n with
  | zero => exact fun _ _ _ _ r h => (by cases h)
  | succ n ih =>
    have ih0 := ih
    exact fun _ _ _ _ r h => lazarettoref13_stmts_b_ok ih0 h
theorem lazarettoref13_stmts_ok {p : api_Program} {l : List (A2 Int)} {s : List api_Stmt} {around : List Int} {r : List (A2 Int)} (h : lazarettoref13_stmts p l s around = some r) : Pu Tryz.prog 154 [.agg (e_api_Program p), .one (.sl (l.map (eA2 eI))), .one (.sl (s.map e_api_Stmt)), .one (.sl (around.map eI))] (.one (.sl (r.map (eA2 eI)))) := (lazarettoref13_stmts_g_ok 1000000) _ _ _ _ _ h
theorem lazarettoref13_Rules_ok {p : api_Program} {r : List (A2 Int)} (h : lazarettoref13_Rules p = some r) :
    Pu Tryz.prog 118 [.agg (e_api_Program p)] (.one (.sl (r.map (eA2 eI)))) := by
  have F := trivial; have R := trivial
  refine pA Tryz.func118 ?_
  simp only [Tryz.f118]
  unfold lazarettoref13_Rules at h
  refine bi h fun e_3 h he_3 => ?_
  refine tt ?_
  refine plain_L 3 _ (by simp [go_sem]; rfl) ?_
  refine lX he_3 (fun | (l_1, i_2), _ => ⟨[(1, .one (.ref 0 0 0 0)), (3, .one (.sl (l_1.map (eA2 eI)))), (4, .one (.int .i64 (i_2 : Int)))], [.cells 0 6 [[.sl (p.Lattice.Names.map eS), .sl (p.Lattice.Below.map (eA2 eI)), .sl (p.Sites.map e_api_Site), .sl (p.Vars.map e_api_Var), .sl (p.Blocks.map e_api_Block), .sl (p.Tasks.map e_api_Task)]]]⟩) (fun | e_3, _ => ⟨[(3, .one (.sl (e_3.map (eA2 eI))))], [.cells 0 6 [[.sl (p.Lattice.Names.map eS), .sl (p.Lattice.Below.map (eA2 eI)), .sl (p.Sites.map e_api_Site), .sl (p.Vars.map e_api_Var), .sl (p.Blocks.map e_api_Block), .sl (p.Tasks.map e_api_Task)]]]⟩) (fun _ => some 0) ?_ ?_
  intro i4 b4 hi4
  obtain rfl := Option.some.inj hi4
  obtain ⟨⟩ := b4
  dsimp only at h ⊢
  cases h; exact fin
  intro af4 m4 s4 a4 o4 hf4 ho4 ih4
  obtain ⟨l_1, i_2⟩ := s4
  obtain ⟨⟩ := a4
  dsimp only [lazarettoref13_Rules_L1] at hf4 ⊢
  refine tr ?_
  intros
  refine fl hf4 F ?_ ?_ <;> intro hf4 _ F
  refine bx hf4 F fun x_5 hf4 hx_5 F => ?_
  refine bi hf4 fun r_6 hf4 hr_6 => ?_
  refine tr ?_
  intros
  refine cD (lazarettoref13_stmts_ok hr_6) ?_
  cases hf4
  refine tr ?_
  intros
  refine wn i_2 F fun F => ?_
  exact bk ih4 ho4 ()
  cases hf4
  refine tt ?_
  exact xt ho4 af4 ()
theorem lazarettoref13_Infer_ok {p : api_Program} {r : (List Int) × Int} (h : lazarettoref13_Infer p = some r) :
    Pu Tryz.prog 81 [.agg (e_api_Program p)] (.tup [.one (.sl (r.1.map eI)), .one (.int .i64 r.2)]) := by
  have F := trivial; have R := trivial
  refine pA Tryz.func81 ?_
  simp only [Tryz.f81]
  unfold lazarettoref13_Infer at h
  refine bi h fun r_1 h hr_1 => ?_
  refine tr ?_
  intros
  refine cD (lazarettoref13_told_ok hr_1) ?_
  refine bi h fun r_2 h hr_2 => ?_
  refine tr ?_
  intros
  refine cD (lazarettoref13_all_ok hr_2) ?_
  refine bi h fun r_3 h hr_3 => ?_
  refine tr ?_
  intros
  refine cD (lazarettoref13_Rules_ok hr_3) ?_
  refine bi h fun r_4 h hr_4 => ?_
  refine tr ?_
  intros
  refine cD (lazarettoref02_Least_ok hr_4) ?_
  refine tr ?_
  intros
  refine fv h F ?_ ?_ <;> intro h _ F
  refine nd h F fun h F => ?_
  cases h; exact fin
  cases h; exact fin
theorem lazarettoref14_Check_ok {p : api_Program} {r : api_Program × Int} (h : lazarettoref14_Check p = some r) :
    Pu Tryz.prog 38 [.agg (e_api_Program p)] (.tup [.agg (e_api_Program r.1), .one (.int .i64 r.2)]) := by
  have F := trivial; have R := trivial
  refine pA Tryz.func38 ?_
  simp only [Tryz.f38]
  unfold lazarettoref14_Check at h
  refine bi h fun r_1 h hr_1 => ?_
  refine tr ?_
  intros
  refine cS (lazarettoref14_caps_ok hr_1) ?_
  refine fv h F ?_ ?_ <;> intro h _ F
  refine bi h fun r_2 h hr_2 => ?_
  refine tr ?_
  intros
  refine cS (lazarettoref01_Check_ok hr_2) ?_
  refine fi h F ?_ ?_ <;> intro h _ F
  refine bi h fun r_3 h hr_3 => ?_
  refine tr ?_
  intros
  refine cS (lazarettoref10_Check_ok hr_3) ?_
  refine fi h F ?_ ?_ <;> intro h _ F
  refine bi h fun r_4 h hr_4 => ?_
  refine tr ?_
  intros
  refine cS (lazarettoref12_Check_ok hr_4) ?_
  refine fi h F ?_ ?_ <;> intro h _ F
  refine bi h fun r_5 h hr_5 => ?_
  refine tr ?_
  intros
  refine cS (lazarettoref13_Infer_ok hr_5) ?_
  refine tt ?_
  refine fi h F ?_ ?_ <;> intro h _ F
  refine tr ?_
  intros
  refine fv h F ?_ ?_ <;> intro h _ F
  refine tr ?_
  intros
  refine fv h F ?_ ?_ <;> intro h _ F
  refine bi h fun e_7 h he_7 => ?_
  refine tr ?_
  intros
  refine lX he_7 (fun | i_6, _ => ⟨[(2, .one (.ref 1 0 0 0)), (7, .one (.sl (r_5.1.map eI))), (9, .one (.ref 2 0 0 0)), (10, .one (.int .i64 i_6))], [.cells 0 6 [[.sl (p.Lattice.Names.map eS), .sl (p.Lattice.Below.map (eA2 eI)), .sl (p.Sites.map e_api_Site), .sl (p.Vars.map e_api_Var), .sl (p.Blocks.map e_api_Block), .sl (p.Tasks.map e_api_Task)]], .cells 0 6 [[.slf [], .slf [], .slf [], .slf [], .slf [], .slf []]], .cells 0 6 [[.sl (p.Lattice.Names.map eS), .sl (p.Lattice.Below.map (eA2 eI)), .sl (p.Sites.map e_api_Site), .slf [], .slf [], .sl (p.Tasks.map e_api_Task)]]]⟩) (fun | _, _ => ⟨[(2, .one (.ref 1 0 0 0)), (7, .one (.sl (r_5.1.map eI))), (9, .one (.ref 2 0 0 0))], [.cells 0 6 [[.sl (p.Lattice.Names.map eS), .sl (p.Lattice.Below.map (eA2 eI)), .sl (p.Sites.map e_api_Site), .sl (p.Vars.map e_api_Var), .sl (p.Blocks.map e_api_Block), .sl (p.Tasks.map e_api_Task)]], .cells 0 6 [[.slf [], .slf [], .slf [], .slf [], .slf [], .slf []]], .cells 0 6 [[.sl (p.Lattice.Names.map eS), .sl (p.Lattice.Below.map (eA2 eI)), .sl (p.Sites.map e_api_Site), .slf [], .slf [], .sl (p.Tasks.map e_api_Task)]]]⟩) (fun _ => some 0) ?_ ?_
  intro i8 b8 hi8
  obtain rfl := Option.some.inj hi8
  obtain ⟨⟩ := e_7
  obtain ⟨⟩ := b8
  dsimp only at h ⊢
  refine bi h fun e_11 h he_11 => ?_
  refine tt ?_
  refine lX he_11 (fun | i_10, _ => ⟨[(2, .one (.ref 1 0 0 0)), (7, .one (.sl (r_5.1.map eI))), (9, .one (.ref 2 0 0 0)), (11, .one (.int .i64 i_10))], [.cells 0 6 [[.sl (p.Lattice.Names.map eS), .sl (p.Lattice.Below.map (eA2 eI)), .sl (p.Sites.map e_api_Site), .sl (p.Vars.map e_api_Var), .sl (p.Blocks.map e_api_Block), .sl (p.Tasks.map e_api_Task)]], .cells 0 6 [[.slf [], .slf [], .slf [], .slf [], .slf [], .slf []]], .cells 0 6 [[.sl (p.Lattice.Names.map eS), .sl (p.Lattice.Below.map (eA2 eI)), .sl (p.Sites.map e_api_Site), .slf [], .slf [], .sl (p.Tasks.map e_api_Task)]]]⟩) (fun | _, _ => ⟨[(2, .one (.ref 1 0 0 0)), (9, .one (.ref 2 0 0 0))], [.cells 0 6 [[.sl (p.Lattice.Names.map eS), .sl (p.Lattice.Below.map (eA2 eI)), .sl (p.Sites.map e_api_Site), .sl (p.Vars.map e_api_Var), .sl (p.Blocks.map e_api_Block), .sl (p.Tasks.map e_api_Task)]], .cells 0 6 [[.slf [], .slf [], .slf [], .slf [], .slf [], .slf []]], .cells 0 6 [[.sl (p.Lattice.Names.map eS), .sl (p.Lattice.Below.map (eA2 eI)), .sl (p.Sites.map e_api_Site), .slf [], .slf [], .sl (p.Tasks.map e_api_Task)]]]⟩) (fun _ => some 2) ?_ ?_
  intro i12 b12 hi12
  obtain rfl := Option.some.inj hi12
  obtain ⟨⟩ := e_11
  obtain ⟨⟩ := b12
  dsimp only at h ⊢
  refine bi h fun r_14 h hr_14 => ?_
  refine tr ?_
  intros
  refine cS (lazarettoref08_Check_ok hr_14) ?_
  refine fv h F ?_ ?_ <;> intro h _ F
  cases h; exact fin
  cases h; exact fin
  intro af12 m12 i_10 a12 o12 hf12 ho12 ih12
  obtain ⟨⟩ := a12
  dsimp only [lazarettoref14_Check_L2] at hf12 ⊢
  refine tr ?_
  intros
  refine fi hf12 F ?_ ?_ <;> intro hf12 _ F
  refine by_ hf12 F fun x_13 hf12 hx_13 F => ?_
  cases hf12
  cases hf12
  refine tt ?_
  exact xt ho12 af12 ()
  intro af8 m8 i_6 a8 o8 hf8 ho8 ih8
  obtain ⟨⟩ := a8
  dsimp only [lazarettoref14_Check_L1] at hf8 ⊢
  refine tr ?_
  intros
  refine fi hf8 F ?_ ?_ <;> intro hf8 _ F
  refine by_ hf8 F fun x_9 hf8 hx_9 F => ?_
  cases hf8
  cases hf8
  refine tt ?_
  exact xt ho8 af8 ()
  refine nd h F fun h F => ?_
  refine bi h fun e_17 h he_17 => ?_
  refine tr ?_
  intros
  refine lX he_17 (fun | i_16, _ => ⟨[(2, .one (.ref 1 0 0 0)), (7, .one (.sl (r_5.1.map eI))), (9, .one (.ref 2 0 0 0)), (10, .one (.int .i64 i_16))], [.cells 0 6 [[.sl (p.Lattice.Names.map eS), .sl (p.Lattice.Below.map (eA2 eI)), .sl (p.Sites.map e_api_Site), .sl (p.Vars.map e_api_Var), .sl (p.Blocks.map e_api_Block), .sl (p.Tasks.map e_api_Task)]], .cells 0 6 [[.slf [], .slf [], .slf [], .slf [], .slf [], .slf []]], .cells 0 6 [[.sl (p.Lattice.Names.map eS), .sl (p.Lattice.Below.map (eA2 eI)), .sl (p.Sites.map e_api_Site), .slf [], .msl 3 0 0 p.Blocks.length, .sl (p.Tasks.map e_api_Task)]], .cells 0 3 (p.Blocks.map e_api_Block)]⟩) (fun | _, _ => ⟨[(2, .one (.ref 1 0 0 0)), (7, .one (.sl (r_5.1.map eI))), (9, .one (.ref 2 0 0 0))], [.cells 0 6 [[.sl (p.Lattice.Names.map eS), .sl (p.Lattice.Below.map (eA2 eI)), .sl (p.Sites.map e_api_Site), .sl (p.Vars.map e_api_Var), .sl (p.Blocks.map e_api_Block), .sl (p.Tasks.map e_api_Task)]], .cells 0 6 [[.slf [], .slf [], .slf [], .slf [], .slf [], .slf []]], .cells 0 6 [[.sl (p.Lattice.Names.map eS), .sl (p.Lattice.Below.map (eA2 eI)), .sl (p.Sites.map e_api_Site), .slf [], .msl 3 0 0 p.Blocks.length, .sl (p.Tasks.map e_api_Task)]], .cells 0 3 (p.Blocks.map e_api_Block)]⟩) (fun _ => some 0) ?_ ?_
  intro i18 b18 hi18
  obtain rfl := Option.some.inj hi18
  obtain ⟨⟩ := e_17
  obtain ⟨⟩ := b18
  dsimp only at h ⊢
  refine bi h fun e_22 h he_22 => ?_
  refine tt ?_
  refine lX he_22 (fun | (xs_20, i_21), _ => ⟨[(2, .one (.ref 1 0 0 0)), (7, .one (.sl (r_5.1.map eI))), (9, .one (.ref 2 0 0 0)), (11, .one (.int .i64 (i_21 : Int)))], [.cells 0 6 [[.sl (p.Lattice.Names.map eS), .sl (p.Lattice.Below.map (eA2 eI)), .sl (p.Sites.map e_api_Site), .sl (p.Vars.map e_api_Var), .sl (p.Blocks.map e_api_Block), .sl (p.Tasks.map e_api_Task)]], .cells 0 6 [[.slf [], .slf [], .slf [], .slf [], .slf [], .slf []]], .cells 0 6 [[.sl (p.Lattice.Names.map eS), .sl (p.Lattice.Below.map (eA2 eI)), .sl (p.Sites.map e_api_Site), .slf [], .msl 3 0 0 xs_20.length, .sl (p.Tasks.map e_api_Task)]], .cells 0 3 (xs_20.map e_api_Block)]⟩) (fun | e_22, _ => ⟨[(2, .one (.ref 1 0 0 0)), (9, .one (.ref 2 0 0 0))], [.cells 0 6 [[.sl (p.Lattice.Names.map eS), .sl (p.Lattice.Below.map (eA2 eI)), .sl (p.Sites.map e_api_Site), .sl (p.Vars.map e_api_Var), .sl (p.Blocks.map e_api_Block), .sl (p.Tasks.map e_api_Task)]], .cells 0 6 [[.slf [], .slf [], .slf [], .slf [], .slf [], .slf []]], .cells 0 6 [[.sl (p.Lattice.Names.map eS), .sl (p.Lattice.Below.map (eA2 eI)), .sl (p.Sites.map e_api_Site), .slf [], .msl 3 0 0 e_22.length, .sl (p.Tasks.map e_api_Task)]], .cells 0 3 (e_22.map e_api_Block)]⟩) (fun _ => some 2) ?_ ?_
  intro i23 b23 hi23
  obtain rfl := Option.some.inj hi23
  obtain ⟨⟩ := b23
  dsimp only at h ⊢
  refine bi h fun r_27 h hr_27 => ?_
  refine tr ?_
  intros
  refine cS (lazarettoref08_Check_ok hr_27) ?_
  refine fv h F ?_ ?_ <;> intro h _ F
  cases h; exact fin
  cases h; exact fin
  intro af23 m23 s23 a23 o23 hf23 ho23 ih23
  obtain ⟨xs_20, i_21⟩ := s23
  obtain ⟨⟩ := a23
  dsimp only [lazarettoref14_Check_L4] at hf23 ⊢
  refine tr ?_
  intros
  refine fl hf23 F ?_ ?_ <;> intro hf23 _ F
  refine by_ hf23 F fun x_24 hf23 hx_24 F => ?_
  refine bx hf23 F fun x_25 hf23 hx_25 F => ?_
  have R := And.intro (show (List.map e_api_Block xs_20).set i_21 [.str x_25.Name, .str x_25.Kind, .int .i64 x_24] = List.map e_api_Block (xs_20.set i_21 (⟨x_25.Name, x_25.Kind, x_24⟩ : api_Block)) by simp [go_sem, List.map_set]) R
  cases hf23
  refine tr ?_
  intros
  refine wn i_21 F fun F => ?_
  exact bk ih23 ho23 ()
  cases hf23
  refine tt ?_
  exact xt ho23 af23 ()
  intro af18 m18 i_16 a18 o18 hf18 ho18 ih18
  obtain ⟨⟩ := a18
  dsimp only [lazarettoref14_Check_L3] at hf18 ⊢
  refine tr ?_
  intros
  refine fi hf18 F ?_ ?_ <;> intro hf18 _ F
  refine by_ hf18 F fun x_19 hf18 hx_19 F => ?_
  cases hf18
  cases hf18
  refine tt ?_
  exact xt ho18 af18 ()
  refine nd h F fun h F => ?_
  refine tr ?_
  intros
  refine fv h F ?_ ?_ <;> intro h _ F
  refine bi h fun e_31 h he_31 => ?_
  refine tr ?_
  intros
  refine lX he_31 (fun | (xs_29, i_30), _ => ⟨[(2, .one (.ref 1 0 0 0)), (7, .one (.sl (r_5.1.map eI))), (9, .one (.ref 2 0 0 0)), (10, .one (.int .i64 (i_30 : Int)))], [.cells 0 6 [[.sl (p.Lattice.Names.map eS), .sl (p.Lattice.Below.map (eA2 eI)), .sl (p.Sites.map e_api_Site), .sl (p.Vars.map e_api_Var), .sl (p.Blocks.map e_api_Block), .sl (p.Tasks.map e_api_Task)]], .cells 0 6 [[.slf [], .slf [], .slf [], .slf [], .slf [], .slf []]], .cells 0 6 [[.sl (p.Lattice.Names.map eS), .sl (p.Lattice.Below.map (eA2 eI)), .sl (p.Sites.map e_api_Site), .msl 3 0 0 xs_29.length, .slf [], .sl (p.Tasks.map e_api_Task)]], .cells 0 7 (xs_29.map e_api_Var)]⟩) (fun | e_31, _ => ⟨[(2, .one (.ref 1 0 0 0)), (7, .one (.sl (r_5.1.map eI))), (9, .one (.ref 2 0 0 0))], [.cells 0 6 [[.sl (p.Lattice.Names.map eS), .sl (p.Lattice.Below.map (eA2 eI)), .sl (p.Sites.map e_api_Site), .sl (p.Vars.map e_api_Var), .sl (p.Blocks.map e_api_Block), .sl (p.Tasks.map e_api_Task)]], .cells 0 6 [[.slf [], .slf [], .slf [], .slf [], .slf [], .slf []]], .cells 0 6 [[.sl (p.Lattice.Names.map eS), .sl (p.Lattice.Below.map (eA2 eI)), .sl (p.Sites.map e_api_Site), .msl 3 0 0 e_31.length, .slf [], .sl (p.Tasks.map e_api_Task)]], .cells 0 7 (e_31.map e_api_Var)]⟩) (fun _ => some 0) ?_ ?_
  intro i32 b32 hi32
  obtain rfl := Option.some.inj hi32
  obtain ⟨⟩ := b32
  dsimp only at h ⊢
  refine bi h fun e_37 h he_37 => ?_
  refine tt ?_
  refine lX he_37 (fun | i_36, _ => ⟨[(2, .one (.ref 1 0 0 0)), (7, .one (.sl (r_5.1.map eI))), (9, .one (.ref 2 0 0 0)), (11, .one (.int .i64 i_36))], [.cells 0 6 [[.sl (p.Lattice.Names.map eS), .sl (p.Lattice.Below.map (eA2 eI)), .sl (p.Sites.map e_api_Site), .sl (p.Vars.map e_api_Var), .sl (p.Blocks.map e_api_Block), .sl (p.Tasks.map e_api_Task)]], .cells 0 6 [[.slf [], .slf [], .slf [], .slf [], .slf [], .slf []]], .cells 0 6 [[.sl (p.Lattice.Names.map eS), .sl (p.Lattice.Below.map (eA2 eI)), .sl (p.Sites.map e_api_Site), .msl 3 0 0 e_31.length, .slf [], .sl (p.Tasks.map e_api_Task)]], .cells 0 7 (e_31.map e_api_Var)]⟩) (fun | _, _ => ⟨[(2, .one (.ref 1 0 0 0)), (9, .one (.ref 2 0 0 0))], [.cells 0 6 [[.sl (p.Lattice.Names.map eS), .sl (p.Lattice.Below.map (eA2 eI)), .sl (p.Sites.map e_api_Site), .sl (p.Vars.map e_api_Var), .sl (p.Blocks.map e_api_Block), .sl (p.Tasks.map e_api_Task)]], .cells 0 6 [[.slf [], .slf [], .slf [], .slf [], .slf [], .slf []]], .cells 0 6 [[.sl (p.Lattice.Names.map eS), .sl (p.Lattice.Below.map (eA2 eI)), .sl (p.Sites.map e_api_Site), .msl 3 0 0 e_31.length, .slf [], .sl (p.Tasks.map e_api_Task)]], .cells 0 7 (e_31.map e_api_Var)]⟩) (fun _ => some 2) ?_ ?_
  intro i38 b38 hi38
  obtain rfl := Option.some.inj hi38
  obtain ⟨⟩ := e_37
  obtain ⟨⟩ := b38
  dsimp only at h ⊢
  refine bi h fun r_40 h hr_40 => ?_
  refine tr ?_
  intros
  refine cS (lazarettoref08_Check_ok hr_40) ?_
  refine fv h F ?_ ?_ <;> intro h _ F
  cases h; exact fin
  cases h; exact fin
  intro af38 m38 i_36 a38 o38 hf38 ho38 ih38
  obtain ⟨⟩ := a38
  dsimp only [lazarettoref14_Check_L6] at hf38 ⊢
  refine tr ?_
  intros
  refine fi hf38 F ?_ ?_ <;> intro hf38 _ F
  refine by_ hf38 F fun x_39 hf38 hx_39 F => ?_
  cases hf38
  cases hf38
  refine tt ?_
  exact xt ho38 af38 ()
  intro af32 m32 s32 a32 o32 hf32 ho32 ih32
  obtain ⟨xs_29, i_30⟩ := s32
  obtain ⟨⟩ := a32
  dsimp only [lazarettoref14_Check_L5] at hf32 ⊢
  refine tr ?_
  intros
  refine fl hf32 F ?_ ?_ <;> intro hf32 _ F
  refine bx hf32 F fun x_33 hf32 hx_33 F => ?_
  refine bx hf32 F fun x_34 hf32 hx_34 F => ?_
  have R := And.intro (show (List.map e_api_Var xs_29).set i_30 [.str x_34.Name, .int .i64 x_34.Type_.Kind, .int .i64 x_34.Type_.Low, .int .i64 x_34.Type_.Len, .int .i64 x_34.Mode, .int .i64 x_33, .int .i64 x_34.Safe] = List.map e_api_Var (xs_29.set i_30 (⟨x_34.Name, x_34.Type_, x_34.Mode, x_33, x_34.Safe⟩ : api_Var)) by simp [go_sem, List.map_set]) R
  cases hf32
  refine tr ?_
  intros
  refine wn i_30 F fun F => ?_
  exact bk ih32 ho32 ()
  cases hf32
  refine tt ?_
  exact xt ho32 af32 ()
  refine nd h F fun h F => ?_
  refine bi h fun e_44 h he_44 => ?_
  refine tr ?_
  intros
  refine lX he_44 (fun | (xs_42, i_43), _ => ⟨[(2, .one (.ref 1 0 0 0)), (7, .one (.sl (r_5.1.map eI))), (9, .one (.ref 2 0 0 0)), (10, .one (.int .i64 (i_43 : Int)))], [.cells 0 6 [[.sl (p.Lattice.Names.map eS), .sl (p.Lattice.Below.map (eA2 eI)), .sl (p.Sites.map e_api_Site), .sl (p.Vars.map e_api_Var), .sl (p.Blocks.map e_api_Block), .sl (p.Tasks.map e_api_Task)]], .cells 0 6 [[.slf [], .slf [], .slf [], .slf [], .slf [], .slf []]], .cells 0 6 [[.sl (p.Lattice.Names.map eS), .sl (p.Lattice.Below.map (eA2 eI)), .sl (p.Sites.map e_api_Site), .msl 3 0 0 xs_42.length, .msl 4 0 0 p.Blocks.length, .sl (p.Tasks.map e_api_Task)]], .cells 0 7 (xs_42.map e_api_Var), .cells 0 3 (p.Blocks.map e_api_Block)]⟩) (fun | e_44, _ => ⟨[(2, .one (.ref 1 0 0 0)), (7, .one (.sl (r_5.1.map eI))), (9, .one (.ref 2 0 0 0))], [.cells 0 6 [[.sl (p.Lattice.Names.map eS), .sl (p.Lattice.Below.map (eA2 eI)), .sl (p.Sites.map e_api_Site), .sl (p.Vars.map e_api_Var), .sl (p.Blocks.map e_api_Block), .sl (p.Tasks.map e_api_Task)]], .cells 0 6 [[.slf [], .slf [], .slf [], .slf [], .slf [], .slf []]], .cells 0 6 [[.sl (p.Lattice.Names.map eS), .sl (p.Lattice.Below.map (eA2 eI)), .sl (p.Sites.map e_api_Site), .msl 3 0 0 e_44.length, .msl 4 0 0 p.Blocks.length, .sl (p.Tasks.map e_api_Task)]], .cells 0 7 (e_44.map e_api_Var), .cells 0 3 (p.Blocks.map e_api_Block)]⟩) (fun _ => some 0) ?_ ?_
  intro i45 b45 hi45
  obtain rfl := Option.some.inj hi45
  obtain ⟨⟩ := b45
  dsimp only at h ⊢
  refine bi h fun e_51 h he_51 => ?_
  refine tt ?_
  refine lX he_51 (fun | (xs_49, i_50), _ => ⟨[(2, .one (.ref 1 0 0 0)), (7, .one (.sl (r_5.1.map eI))), (9, .one (.ref 2 0 0 0)), (11, .one (.int .i64 (i_50 : Int)))], [.cells 0 6 [[.sl (p.Lattice.Names.map eS), .sl (p.Lattice.Below.map (eA2 eI)), .sl (p.Sites.map e_api_Site), .sl (p.Vars.map e_api_Var), .sl (p.Blocks.map e_api_Block), .sl (p.Tasks.map e_api_Task)]], .cells 0 6 [[.slf [], .slf [], .slf [], .slf [], .slf [], .slf []]], .cells 0 6 [[.sl (p.Lattice.Names.map eS), .sl (p.Lattice.Below.map (eA2 eI)), .sl (p.Sites.map e_api_Site), .msl 3 0 0 e_44.length, .msl 4 0 0 xs_49.length, .sl (p.Tasks.map e_api_Task)]], .cells 0 7 (e_44.map e_api_Var), .cells 0 3 (xs_49.map e_api_Block)]⟩) (fun | e_51, _ => ⟨[(2, .one (.ref 1 0 0 0)), (9, .one (.ref 2 0 0 0))], [.cells 0 6 [[.sl (p.Lattice.Names.map eS), .sl (p.Lattice.Below.map (eA2 eI)), .sl (p.Sites.map e_api_Site), .sl (p.Vars.map e_api_Var), .sl (p.Blocks.map e_api_Block), .sl (p.Tasks.map e_api_Task)]], .cells 0 6 [[.slf [], .slf [], .slf [], .slf [], .slf [], .slf []]], .cells 0 6 [[.sl (p.Lattice.Names.map eS), .sl (p.Lattice.Below.map (eA2 eI)), .sl (p.Sites.map e_api_Site), .msl 3 0 0 e_44.length, .msl 4 0 0 e_51.length, .sl (p.Tasks.map e_api_Task)]], .cells 0 7 (e_44.map e_api_Var), .cells 0 3 (e_51.map e_api_Block)]⟩) (fun _ => some 2) ?_ ?_
  intro i52 b52 hi52
  obtain rfl := Option.some.inj hi52
  obtain ⟨⟩ := b52
  dsimp only at h ⊢
  refine bi h fun r_56 h hr_56 => ?_
  refine tr ?_
  intros
  refine cS (lazarettoref08_Check_ok hr_56) ?_
  refine fv h F ?_ ?_ <;> intro h _ F
  cases h; exact fin
  cases h; exact fin
  intro af52 m52 s52 a52 o52 hf52 ho52 ih52
  obtain ⟨xs_49, i_50⟩ := s52
  obtain ⟨⟩ := a52
  dsimp only [lazarettoref14_Check_L8] at hf52 ⊢
  refine tr ?_
  intros
  refine fl hf52 F ?_ ?_ <;> intro hf52 _ F
  refine by_ hf52 F fun x_53 hf52 hx_53 F => ?_
  refine bx hf52 F fun x_54 hf52 hx_54 F => ?_
  have R := And.intro (show (List.map e_api_Block xs_49).set i_50 [.str x_54.Name, .str x_54.Kind, .int .i64 x_53] = List.map e_api_Block (xs_49.set i_50 (⟨x_54.Name, x_54.Kind, x_53⟩ : api_Block)) by simp [go_sem, List.map_set]) R
  cases hf52
  refine tr ?_
  intros
  refine wn i_50 F fun F => ?_
  exact bk ih52 ho52 ()
  cases hf52
  refine tt ?_
  exact xt ho52 af52 ()
  intro af45 m45 s45 a45 o45 hf45 ho45 ih45
  obtain ⟨xs_42, i_43⟩ := s45
  obtain ⟨⟩ := a45
  dsimp only [lazarettoref14_Check_L7] at hf45 ⊢
  refine tr ?_
  intros
  refine fl hf45 F ?_ ?_ <;> intro hf45 _ F
  refine bx hf45 F fun x_46 hf45 hx_46 F => ?_
  refine bx hf45 F fun x_47 hf45 hx_47 F => ?_
  have R := And.intro (show (List.map e_api_Var xs_42).set i_43 [.str x_47.Name, .int .i64 x_47.Type_.Kind, .int .i64 x_47.Type_.Low, .int .i64 x_47.Type_.Len, .int .i64 x_47.Mode, .int .i64 x_46, .int .i64 x_47.Safe] = List.map e_api_Var (xs_42.set i_43 (⟨x_47.Name, x_47.Type_, x_47.Mode, x_46, x_47.Safe⟩ : api_Var)) by simp [go_sem, List.map_set]) R
  cases hf45
  refine tr ?_
  intros
  refine wn i_43 F fun F => ?_
  exact bk ih45 ho45 ()
  cases hf45
  refine tt ?_
  exact xt ho45 af45 ()
  cases h; exact fin
  cases h; exact fin
  cases h; exact fin
  cases h; exact fin
  cases h; exact fin
theorem lazarettoref01_Same_ok {a : api_Lattice} {b : api_Lattice} {r : Bool} (h : lazarettoref01_Same a b = some r) :
    Pu Tryz.prog 83 [.agg (e_api_Lattice a), .agg (e_api_Lattice b)] (.one (.bool r)) := by
  have F := trivial; have R := trivial
  refine pA Tryz.func83 ?_
  simp only [Tryz.f83]
  unfold lazarettoref01_Same at h
  refine tr ?_
  intros
  refine fi h F ?_ ?_ <;> intro h _ F
  refine tr ?_
  intros
  refine fi h F ?_ ?_ <;> intro h _ F
  refine bi h fun e_2 h he_2 => ?_
  refine tt ?_
  refine lX he_2 (fun | i_1, _ => ⟨[(2, .one (.ref 0 0 0 0)), (3, .one (.ref 1 0 0 0)), (5, .one (.int .i64 (i_1 : Int)))], [.cells 0 2 [[.sl (a.Names.map eS), .sl (a.Below.map (eA2 eI))]], .cells 0 2 [[.sl (b.Names.map eS), .sl (b.Below.map (eA2 eI))]]]⟩) (fun | (.inl e_6), _ => ⟨[], []⟩ | (.inr ()), _ => ⟨[(2, .one (.ref 0 0 0 0)), (3, .one (.ref 1 0 0 0))], [.cells 0 2 [[.sl (a.Names.map eS), .sl (a.Below.map (eA2 eI))]], .cells 0 2 [[.sl (b.Names.map eS), .sl (b.Below.map (eA2 eI))]]]⟩) (fun | (.inl _) => none | (.inr _) => some 0) ?_ ?_
  intro i3 b3 hi3
  rcases e_2 with e_case | ⟨⟩
  cases hi3
  obtain rfl := Option.some.inj hi3
  obtain ⟨⟩ := b3
  dsimp only at h ⊢
  refine bi h fun e_8 h he_8 => ?_
  refine tt ?_
  refine lX he_8 (fun | i_7, _ => ⟨[(2, .one (.ref 0 0 0 0)), (3, .one (.ref 1 0 0 0)), (6, .one (.int .i64 (i_7 : Int)))], [.cells 0 2 [[.sl (a.Names.map eS), .sl (a.Below.map (eA2 eI))]], .cells 0 2 [[.sl (b.Names.map eS), .sl (b.Below.map (eA2 eI))]]]⟩) (fun | (.inl e_12), _ => ⟨[], []⟩ | (.inr ()), _ => ⟨[], [.cells 0 2 [[.sl (a.Names.map eS), .sl (a.Below.map (eA2 eI))]], .cells 0 2 [[.sl (b.Names.map eS), .sl (b.Below.map (eA2 eI))]]]⟩) (fun | (.inl _) => none | (.inr _) => some 2) ?_ ?_
  intro i9 b9 hi9
  rcases e_8 with e_case | ⟨⟩
  cases hi9
  obtain rfl := Option.some.inj hi9
  obtain ⟨⟩ := b9
  dsimp only at h ⊢
  cases h; exact fin
  intro af9 m9 i_7 a9 o9 hf9 ho9 ih9
  obtain ⟨⟩ := a9
  dsimp only [lazarettoref01_Same_L2] at hf9 ⊢
  refine tr ?_
  intros
  refine fl hf9 F ?_ ?_ <;> intro hf9 _ F
  refine bx hf9 F fun x_10 hf9 hx_10 F => ?_
  refine bx hf9 F fun x_11 hf9 hx_11 F => ?_
  refine tr ?_
  intros
  refine fi hf9 F ?_ ?_ <;> intro hf9 _ F
  cases hf9
  refine tt ?_
  refine wn i_7 F fun F => ?_
  exact bk ih9 ho9 ()
  cases hf9
  obtain rfl := sr ho9
  try dsimp only at h
  cases h
  exact fin
  cases hf9
  refine tt ?_
  exact xt ho9 af9 ()
  intro af3 m3 i_1 a3 o3 hf3 ho3 ih3
  obtain ⟨⟩ := a3
  dsimp only [lazarettoref01_Same_L1] at hf3 ⊢
  refine tr ?_
  intros
  refine fl hf3 F ?_ ?_ <;> intro hf3 _ F
  refine bx hf3 F fun x_4 hf3 hx_4 F => ?_
  refine bx hf3 F fun x_5 hf3 hx_5 F => ?_
  refine tr ?_
  intros
  refine fi hf3 F ?_ ?_ <;> intro hf3 _ F
  cases hf3
  refine tt ?_
  refine wn i_1 F fun F => ?_
  exact bk ih3 ho3 ()
  cases hf3
  obtain rfl := sr ho3
  try dsimp only at h
  cases h
  exact fin
  cases hf3
  refine tt ?_
  exact xt ho3 af3 ()
  cases h; exact fin
  cases h; exact fin
theorem lazarettoref04_Ints_ok {a : List Int} {b : List Int} {r : Bool} (h : lazarettoref04_Ints a b = some r) :
    Pu Tryz.prog 20 [.one (.sl (a.map eI)), .one (.sl (b.map eI))] (.one (.bool r)) := by
  have F := trivial; have R := trivial
  refine pA Tryz.func20 ?_
  simp only [Tryz.f20]
  unfold lazarettoref04_Ints at h
  refine tr ?_
  intros
  refine fi h F ?_ ?_ <;> intro h _ F
  refine bi h fun e_2 h he_2 => ?_
  refine tt ?_
  refine lX he_2 (fun | i_1, _ => ⟨[(0, .one (.sl (a.map eI))), (1, .one (.sl (b.map eI))), (5, .one (.int .i64 (i_1 : Int)))], []⟩) (fun | (.inl e_6), _ => ⟨[], []⟩ | (.inr ()), _ => ⟨[], []⟩) (fun | (.inl _) => none | (.inr _) => some 0) ?_ ?_
  intro i3 b3 hi3
  rcases e_2 with e_case | ⟨⟩
  cases hi3
  obtain rfl := Option.some.inj hi3
  obtain ⟨⟩ := b3
  dsimp only at h ⊢
  cases h; exact fin
  intro af3 m3 i_1 a3 o3 hf3 ho3 ih3
  obtain ⟨⟩ := a3
  dsimp only [lazarettoref04_Ints_L1] at hf3 ⊢
  refine tr ?_
  intros
  refine fl hf3 F ?_ ?_ <;> intro hf3 _ F
  refine bx hf3 F fun x_4 hf3 hx_4 F => ?_
  refine bx hf3 F fun x_5 hf3 hx_5 F => ?_
  refine tr ?_
  intros
  refine fi hf3 F ?_ ?_ <;> intro hf3 _ F
  cases hf3
  refine tt ?_
  refine wn i_1 F fun F => ?_
  exact bk ih3 ho3 ()
  cases hf3
  obtain rfl := sr ho3
  try dsimp only at h
  cases h
  exact fin
  cases hf3
  refine tt ?_
  exact xt ho3 af3 ()
  cases h; exact fin
theorem lazarettoref07_Same_b_ok {lazarettoref07_Same_r : (List api_Stmt) → (List api_Stmt) → Option Bool} {a : List api_Stmt} {b : List api_Stmt} {r : Bool}
    (lazarettoref07_Same_r_ok : ∀ (x0 : List api_Stmt) (x1 : List api_Stmt) (r : Bool), lazarettoref07_Same_r x0 x1 = some r → Pu Tryz.prog 122 [.one (.sl (x0.map e_api_Stmt)), .one (.sl (x1.map e_api_Stmt))] (.one (.bool r))) (h : lazarettoref07_Same_b lazarettoref07_Same_r a b = some r) :
    Pu Tryz.prog 122 [.one (.sl (a.map e_api_Stmt)), .one (.sl (b.map e_api_Stmt))] (.one (.bool r)) := by
  have F := trivial; have R := trivial
  refine pA Tryz.func122 ?_
  simp only [Tryz.f122]
  unfold lazarettoref07_Same_b at h
  refine tr ?_
  intros
  refine fi h F ?_ ?_ <;> intro h _ F
  refine bi h fun e_2 h he_2 => ?_
  refine tt ?_
  refine lX he_2 (fun | i_1, _ => ⟨[(0, .one (.sl (a.map e_api_Stmt))), (1, .one (.sl (b.map e_api_Stmt))), (5, .one (.int .i64 (i_1 : Int)))], []⟩) (fun | (.inl e_11), _ => ⟨[], []⟩ | (.inr ()), _ => ⟨[], []⟩) (fun | (.inl _) => none | (.inr _) => some 0) ?_ ?_
  intro i3 b3 hi3
  rcases e_2 with e_case | ⟨⟩
  cases hi3
  obtain rfl := Option.some.inj hi3
  obtain ⟨⟩ := b3
  dsimp only at h ⊢
  cases h; exact fin
  intro af3 m3 i_1 a3 o3 hf3 ho3 ih3
  obtain ⟨⟩ := a3
  dsimp only [lazarettoref07_Same_L1] at hf3 ⊢
  refine tr ?_
  intros
  refine fl hf3 F ?_ ?_ <;> intro hf3 _ F
  refine bx hf3 F fun x_4 hf3 hx_4 F => ?_
  refine bx hf3 F fun x_5 hf3 hx_5 F => ?_
  refine tr ?_
  intros
  refine fi hf3 F ?_ ?_ <;> intro hf3 _ F
  refine tt ?_
  refine fi hf3 F ?_ ?_ <;> intro hf3 _ F
  refine bi hf3 fun r_6 hf3 hr_6 => ?_
  refine tr ?_
  intros
  refine cS (lazarettoref06_Same_ok hr_6) ?_
  refine fv hf3 F ?_ ?_ <;> intro hf3 _ F
  refine bi hf3 fun r_7 hf3 hr_7 => ?_
  refine tr ?_
  intros
  refine cS (lazarettoref06_Same_ok hr_7) ?_
  refine fv hf3 F ?_ ?_ <;> intro hf3 _ F
  refine bi hf3 fun r_8 hf3 hr_8 => ?_
  refine tr ?_
  intros
  refine cS (lazarettoref06_Same_ok hr_8) ?_
  refine fv hf3 F ?_ ?_ <;> intro hf3 _ F
  refine bi hf3 fun r_9 hf3 hr_9 => ?_
  refine tr ?_
  intros
  refine cS (lazarettoref07_Same_r_ok _ _ _ hr_9) ?_
  refine fv hf3 F ?_ ?_ <;> intro hf3 _ F
  refine bi hf3 fun r_10 hf3 hr_10 => ?_
  refine tr ?_
  intros
  refine cS (lazarettoref07_Same_r_ok _ _ _ hr_10) ?_
  refine fv hf3 F ?_ ?_ <;> intro hf3 _ F
  cases hf3
  refine tt ?_
  refine wn i_1 F fun F => ?_
  exact bk ih3 ho3 ()
  cases hf3
  obtain rfl := sr ho3
  try dsimp only at h
  cases h
  exact fin
  cases hf3
  obtain rfl := sr ho3
  try dsimp only at h
  cases h
  exact fin
  cases hf3
  obtain rfl := sr ho3
  try dsimp only at h
  cases h
  exact fin
  cases hf3
  obtain rfl := sr ho3
  try dsimp only at h
  cases h
  exact fin
  cases hf3
  obtain rfl := sr ho3
  try dsimp only at h
  cases h
  exact fin
  cases hf3
  obtain rfl := sr ho3
  try dsimp only at h
  cases h
  exact fin
  cases hf3
  obtain rfl := sr ho3
  try dsimp only at h
  cases h
  exact fin
  cases hf3
  refine tt ?_
  exact xt ho3 af3 ()
  cases h; exact fin
theorem lazarettoref07_Same_g_ok (n : Nat) : (∀ (x0 : List api_Stmt) (x1 : List api_Stmt) (r : Bool), (lazarettoref07_Same_g n) x0 x1 = some r → Pu Tryz.prog 122 [.one (.sl (x0.map e_api_Stmt)), .one (.sl (x1.map e_api_Stmt))] (.one (.bool r))) := by
  induction n with
  | zero => exact fun _ _ r h => (by cases h)
  | succ n ih =>
    have ih0 := ih
    exact fun _ _ r h => lazarettoref07_Same_b_ok ih0 h
theorem lazarettoref07_Same_ok {a : List api_Stmt} {b : List api_Stmt} {r : Bool} (h : lazarettoref07_Same a b = some r) : Pu Tryz.prog 122 [.one (.sl (a.map e_api_Stmt)), .one (.sl (b.map e_api_Stmt))] (.one (.bool r)) := (lazarettoref07_Same_g_ok 1000000) _ _ _ h
theorem lazarettoref08_sameTask_ok {a : api_Task} {b : api_Task} {r : Bool} (h : lazarettoref08_sameTask a b = some r) :
    Pu Tryz.prog 84 [.agg (e_api_Task a), .agg (e_api_Task b)] (.one (.bool r)) := by
  have F := trivial; have R := trivial
  refine pA Tryz.func84 ?_
  simp only [Tryz.f84]
  unfold lazarettoref08_sameTask at h
  refine tt ?_
  refine fi h F ?_ ?_ <;> intro h _ F
  refine tt ?_
  refine fi h F ?_ ?_ <;> intro h _ F
  refine bi h fun r_1 h hr_1 => ?_
  refine tr ?_
  intros
  refine cS (lazarettoref04_Ints_ok hr_1) ?_
  refine fv h F ?_ ?_ <;> intro h _ F
  refine bi h fun r_2 h hr_2 => ?_
  refine tr ?_
  intros
  refine cS (lazarettoref07_Same_ok hr_2) ?_
  cases h; exact fin
  cases h; exact fin
  cases h; exact fin
  cases h; exact fin
theorem lazarettoref08_Same_ok {a : api_Program} {b : api_Program} {r : Bool} (h : lazarettoref08_Same a b = some r) :
    Pu Tryz.prog 39 [.agg (e_api_Program a), .agg (e_api_Program b)] (.one (.bool r)) := by
  have F := trivial; have R := trivial
  refine pA Tryz.func39 ?_
  simp only [Tryz.f39]
  unfold lazarettoref08_Same at h
  refine bi h fun r_1 h hr_1 => ?_
  refine tr ?_
  intros
  refine cS (lazarettoref01_Same_ok hr_1) ?_
  refine fv h F ?_ ?_ <;> intro h _ F
  refine tr ?_
  intros
  refine fi h F ?_ ?_ <;> intro h _ F
  refine tr ?_
  intros
  refine fi h F ?_ ?_ <;> intro h _ F
  refine tr ?_
  intros
  refine fi h F ?_ ?_ <;> intro h _ F
  refine tr ?_
  intros
  refine fi h F ?_ ?_ <;> intro h _ F
  refine bi h fun e_3 h he_3 => ?_
  refine tt ?_
  refine lX he_3 (fun | i_2, _ => ⟨[(2, .one (.ref 0 0 0 0)), (3, .one (.ref 1 0 0 0)), (5, .one (.int .i64 (i_2 : Int)))], [.cells 0 6 [[.sl (a.Lattice.Names.map eS), .sl (a.Lattice.Below.map (eA2 eI)), .sl (a.Sites.map e_api_Site), .sl (a.Vars.map e_api_Var), .sl (a.Blocks.map e_api_Block), .sl (a.Tasks.map e_api_Task)]], .cells 0 6 [[.sl (b.Lattice.Names.map eS), .sl (b.Lattice.Below.map (eA2 eI)), .sl (b.Sites.map e_api_Site), .sl (b.Vars.map e_api_Var), .sl (b.Blocks.map e_api_Block), .sl (b.Tasks.map e_api_Task)]]]⟩) (fun | (.inl e_7), _ => ⟨[], []⟩ | (.inr ()), _ => ⟨[(2, .one (.ref 0 0 0 0)), (3, .one (.ref 1 0 0 0))], [.cells 0 6 [[.sl (a.Lattice.Names.map eS), .sl (a.Lattice.Below.map (eA2 eI)), .sl (a.Sites.map e_api_Site), .sl (a.Vars.map e_api_Var), .sl (a.Blocks.map e_api_Block), .sl (a.Tasks.map e_api_Task)]], .cells 0 6 [[.sl (b.Lattice.Names.map eS), .sl (b.Lattice.Below.map (eA2 eI)), .sl (b.Sites.map e_api_Site), .sl (b.Vars.map e_api_Var), .sl (b.Blocks.map e_api_Block), .sl (b.Tasks.map e_api_Task)]]]⟩) (fun | (.inl _) => none | (.inr _) => some 0) ?_ ?_
  intro i4 b4 hi4
  rcases e_3 with e_case | ⟨⟩
  cases hi4
  obtain rfl := Option.some.inj hi4
  obtain ⟨⟩ := b4
  dsimp only at h ⊢
  refine bi h fun e_9 h he_9 => ?_
  refine tt ?_
  refine lX he_9 (fun | i_8, _ => ⟨[(2, .one (.ref 0 0 0 0)), (3, .one (.ref 1 0 0 0)), (6, .one (.int .i64 (i_8 : Int)))], [.cells 0 6 [[.sl (a.Lattice.Names.map eS), .sl (a.Lattice.Below.map (eA2 eI)), .sl (a.Sites.map e_api_Site), .sl (a.Vars.map e_api_Var), .sl (a.Blocks.map e_api_Block), .sl (a.Tasks.map e_api_Task)]], .cells 0 6 [[.sl (b.Lattice.Names.map eS), .sl (b.Lattice.Below.map (eA2 eI)), .sl (b.Sites.map e_api_Site), .sl (b.Vars.map e_api_Var), .sl (b.Blocks.map e_api_Block), .sl (b.Tasks.map e_api_Task)]]]⟩) (fun | (.inl e_13), _ => ⟨[], []⟩ | (.inr ()), _ => ⟨[(2, .one (.ref 0 0 0 0)), (3, .one (.ref 1 0 0 0))], [.cells 0 6 [[.sl (a.Lattice.Names.map eS), .sl (a.Lattice.Below.map (eA2 eI)), .sl (a.Sites.map e_api_Site), .sl (a.Vars.map e_api_Var), .sl (a.Blocks.map e_api_Block), .sl (a.Tasks.map e_api_Task)]], .cells 0 6 [[.sl (b.Lattice.Names.map eS), .sl (b.Lattice.Below.map (eA2 eI)), .sl (b.Sites.map e_api_Site), .sl (b.Vars.map e_api_Var), .sl (b.Blocks.map e_api_Block), .sl (b.Tasks.map e_api_Task)]]]⟩) (fun | (.inl _) => none | (.inr _) => some 2) ?_ ?_
  intro i10 b10 hi10
  rcases e_9 with e_case | ⟨⟩
  cases hi10
  obtain rfl := Option.some.inj hi10
  obtain ⟨⟩ := b10
  dsimp only at h ⊢
  refine bi h fun e_15 h he_15 => ?_
  refine tt ?_
  refine lX he_15 (fun | i_14, _ => ⟨[(2, .one (.ref 0 0 0 0)), (3, .one (.ref 1 0 0 0)), (7, .one (.int .i64 (i_14 : Int)))], [.cells 0 6 [[.sl (a.Lattice.Names.map eS), .sl (a.Lattice.Below.map (eA2 eI)), .sl (a.Sites.map e_api_Site), .sl (a.Vars.map e_api_Var), .sl (a.Blocks.map e_api_Block), .sl (a.Tasks.map e_api_Task)]], .cells 0 6 [[.sl (b.Lattice.Names.map eS), .sl (b.Lattice.Below.map (eA2 eI)), .sl (b.Sites.map e_api_Site), .sl (b.Vars.map e_api_Var), .sl (b.Blocks.map e_api_Block), .sl (b.Tasks.map e_api_Task)]]]⟩) (fun | (.inl e_19), _ => ⟨[], []⟩ | (.inr ()), _ => ⟨[(2, .one (.ref 0 0 0 0)), (3, .one (.ref 1 0 0 0))], [.cells 0 6 [[.sl (a.Lattice.Names.map eS), .sl (a.Lattice.Below.map (eA2 eI)), .sl (a.Sites.map e_api_Site), .sl (a.Vars.map e_api_Var), .sl (a.Blocks.map e_api_Block), .sl (a.Tasks.map e_api_Task)]], .cells 0 6 [[.sl (b.Lattice.Names.map eS), .sl (b.Lattice.Below.map (eA2 eI)), .sl (b.Sites.map e_api_Site), .sl (b.Vars.map e_api_Var), .sl (b.Blocks.map e_api_Block), .sl (b.Tasks.map e_api_Task)]]]⟩) (fun | (.inl _) => none | (.inr _) => some 4) ?_ ?_
  intro i16 b16 hi16
  rcases e_15 with e_case | ⟨⟩
  cases hi16
  obtain rfl := Option.some.inj hi16
  obtain ⟨⟩ := b16
  dsimp only at h ⊢
  refine bi h fun e_21 h he_21 => ?_
  refine tt ?_
  refine lX he_21 (fun | i_20, _ => ⟨[(2, .one (.ref 0 0 0 0)), (3, .one (.ref 1 0 0 0)), (8, .one (.int .i64 (i_20 : Int)))], [.cells 0 6 [[.sl (a.Lattice.Names.map eS), .sl (a.Lattice.Below.map (eA2 eI)), .sl (a.Sites.map e_api_Site), .sl (a.Vars.map e_api_Var), .sl (a.Blocks.map e_api_Block), .sl (a.Tasks.map e_api_Task)]], .cells 0 6 [[.sl (b.Lattice.Names.map eS), .sl (b.Lattice.Below.map (eA2 eI)), .sl (b.Sites.map e_api_Site), .sl (b.Vars.map e_api_Var), .sl (b.Blocks.map e_api_Block), .sl (b.Tasks.map e_api_Task)]]]⟩) (fun | (.inl e_26), _ => ⟨[], []⟩ | (.inr ()), _ => ⟨[], [.cells 0 6 [[.sl (a.Lattice.Names.map eS), .sl (a.Lattice.Below.map (eA2 eI)), .sl (a.Sites.map e_api_Site), .sl (a.Vars.map e_api_Var), .sl (a.Blocks.map e_api_Block), .sl (a.Tasks.map e_api_Task)]], .cells 0 6 [[.sl (b.Lattice.Names.map eS), .sl (b.Lattice.Below.map (eA2 eI)), .sl (b.Sites.map e_api_Site), .sl (b.Vars.map e_api_Var), .sl (b.Blocks.map e_api_Block), .sl (b.Tasks.map e_api_Task)]]]⟩) (fun | (.inl _) => none | (.inr _) => some 6) ?_ ?_
  intro i22 b22 hi22
  rcases e_21 with e_case | ⟨⟩
  cases hi22
  obtain rfl := Option.some.inj hi22
  obtain ⟨⟩ := b22
  dsimp only at h ⊢
  cases h; exact fin
  intro af22 m22 i_20 a22 o22 hf22 ho22 ih22
  obtain ⟨⟩ := a22
  dsimp only [lazarettoref08_Same_L4] at hf22 ⊢
  refine tr ?_
  intros
  refine fl hf22 F ?_ ?_ <;> intro hf22 _ F
  refine bx hf22 F fun x_23 hf22 hx_23 F => ?_
  refine bx hf22 F fun x_24 hf22 hx_24 F => ?_
  refine bi hf22 fun r_25 hf22 hr_25 => ?_
  refine tr ?_
  intros
  refine cD (lazarettoref08_sameTask_ok hr_25) ?_
  refine tr ?_
  intros
  refine fv hf22 F ?_ ?_ <;> intro hf22 _ F
  cases hf22
  refine tt ?_
  refine wn i_20 F fun F => ?_
  exact bk ih22 ho22 ()
  cases hf22
  obtain rfl := sr ho22
  try dsimp only at h
  cases h
  exact fin
  cases hf22
  refine tt ?_
  exact xt ho22 af22 ()
  intro af16 m16 i_14 a16 o16 hf16 ho16 ih16
  obtain ⟨⟩ := a16
  dsimp only [lazarettoref08_Same_L3] at hf16 ⊢
  refine tr ?_
  intros
  refine fl hf16 F ?_ ?_ <;> intro hf16 _ F
  refine bx hf16 F fun x_17 hf16 hx_17 F => ?_
  refine bx hf16 F fun x_18 hf16 hx_18 F => ?_
  refine tr ?_
  intros
  refine fi hf16 F ?_ ?_ <;> intro hf16 _ F
  cases hf16
  refine tt ?_
  refine wn i_14 F fun F => ?_
  exact bk ih16 ho16 ()
  cases hf16
  obtain rfl := sr ho16
  try dsimp only at h
  cases h
  exact fin
  cases hf16
  refine tt ?_
  exact xt ho16 af16 ()
  intro af10 m10 i_8 a10 o10 hf10 ho10 ih10
  obtain ⟨⟩ := a10
  dsimp only [lazarettoref08_Same_L2] at hf10 ⊢
  refine tr ?_
  intros
  refine fl hf10 F ?_ ?_ <;> intro hf10 _ F
  refine bx hf10 F fun x_11 hf10 hx_11 F => ?_
  refine bx hf10 F fun x_12 hf10 hx_12 F => ?_
  refine tr ?_
  intros
  refine fi hf10 F ?_ ?_ <;> intro hf10 _ F
  cases hf10
  refine tt ?_
  refine wn i_8 F fun F => ?_
  exact bk ih10 ho10 ()
  cases hf10
  obtain rfl := sr ho10
  try dsimp only at h
  cases h
  exact fin
  cases hf10
  refine tt ?_
  exact xt ho10 af10 ()
  intro af4 m4 i_2 a4 o4 hf4 ho4 ih4
  obtain ⟨⟩ := a4
  dsimp only [lazarettoref08_Same_L1] at hf4 ⊢
  refine tr ?_
  intros
  refine fl hf4 F ?_ ?_ <;> intro hf4 _ F
  refine bx hf4 F fun x_5 hf4 hx_5 F => ?_
  refine bx hf4 F fun x_6 hf4 hx_6 F => ?_
  refine tr ?_
  intros
  refine fi hf4 F ?_ ?_ <;> intro hf4 _ F
  cases hf4
  refine tt ?_
  refine wn i_2 F fun F => ?_
  exact bk ih4 ho4 ()
  cases hf4
  obtain rfl := sr ho4
  try dsimp only at h
  cases h
  exact fin
  cases hf4
  refine tt ?_
  exact xt ho4 af4 ()
  cases h; exact fin
  cases h; exact fin
  cases h; exact fin
  cases h; exact fin
  cases h; exact fin
theorem lazarettoref14_May_ok {p : api_Program} {r : Bool} (h : lazarettoref14_May p = some r) :
    Pu Tryz.prog 14 [.agg (e_api_Program p)] (.one (.bool r)) := by
  have F := trivial; have R := trivial
  refine pA Tryz.func14 ?_
  simp only [Tryz.f14]
  unfold lazarettoref14_May at h
  refine bi h fun r_1 h hr_1 => ?_
  refine tr ?_
  intros
  refine cS (lazarettoref14_Check_ok hr_1) ?_
  refine tt ?_
  refine fi h F ?_ ?_ <;> intro h _ F
  refine bi h fun r_2 h hr_2 => ?_
  refine tr ?_
  intros
  refine cS (lazarettoref08_Same_ok hr_2) ?_
  cases h; exact fin
  cases h; exact fin
end Go.Lz

end
