/- V01 -/
import Derived.Test.YtefnllpnodnimaaLw2
import Derived.Test.YtefnllpnodnimaaSD
namespace Go.Lz
set_option linter.unusedVariables false
set_option linter.unusedSimpArgs false
open Go.Proofs
attribute [-go_sem] q_cond g_b gd_b
set_option maxRecDepth 100000
set_option maxHeartbeats 4000000
noncomputable section
def lazarettoref01_Is (l : api_Lattice) (a : Int) : Option Bool :=
  if 0 ≤ a then (some (decide (a < (l.Names.length : Int)))) else (some false)
def lazarettoref01_Leq_L2 (l : api_Lattice) : ((List Bool) × Bool × Nat) → Option (((List Bool) × Bool × Nat) ⊕ ((List Bool) × Bool))
  | (above_9, more_10, i_11) => if (i_11 : Int) < (l.Below.length : Int) then ((l.Below[i_11]?).bind fun x_14 => (lazarettoref01_Is l x_14.a0).bind fun r_15 => if r_15 = true then ((lazarettoref01_Is l x_14.a1).bind fun r_16 => if r_16 = true then ((idx above_9 x_14.a0).bind fun x_17 => if x_17 = true then ((idx above_9 x_14.a1).bind fun x_18 => if x_18 = true then (some (.inl (above_9, more_10, (i_11 + 1)))) else (some (.inl ((above_9.set x_14.a1.toNat true), true, (i_11 + 1))))) else (some (.inl (above_9, more_10, (i_11 + 1))))) else (some (.inl (above_9, more_10, (i_11 + 1))))) else (some (.inl (above_9, more_10, (i_11 + 1))))) else (some (.inr ((above_9, more_10))))
def lazarettoref01_Leq_L1 (l : api_Lattice) : ((List Bool) × Bool) → Option (((List Bool) × Bool) ⊕ (List Bool))
  | (above_5, more_6) => if more_6 = true then ((loop (lazarettoref01_Leq_L2 l) (above_5, false, 0)).bind (fun (above_19, more_20) => some (.inl (above_19, more_20)))) else (some (.inr (above_5)))
def lazarettoref01_Leq (l : api_Lattice) (a : Int) (b : Int) : Option Bool :=
  (lazarettoref01_Is l a).bind fun r_1 => if r_1 = true then ((lazarettoref01_Is l b).bind fun r_2 => if r_2 = true then (need (0 ≤ (l.Names.length : Int) ∧ 1 * (l.Names.length : Int) ≤ 140737488355328) ((idx (List.replicate l.Names.length false) a).bind fun x_4 => (loop (lazarettoref01_Leq_L1 l) (((List.replicate l.Names.length false).set a.toNat true), true)).bind (fun e_7 => (idx e_7 b).bind fun x_22 => some x_22))) else (some false)) else (some false)
def lattice_is (l : api_Lattice) (a : Int) : Option Bool :=
  if 0 ≤ a then (some (decide (a < (l.Names.length : Int)))) else (some false)
def lattice_above_L2 (l : api_Lattice) (x_9 : Int) : ((List Bool) × (List Int) × Nat) → Option (((List Bool) × (List Int) × Nat) ⊕ ((List Bool) × (List Int)))
  | (out_13, todo_15, x_17) => if (x_17 : Int) < (l.Below.length : Int) then ((l.Below[x_17]?).bind fun x_20 => if x_20.a0 = x_9 then ((lattice_is l x_20.a1).bind fun r_21 => if r_21 = true then ((idx out_13 x_20.a1).bind fun x_22 => if x_22 = true then (some (.inl (out_13, todo_15, (x_17 + 1)))) else (need ((todo_15.length + 1) * 8 ≤ 140737488355328) (some (.inl ((out_13.set x_20.a1.toNat true), (todo_15 ++ [x_20.a1]), (x_17 + 1)))))) else (some (.inl (out_13, todo_15, (x_17 + 1))))) else (some (.inl (out_13, todo_15, (x_17 + 1))))) else (some (.inr ((out_13, todo_15))))
def lattice_above_L1 (l : api_Lattice) : ((List Bool) × (List Int)) → Option (((List Bool) × (List Int)) ⊕ ((List Bool) × (List Int)))
  | (out_3, todo_5) => if 0 < (todo_5.length : Int) then ((todo_5[0]?).bind fun x_9 => need ((1 : Int) ≤ (todo_5.length : Int)) ((loop (lattice_above_L2 l x_9) (out_3, (todo_5.drop 1), 0)).bind (fun (out_24, todo_25) => some (.inl (out_24, todo_25))))) else (some (.inr ((out_3, todo_5))))
def lattice_above (l : api_Lattice) (a : Int) : Option (List Bool) :=
  need (0 ≤ (l.Names.length : Int) ∧ 1 * (l.Names.length : Int) ≤ 140737488355328) ((idx (List.replicate l.Names.length false) a).bind fun x_2 => (loop (lattice_above_L1 l) (((List.replicate l.Names.length false).set a.toNat true), [a])).bind (fun (out_28, todo_29) => some out_28))
def lattice_Leq (l : api_Lattice) (a : Int) (b : Int) : Option Bool :=
  (lattice_is l a).bind fun r_1 => if r_1 = true then ((lattice_is l b).bind fun r_2 => if r_2 = true then ((lattice_above l a).bind fun r_3 => (idx r_3 b).bind fun x_4 => some x_4) else (some false)) else (some false)
end
theorem lazarettoref01_Is_ok {l : api_Lattice} {a : Int} {r : Bool} (h : lazarettoref01_Is l a = some r) :
    Pu Try.prog 45 [.agg (e_api_Lattice l), .one (.int .i64 a)] (.one (.bool r)) := by
  have F := trivial; have R := trivial
  refine pA Try.func45 ?_
  simp only [Try.f45]
  unfold lazarettoref01_Is at h
  refine fi h F (fun h _ F => ?_) (fun h _ F => ?_)
  cases h; exact fin
  cases h; exact fin
theorem lazarettoref01_Leq_ok {l : api_Lattice} {a : Int} {b : Int} {r : Bool} (h : lazarettoref01_Leq l a b = some r) :
    Pu Try.prog 46 [.agg (e_api_Lattice l), .one (.int .i64 a), .one (.int .i64 b)] (.one (.bool r)) := by
  have F := trivial; have R := trivial
  refine pA Try.func46 ?_
  simp only [Try.f46]
  unfold lazarettoref01_Leq at h
  refine bi h fun r_1 h hr_1 => ?_
  refine tt ?_
  repeat (first | (with_reducible intro _) | refine ⟨ss, ?_⟩)
  refine cS (lazarettoref01_Is_ok hr_1) ?_
  refine fv h F (fun h _ F => ?_) (fun h _ F => ?_)
  refine bi h fun r_2 h hr_2 => ?_
  refine tt ?_
  repeat (first | (with_reducible intro _) | refine ⟨ss, ?_⟩)
  refine cS (lazarettoref01_Is_ok hr_2) ?_
  refine fv h F (fun h _ F => ?_) (fun h _ F => ?_)
  refine nd h F fun h F => ?_
  have R := And.intro (show List.replicate l.Names.length [.bool false] = List.map eB (List.replicate l.Names.length false) by simp [go_sem]) R
  refine by_ h F fun x_4 h hx_4 F => ?_
  refine ln F fun F => ?_
  have R := And.intro (show (List.map eB (List.replicate l.Names.length false)).set a.toNat [.bool true] = List.map eB ((List.replicate l.Names.length false).set a.toNat true) by simp [go_sem, List.map_set]) R
  refine bi h fun e_7 h he_7 => ?_
  refine tt ?_
  repeat (first | (with_reducible intro _) | refine ⟨ss, ?_⟩)
  refine lE (fun (s__ : (List Bool) × Bool) (a__ : Unit) => match s__, a__ with | (above_5, more_6), _ => ⟨[(2, .one (.int .i64 b)), (3, .one (.ref 0 0 0 0)), (7, .one (.msl 1 0 0 above_5.length)), (8, .one (.bool more_6))], [.cells 0 2 [[.sl (l.Names.map eS), .sl (l.Below.map (eA2 eI))]], .cells 0 1 (above_5.map eB)]⟩) (fun (e__ : List Bool) (b__ : Unit) => match e__, b__ with | e_7, _ => ⟨[(2, .one (.int .i64 b)), (7, .one (.msl 1 0 0 e_7.length))], [.cells 0 2 [[.sl (l.Names.map eS), .sl (l.Below.map (eA2 eI))]], .cells 0 1 (e_7.map eB)]⟩) (fun (_ : List Bool) => some 0) () he_7 ?_ ?_
  intro i8 b8 hi8
  obtain rfl := Option.some.inj hi8
  obtain ⟨⟩ := b8
  dsimp only at h ⊢
  refine by_ h F fun x_22 h hx_22 F => ?_
  cases h; exact fin
  intro af8 m8 s8 a8 o8 hf8 ho8 ih8
  obtain ⟨above_5, more_6⟩ := s8
  obtain ⟨⟩ := a8
  dsimp only [lazarettoref01_Leq_L1] at hf8 ⊢
  refine fv hf8 F (fun hf8 _ F => ?_) (fun hf8 _ F => ?_)
  refine bi hf8 fun e_12 hf8 he_12 => ?_
  refine tt ?_
  refine lE (fun (s__ : (List Bool) × Bool × Nat) (a__ : Unit) => match s__, a__ with | (above_9, more_10, i_11), _ => ⟨[(2, .one (.int .i64 b)), (3, .one (.ref 0 0 0 0)), (7, .one (.msl 1 0 0 above_9.length)), (8, .one (.bool more_10)), (9, .one (.int .i64 (i_11 : Int)))], [.cells 0 2 [[.sl (l.Names.map eS), .sl (l.Below.map (eA2 eI))]], .cells 0 1 (above_9.map eB)]⟩) (fun (e__ : (List Bool) × Bool) (b__ : Unit) => match e__, b__ with | (above_19, more_20), _ => ⟨[(2, .one (.int .i64 b)), (3, .one (.ref 0 0 0 0)), (7, .one (.msl 1 0 0 above_19.length)), (8, .one (.bool more_20))], [.cells 0 2 [[.sl (l.Names.map eS), .sl (l.Below.map (eA2 eI))]], .cells 0 1 (above_19.map eB)]⟩) (fun (_ : (List Bool) × Bool) => some 2) () he_12 ?_ ?_
  intro i13 b13 hi13
  obtain rfl := Option.some.inj hi13
  obtain ⟨above_19, more_20⟩ := e_12
  obtain ⟨⟩ := b13
  dsimp only at hf8 ⊢
  cases hf8
  refine tt ?_
  exact bk ih8 ho8 ()
  intro af13 m13 s13 a13 o13 hf13 ho13 ih13
  obtain ⟨above_9, more_10, i_11⟩ := s13
  obtain ⟨⟩ := a13
  dsimp only [lazarettoref01_Leq_L2] at hf13 ⊢
  refine tt ?_
  repeat (first | (with_reducible intro _) | refine ⟨ss, ?_⟩)
  refine fl hf13 F (fun hf13 _ F => ?_) (fun hf13 _ F => ?_)
  refine bx hf13 F fun x_14 hf13 hx_14 F => ?_
  refine bi hf13 fun r_15 hf13 hr_15 => ?_
  refine tt ?_
  repeat (first | (with_reducible intro _) | refine ⟨ss, ?_⟩)
  refine cS (lazarettoref01_Is_ok hr_15) ?_
  refine fv hf13 F (fun hf13 _ F => ?_) (fun hf13 _ F => ?_)
  refine bi hf13 fun r_16 hf13 hr_16 => ?_
  refine tt ?_
  repeat (first | (with_reducible intro _) | refine ⟨ss, ?_⟩)
  refine cS (lazarettoref01_Is_ok hr_16) ?_
  refine fv hf13 F (fun hf13 _ F => ?_) (fun hf13 _ F => ?_)
  refine by_ hf13 F fun x_17 hf13 hx_17 F => ?_
  refine tt ?_
  repeat (first | (with_reducible intro _) | refine ⟨ss, ?_⟩)
  refine fv hf13 F (fun hf13 _ F => ?_) (fun hf13 _ F => ?_)
  refine by_ hf13 F fun x_18 hf13 hx_18 F => ?_
  refine tt ?_
  repeat (first | (with_reducible intro _) | refine ⟨ss, ?_⟩)
  refine fv hf13 F (fun hf13 _ F => ?_) (fun hf13 _ F => ?_)
  cases hf13
  refine tt ?_
  refine wn i_11 F fun F => ?_
  exact bk ih13 ho13 ()
  have R := And.intro (show (List.map eB above_9).set x_14.a1.toNat [.bool true] = List.map eB (above_9.set x_14.a1.toNat true) by simp [go_sem, List.map_set]) R
  cases hf13
  refine tt ?_
  repeat (first | (with_reducible intro _) | refine ⟨ss, ?_⟩)
  refine wn i_11 F fun F => ?_
  exact bk ih13 ho13 ()
  cases hf13
  refine tt ?_
  refine wn i_11 F fun F => ?_
  exact bk ih13 ho13 ()
  cases hf13
  refine tt ?_
  refine wn i_11 F fun F => ?_
  exact bk ih13 ho13 ()
  cases hf13
  refine tt ?_
  refine wn i_11 F fun F => ?_
  exact bk ih13 ho13 ()
  cases hf13
  refine tt ?_
  exact xt ho13 af13 ()
  cases hf8
  refine tt ?_
  exact xt ho8 af8 ()
  cases h; exact fin
  cases h; exact fin
theorem lattice_is_ok {l : api_Lattice} {a : Int} {r : Bool} (h : lattice_is l a = some r) :
    Pu Try.prog 95 [.agg (e_api_Lattice l), .one (.int .i64 a)] (.one (.bool r)) := by
  have F := trivial; have R := trivial
  refine pA Try.func95 ?_
  simp only [Try.f95]
  unfold lattice_is at h
  refine fi h F (fun h _ F => ?_) (fun h _ F => ?_)
  cases h; exact fin
  cases h; exact fin
theorem lattice_above_ok {l : api_Lattice} {a : Int} {r : List Bool} (h : lattice_above l a = some r) :
    Pu Try.prog 96 [.agg (e_api_Lattice l), .one (.int .i64 a)] (.one (.sl (r.map eB))) := by
  have F := trivial; have R := trivial
  refine pA Try.func96 ?_
  simp only [Try.f96]
  unfold lattice_above at h
  refine nd h F fun h F => ?_
  have R := And.intro (show List.replicate l.Names.length [.bool false] = List.map eB (List.replicate l.Names.length false) by simp [go_sem]) R
  refine by_ h F fun x_2 h hx_2 F => ?_
  refine ln F fun F => ?_
  have R := And.intro (show (List.map eB (List.replicate l.Names.length false)).set a.toNat [.bool true] = List.map eB ((List.replicate l.Names.length false).set a.toNat true) by simp [go_sem, List.map_set]) R
  refine bi h fun e_7 h he_7 => ?_
  refine tt ?_
  repeat (first | (with_reducible intro _) | refine ⟨ss, ?_⟩)
  refine lE (fun (s__ : (List Bool) × (List Int)) (a__ : Nat × (List Int)) => match s__, a__ with | (out_3, todo_5), (v_4, pre_6) => ⟨[(2, .one (.ref 0 0 0 0)), (5, .one (.msl 1 0 0 out_3.length)), (6, .one (.msl 2 v_4 pre_6.length (pre_6.length + todo_5.length)))], [.cells 0 2 [[.sl (l.Names.map eS), .sl (l.Below.map (eA2 eI))]], .cells 0 1 (out_3.map eB), .cells v_4 1 ((pre_6 ++ todo_5).map eI)]⟩) (fun (e__ : (List Bool) × (List Int)) (b__ : Nat × (List Int)) => match e__, b__ with | (out_28, todo_29), (v_30, pre_31) => ⟨[(5, .one (.msl 1 0 0 out_28.length))], [.cells 0 2 [[.sl (l.Names.map eS), .sl (l.Below.map (eA2 eI))]], .cells 0 1 (out_28.map eB), .cells v_30 1 ((pre_31 ++ todo_29).map eI)]⟩) (fun (_ : (List Bool) × (List Int)) => some 0) (0, ([] : List Int)) he_7 ?_ ?_
  intro i8 b8 hi8
  obtain rfl := Option.some.inj hi8
  obtain ⟨out_28, todo_29⟩ := e_7
  obtain ⟨v_30, pre_31⟩ := b8
  dsimp only at h ⊢
  cases h; exact fin
  intro af8 m8 s8 a8 o8 hf8 ho8 ih8
  obtain ⟨out_3, todo_5⟩ := s8
  obtain ⟨v_4, pre_6⟩ := a8
  dsimp only [lattice_above_L1] at hf8 ⊢
  refine tt ?_
  repeat (first | (with_reducible intro _) | refine ⟨ss, ?_⟩)
  refine fi hf8 F (fun hf8 _ F => ?_) (fun hf8 _ F => ?_)
  refine bx hf8 F fun x_9 hf8 hx_9 F => ?_
  have R := And.intro (show (pre_6 ++ todo_5)[pre_6.length]? = some x_9 from q_get hx_9) (And.intro (show pre_6.length < (pre_6 ++ todo_5).length from q_lt hx_9) R)
  refine nd hf8 F fun hf8 F => ?_
  have R := And.intro (show List.drop (pre_6.length + 1) (List.map eI (pre_6 ++ todo_5)) = List.map eI (todo_5.drop 1) from q_drop _ _ _ _) R
  refine bi hf8 fun e_18 hf8 he_18 => ?_
  refine tt ?_
  repeat (first | (with_reducible intro _) | refine ⟨ss, ?_⟩)
  refine lE (fun (s__ : (List Bool) × (List Int) × Nat) (a__ : Nat × (List Int)) => match s__, a__ with | (out_13, todo_15, x_17), (v_14, pre_16) => ⟨[(2, .one (.ref 0 0 0 0)), (5, .one (.msl 1 0 0 out_13.length)), (6, .one (.msl 2 v_14 pre_16.length (pre_16.length + todo_15.length))), (7, .one (.int .i64 x_9)), (28, .one (.sl (l.Below.map (eA2 eI)))), (29, .one (.int .i64 (l.Below.length : Int))), (30, .one (.int .i64 (x_17 : Int)))], [.cells 0 2 [[.sl (l.Names.map eS), .sl (l.Below.map (eA2 eI))]], .cells 0 1 (out_13.map eB), .cells v_14 1 ((pre_16 ++ todo_15).map eI)]⟩) (fun (e__ : (List Bool) × (List Int)) (b__ : Nat × (List Int)) => match e__, b__ with | (out_24, todo_25), (v_26, pre_27) => ⟨[(2, .one (.ref 0 0 0 0)), (5, .one (.msl 1 0 0 out_24.length)), (6, .one (.msl 2 v_26 pre_27.length (pre_27.length + todo_25.length)))], [.cells 0 2 [[.sl (l.Names.map eS), .sl (l.Below.map (eA2 eI))]], .cells 0 1 (out_24.map eB), .cells v_26 1 ((pre_27 ++ todo_25).map eI)]⟩) (fun (_ : (List Bool) × (List Int)) => some 2) (v_4, (pre_6 ++ todo_5.take 1)) he_18 ?_ ?_
  intro i19 b19 hi19
  obtain rfl := Option.some.inj hi19
  obtain ⟨out_24, todo_25⟩ := e_18
  obtain ⟨v_26, pre_27⟩ := b19
  dsimp only at hf8 ⊢
  cases hf8
  refine tt ?_
  exact bk ih8 ho8 (v_26, pre_27)
  intro af19 m19 s19 a19 o19 hf19 ho19 ih19
  obtain ⟨out_13, todo_15, x_17⟩ := s19
  obtain ⟨v_14, pre_16⟩ := a19
  dsimp only [lattice_above_L2] at hf19 ⊢
  refine fl hf19 F (fun hf19 _ F => ?_) (fun hf19 _ F => ?_)
  refine bx hf19 F fun x_20 hf19 hx_20 F => ?_
  refine tt ?_
  repeat (first | (with_reducible intro _) | refine ⟨ss, ?_⟩)
  refine fi hf19 F (fun hf19 _ F => ?_) (fun hf19 _ F => ?_)
  refine bi hf19 fun r_21 hf19 hr_21 => ?_
  refine tt ?_
  repeat (first | (with_reducible intro _) | refine ⟨ss, ?_⟩)
  refine cS (lattice_is_ok hr_21) ?_
  refine fv hf19 F (fun hf19 _ F => ?_) (fun hf19 _ F => ?_)
  refine by_ hf19 F fun x_22 hf19 hx_22 F => ?_
  refine tt ?_
  repeat (first | (with_reducible intro _) | refine ⟨ss, ?_⟩)
  refine fv hf19 F (fun hf19 _ F => ?_) (fun hf19 _ F => ?_)
  cases hf19
  refine tt ?_
  refine wn x_17 F fun F => ?_
  exact bk ih19 ho19 (v_14, pre_16)
  have R := And.intro (show (List.map eB out_13).set x_20.a1.toNat [.bool true] = List.map eB (out_13.set x_20.a1.toNat true) by simp [go_sem, List.map_set]) R
  refine nd hf19 F fun hf19 F => ?_
  cases hf19
  refine tt ?_
  repeat (first | (with_reducible intro _) | refine ⟨ss, ?_⟩)
  refine wn x_17 F fun F => ?_
  exact bk ih19 ho19 ((v_14 + 1), [])
  cases hf19
  refine tt ?_
  refine wn x_17 F fun F => ?_
  exact bk ih19 ho19 (v_14, pre_16)
  cases hf19
  refine tt ?_
  refine wn x_17 F fun F => ?_
  exact bk ih19 ho19 (v_14, pre_16)
  cases hf19
  refine tt ?_
  exact xt ho19 af19 (v_14, pre_16)
  cases hf8
  refine tt ?_
  exact xt ho8 af8 (v_4, pre_6)
theorem lattice_Leq_ok {l : api_Lattice} {a : Int} {b : Int} {r : Bool} (h : lattice_Leq l a b = some r) :
    Pu Try.prog 77 [.agg (e_api_Lattice l), .one (.int .i64 a), .one (.int .i64 b)] (.one (.bool r)) := by
  have F := trivial; have R := trivial
  refine pA Try.func77 ?_
  simp only [Try.f77]
  unfold lattice_Leq at h
  refine bi h fun r_1 h hr_1 => ?_
  refine tt ?_
  repeat (first | (with_reducible intro _) | refine ⟨ss, ?_⟩)
  refine cS (lattice_is_ok hr_1) ?_
  refine fv h F (fun h _ F => ?_) (fun h _ F => ?_)
  refine bi h fun r_2 h hr_2 => ?_
  refine tt ?_
  repeat (first | (with_reducible intro _) | refine ⟨ss, ?_⟩)
  refine cS (lattice_is_ok hr_2) ?_
  refine fv h F (fun h _ F => ?_) (fun h _ F => ?_)
  refine bi h fun r_3 h hr_3 => ?_
  refine tt ?_
  repeat (first | (with_reducible intro _) | refine ⟨ss, ?_⟩)
  refine cS (lattice_above_ok hr_3) ?_
  refine by_ h F fun x_4 h hx_4 F => ?_
  cases h; exact fin
  cases h; exact fin
  cases h; exact fin
end Go.Lz
