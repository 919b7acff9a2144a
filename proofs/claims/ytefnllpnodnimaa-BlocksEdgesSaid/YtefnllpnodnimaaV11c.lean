/- V11c -/
import Derived.Test.YtefnllpnodnimaaV11
namespace Go.Lz
set_option linter.unusedVariables false
set_option linter.unusedSimpArgs false
open Go.Proofs
attribute [-go_sem] q_cond g_b gd_b
set_option maxRecDepth 100000
set_option maxHeartbeats 4000000
noncomputable section
def lazarettolaw11_play_L1 (kind : Str) (l : List lazarettolaw11_Call) (r_1 : (List Int)) : (Int × Int × Int × Int × (List (A4 Int)) × Int × Nat) → Option ((Int × Int × Int × Int × (List (A4 Int)) × Int × Nat) ⊕ (Int × Int × Int × Int × (List (A4 Int))))
  | (s_2, s_3, s_4, s_5, out_7, now_8, i_10) => if (i_10 : Int) < (l.length : Int) then (if (i_10 : Int) < 100 then ((l[i_10]?).bind fun x_13 => need (0 ≤ 0 ∧ 0 ≤ (r_1.length : Int) ∧ (r_1.length : Int) ≤ 5) (if ([x_13.In.a0, x_13.In.a1, x_13.In.a2, x_13.In.a3, x_13.In.a4].take r_1.length).isEmpty = true then ((blocks_Step kind (⟨s_2, s_3, s_4, s_5⟩ : A4 Int) [] (w64 (now_8 + (w64 ((IntKind.u64.wrap x_13.Later).tmod 1000))))).bind fun r_15 => need ((out_7.length + 1) * 32 ≤ 140737488355328) (some (.inl (r_15.a0, r_15.a1, r_15.a2, r_15.a3, (out_7 ++ [r_15]), (w64 (now_8 + (w64 ((IntKind.u64.wrap x_13.Later).tmod 1000)))), (i_10 + 1))))) else (need (([x_13.In.a0, x_13.In.a1, x_13.In.a2, x_13.In.a3, x_13.In.a4].take r_1.length).length * 8 ≤ 140737488355328) ((blocks_Step kind (⟨s_2, s_3, s_4, s_5⟩ : A4 Int) ([x_13.In.a0, x_13.In.a1, x_13.In.a2, x_13.In.a3, x_13.In.a4].take r_1.length) (w64 (now_8 + (w64 ((IntKind.u64.wrap x_13.Later).tmod 1000))))).bind fun r_18 => need ((out_7.length + 1) * 32 ≤ 140737488355328) (some (.inl (r_18.a0, r_18.a1, r_18.a2, r_18.a3, (out_7 ++ [r_18]), (w64 (now_8 + (w64 ((IntKind.u64.wrap x_13.Later).tmod 1000)))), (i_10 + 1)))))))) else (some (.inr ((s_2, s_3, s_4, s_5, out_7))))) else (some (.inr ((s_2, s_3, s_4, s_5, out_7))))
def lazarettolaw11_play (kind : Str) (l : List lazarettolaw11_Call) : Option ((List (A4 Int)) × Bool) :=
  (lazarettoref11_Inputs kind).bind fun r_1 => (loop (lazarettolaw11_play_L1 kind l r_1) (0, 0, 0, 0, [], 0, 0)).bind (fun (s_20, s_21, s_22, s_23, out_24) => some (out_24, (decide (0 < (r_1.length : Int)))))
def lazarettoref03_Valid (kind : Int) (n : Int) : Option Bool :=
  if kind = 1 then (if n = 0 then (some true) else (some (decide (n = 1)))) else ((lazarettoref03_Bits kind).bind fun r_1 => if 0 < r_1 then ((lazarettoref03_half kind).bind fun r_2 => if (w64 (0 - r_2)) ≤ n then ((lazarettoref03_half kind).bind fun r_3 => some (decide (n < r_3))) else (some false)) else (some false))
def lazarettolaw11_BlocksValid_L2 (kind : Str) (r_1 : (List (A4 Int)) × Bool) (r_2 : (List Int)) (i_3 : Nat) : Nat → Option ((Nat) ⊕ (Bool ⊕ Unit))
  | n_6 => if (n_6 : Int) < (r_2.length : Int) then ((r_2[n_6]?).bind fun x_9 => (r_1.1[i_3]?).bind fun x_10 => (blocks_Out kind x_10 (n_6 : Int)).bind fun r_11 => (lazarettoref03_Valid x_9 r_11).bind fun r_12 => if r_12 = true then (some (.inl (n_6 + 1))) else (some (.inr (.inl (false))))) else (some (.inr (.inr (()))))
def lazarettolaw11_BlocksValid_L1 (kind : Str) (r_1 : (List (A4 Int)) × Bool) (r_2 : (List Int)) : Nat → Option ((Nat) ⊕ (Bool ⊕ Unit))
  | i_3 => if (i_3 : Int) < (r_1.1.length : Int) then ((loop (lazarettolaw11_BlocksValid_L2 kind r_1 r_2 i_3) 0).bind (fun e__ => match e__ with | (.inl e_13) => some (.inr (.inl (e_13))) | (.inr ()) => some (.inl (i_3 + 1)))) else (some (.inr (.inr (()))))
def lazarettolaw11_BlocksValid (kind : Str) (l : List lazarettolaw11_Call) : Option Bool :=
  (lazarettolaw11_play kind l).bind fun r_1 => if r_1.2 = true then ((lazarettoref11_Outputs kind).bind fun r_2 => (loop (lazarettolaw11_BlocksValid_L1 kind r_1 r_2) 0).bind (fun e__ => match e__ with | (.inl e_14) => some e_14 | (.inr ()) => (lazarettolaw11_awake).bind fun r_15 => some r_15)) else ((lazarettolaw11_awake).bind fun r_16 => some r_16)
def lazarettolaw11_BlocksEdges_L1 (l : List lazarettolaw11_Call) (r_1 : (List (A4 Int)) × Bool) (r_2 : (List (A4 Int)) × Bool) : (Int × Nat) → Option ((Int × Nat) ⊕ (Bool ⊕ Unit))
  | (was_3, i_4) => if (i_4 : Int) < (r_1.1.length : Int) then ((l[i_4]?).bind fun x_7 => (lazarettoref03_Wrap 1 x_7.In.a0).bind fun r_8 => (r_1.1[i_4]?).bind fun x_9 => (blocks_Out ([82, 95, 84, 82, 73, 71] : Str) x_9 0).bind fun r_10 => (r_2.1[i_4]?).bind fun x_11 => (blocks_Out ([70, 95, 84, 82, 73, 71] : Str) x_11 0).bind fun r_12 => if r_8 = 1 then (if ((decide (r_10 = 1)) == (decide (was_3 = 0))) = true then (if r_8 = 0 then none else (if r_12 = 1 then (some (.inr (.inl (false)))) else (some (.inl (r_8, (i_4 + 1)))))) else (some (.inr (.inl (false))))) else (if r_10 = 1 then (some (.inr (.inl (false)))) else (if r_8 = 0 then (if ((decide (r_12 = 1)) == (decide (was_3 = 1))) = true then (some (.inl (r_8, (i_4 + 1)))) else (some (.inr (.inl (false))))) else (if r_12 = 1 then (some (.inr (.inl (false)))) else (some (.inl (r_8, (i_4 + 1)))))))) else (some (.inr (.inr (()))))
def lazarettolaw11_BlocksEdges (l : List lazarettolaw11_Call) : Option Bool :=
  (lazarettolaw11_play ([82, 95, 84, 82, 73, 71] : Str) l).bind fun r_1 => (lazarettolaw11_play ([70, 95, 84, 82, 73, 71] : Str) l).bind fun r_2 => if r_1.2 = true then (if r_2.2 = true then (if (r_1.1.length : Int) = (r_2.1.length : Int) then ((loop (lazarettolaw11_BlocksEdges_L1 l r_1 r_2) (0, 0)).bind (fun e__ => match e__ with | (.inl e_13) => some e_13 | (.inr ()) => (lazarettolaw11_awake).bind fun r_14 => some r_14)) else (some false)) else (some false)) else (some false)
end
theorem lazarettolaw11_play_ok {kind : Str} {l : List lazarettolaw11_Call} {r : (List (A4 Int)) × Bool} (h : lazarettolaw11_play kind l = some r) :
    Pu Try.prog 55 [.one (.str kind), .one (.sl (l.map e_lazarettolaw11_Call))] (.tup [.one (.sl (r.1.map (eA4 eI))), .one (.bool r.2)]) := by
  have F := trivial; have R := trivial
  refine pA Try.func55 ?_
  simp only [Try.f55]
  unfold lazarettolaw11_play at h
  refine bi h fun r_1 h hr_1 => ?_
  refine tt ?_
  repeat (first | (with_reducible intro _) | refine ⟨ss, ?_⟩)
  refine cS (lazarettoref11_Inputs_ok hr_1) ?_
  refine bi h fun e_11 h he_11 => ?_
  refine tt ?_
  repeat (first | (with_reducible intro _) | refine ⟨ss, ?_⟩)
  refine seed_L 8 4 (by simp [go_sem]) ?_
  refine lE (fun (s__ : Int × Int × Int × Int × (List (A4 Int)) × Int × Nat) (a__ : Nat) => match s__, a__ with | (s_2, s_3, s_4, s_5, out_7, now_8, i_10), v_6 => ⟨[(0, .one (.str kind)), (1, .one (.sl (l.map e_lazarettolaw11_Call))), (6, .one (.ref 0 0 0 0)), (7, .one (.int .i64 now_8)), (8, .one (.msl 1 v_6 0 out_7.length)), (9, .one (.int .i64 (r_1.length : Int))), (10, .one (.int .i64 (i_10 : Int)))], [.cells 0 4 [[.int .i64 s_2, .int .i64 s_3, .int .i64 s_4, .int .i64 s_5]], .cells v_6 4 (out_7.map (eA4 eI))]⟩) (fun (e__ : Int × Int × Int × Int × (List (A4 Int))) (b__ : Nat) => match e__, b__ with | (s_20, s_21, s_22, s_23, out_24), b12 => ⟨[(8, .one (.msl 1 b12 0 out_24.length)), (9, .one (.int .i64 (r_1.length : Int)))], [.cells 0 4 [[.int .i64 s_20, .int .i64 s_21, .int .i64 s_22, .int .i64 s_23]], .cells b12 4 (out_24.map (eA4 eI))]⟩) (fun (_ : Int × Int × Int × Int × (List (A4 Int))) => some 0) 0 he_11 ?_ ?_
  intro i12 b12 hi12
  obtain rfl := Option.some.inj hi12
  obtain ⟨s_20, s_21, s_22, s_23, out_24⟩ := e_11
  dsimp only at h ⊢
  cases h; exact fin
  intro af12 m12 s12 v_6 o12 hf12 ho12 ih12
  obtain ⟨s_2, s_3, s_4, s_5, out_7, now_8, i_10⟩ := s12
  dsimp only [lazarettolaw11_play_L1] at hf12 ⊢
  refine tt ?_
  repeat (first | (with_reducible intro _) | refine ⟨ss, ?_⟩)
  refine fl hf12 F (fun hf12 _ F => ?_) (fun hf12 _ F => ?_)
  refine fi hf12 F (fun hf12 _ F => ?_) (fun hf12 _ F => ?_)
  refine bx hf12 F fun x_13 hf12 hx_13 F => ?_
  refine nd hf12 F fun hf12 F => ?_
  have R := And.intro (show List.take r_1.length [[.int .i64 x_13.In.a0], [.int .i64 x_13.In.a1], [.int .i64 x_13.In.a2], [.int .i64 x_13.In.a3], [.int .i64 x_13.In.a4]] = List.map eI (List.take r_1.length [x_13.In.a0, x_13.In.a1, x_13.In.a2, x_13.In.a3, x_13.In.a4]) by simp [go_sem, List.map_take]) R
  refine tt ?_
  repeat (first | (with_reducible intro _) | refine ⟨ss, ?_⟩)
  refine fv hf12 F (fun hf12 _ F => ?_) (fun hf12 _ F => ?_)
  refine bi hf12 fun r_15 hf12 hr_15 => ?_
  refine tt ?_
  repeat (first | (with_reducible intro _) | refine ⟨ss, ?_⟩)
  refine cS (blocks_Step_ok hr_15) ?_
  refine nd hf12 F fun hf12 F => ?_
  cases hf12
  refine tt ?_
  repeat (first | (with_reducible intro _) | refine ⟨ss, ?_⟩)
  refine wn i_10 F fun F => ?_
  exact bk ih12 ho12 (v_6 + 1)
  refine nd hf12 F fun hf12 F => ?_
  refine bi hf12 fun r_18 hf12 hr_18 => ?_
  refine tt ?_
  repeat (first | (with_reducible intro _) | refine ⟨ss, ?_⟩)
  refine cF [2] (blocks_Step_ok hr_18) ?_
  refine nd hf12 F fun hf12 F => ?_
  cases hf12
  refine tt ?_
  repeat (first | (with_reducible intro _) | refine ⟨ss, ?_⟩)
  refine wn i_10 F fun F => ?_
  exact bk ih12 ho12 (v_6 + 1)
  cases hf12
  refine tt ?_
  exact xt ho12 af12 v_6
  cases hf12
  refine tt ?_
  exact xt ho12 af12 v_6
theorem lazarettoref03_Valid_ok {kind : Int} {n : Int} {r : Bool} (h : lazarettoref03_Valid kind n = some r) :
    Pu Try.prog 56 [.one (.int .i64 kind), .one (.int .i64 n)] (.one (.bool r)) := by
  have F := trivial; have R := trivial
  refine pA Try.func56 ?_
  simp only [Try.f56]
  unfold lazarettoref03_Valid at h
  refine fi h F (fun h _ F => ?_) (fun h _ F => ?_)
  refine fi h F (fun h _ F => ?_) (fun h _ F => ?_)
  cases h; exact fin
  cases h; exact fin
  refine bi h fun r_1 h hr_1 => ?_
  refine tt ?_
  repeat (first | (with_reducible intro _) | refine ⟨ss, ?_⟩)
  refine cS (lazarettoref03_Bits_ok hr_1) ?_
  refine fi h F (fun h _ F => ?_) (fun h _ F => ?_)
  refine bi h fun r_2 h hr_2 => ?_
  refine tt ?_
  repeat (first | (with_reducible intro _) | refine ⟨ss, ?_⟩)
  refine cS (lazarettoref03_half_ok hr_2) ?_
  refine fi h F (fun h _ F => ?_) (fun h _ F => ?_)
  refine bi h fun r_3 h hr_3 => ?_
  refine tt ?_
  repeat (first | (with_reducible intro _) | refine ⟨ss, ?_⟩)
  refine cS (lazarettoref03_half_ok hr_3) ?_
  cases h; exact fin
  cases h; exact fin
  cases h; exact fin
theorem lazarettolaw11_BlocksValid_ok {kind : Str} {l : List lazarettolaw11_Call} {r : Bool} (h : lazarettolaw11_BlocksValid kind l = some r) :
    Pu Try.prog 13 [.one (.str kind), .one (.sl (l.map e_lazarettolaw11_Call))] (.one (.bool r)) := by
  have F := trivial; have R := trivial
  refine pA Try.func13 ?_
  simp only [Try.f13]
  unfold lazarettolaw11_BlocksValid at h
  refine bi h fun r_1 h hr_1 => ?_
  refine tt ?_
  repeat (first | (with_reducible intro _) | refine ⟨ss, ?_⟩)
  refine cS (lazarettolaw11_play_ok hr_1) ?_
  refine tt ?_
  refine fv h F (fun h _ F => ?_) (fun h _ F => ?_)
  refine bi h fun r_2 h hr_2 => ?_
  refine tt ?_
  repeat (first | (with_reducible intro _) | refine ⟨ss, ?_⟩)
  refine cS (lazarettoref11_Outputs_ok hr_2) ?_
  refine bi h fun e_4 h he_4 => ?_
  refine tt ?_
  refine lE (fun (s__ : Nat) (a__ : Unit) => match s__, a__ with | i_3, _ => ⟨[(0, .one (.str kind)), (5, .one (.sl (r_1.1.map (eA4 eI)))), (7, .one (.sl (r_2.map eI))), (8, .one (.int .i64 (i_3 : Int)))], []⟩) (fun (e__ : Bool ⊕ Unit) (b__ : Unit) => match e__, b__ with | (.inl e_14), _ => ⟨[], []⟩ | (.inr ()), _ => ⟨[], []⟩) (fun (e__ : Bool ⊕ Unit) => match e__ with | (.inl _) => none | (.inr _) => some 0) () he_4 ?_ ?_
  intro i5 b5 hi5
  rcases e_4 with e_case | ⟨⟩
  cases hi5
  obtain rfl := Option.some.inj hi5
  obtain ⟨⟩ := b5
  dsimp only at h ⊢
  refine bi h fun r_15 h hr_15 => ?_
  refine tt ?_
  repeat (first | (with_reducible intro _) | refine ⟨ss, ?_⟩)
  refine cS (lazarettolaw11_awake_ok hr_15) ?_
  cases h; exact fin
  intro af5 m5 i_3 a5 o5 hf5 ho5 ih5
  obtain ⟨⟩ := a5
  dsimp only [lazarettolaw11_BlocksValid_L1] at hf5 ⊢
  refine tt ?_
  repeat (first | (with_reducible intro _) | refine ⟨ss, ?_⟩)
  refine fl hf5 F (fun hf5 _ F => ?_) (fun hf5 _ F => ?_)
  refine bi hf5 fun e_7 hf5 he_7 => ?_
  refine tt ?_
  refine lE (fun (s__ : Nat) (a__ : Unit) => match s__, a__ with | n_6, _ => ⟨[(0, .one (.str kind)), (5, .one (.sl (r_1.1.map (eA4 eI)))), (7, .one (.sl (r_2.map eI))), (8, .one (.int .i64 (i_3 : Int))), (9, .one (.int .i64 (n_6 : Int)))], []⟩) (fun (e__ : Bool ⊕ Unit) (b__ : Unit) => match e__, b__ with | (.inl e_13), _ => ⟨[], []⟩ | (.inr ()), _ => ⟨[(0, .one (.str kind)), (5, .one (.sl (r_1.1.map (eA4 eI)))), (7, .one (.sl (r_2.map eI))), (8, .one (.int .i64 (i_3 : Int)))], []⟩) (fun (e__ : Bool ⊕ Unit) => match e__ with | (.inl _) => none | (.inr _) => some 2) () he_7 ?_ ?_
  intro i8 b8 hi8
  rcases e_7 with e_case | ⟨⟩
  cases hi8
  obtain rfl := Option.some.inj hi8
  obtain ⟨⟩ := b8
  dsimp only at hf5 ⊢
  cases hf5
  refine tt ?_
  refine wn i_3 F fun F => ?_
  exact bk ih5 ho5 ()
  intro af8 m8 n_6 a8 o8 hf8 ho8 ih8
  obtain ⟨⟩ := a8
  dsimp only [lazarettolaw11_BlocksValid_L2] at hf8 ⊢
  refine tt ?_
  repeat (first | (with_reducible intro _) | refine ⟨ss, ?_⟩)
  refine fl hf8 F (fun hf8 _ F => ?_) (fun hf8 _ F => ?_)
  refine bx hf8 F fun x_9 hf8 hx_9 F => ?_
  refine bx hf8 F fun x_10 hf8 hx_10 F => ?_
  refine bi hf8 fun r_11 hf8 hr_11 => ?_
  refine tt ?_
  repeat (first | (with_reducible intro _) | refine ⟨ss, ?_⟩)
  refine cD (blocks_Out_ok hr_11) ?_
  refine bi hf8 fun r_12 hf8 hr_12 => ?_
  refine tt ?_
  repeat (first | (with_reducible intro _) | refine ⟨ss, ?_⟩)
  refine cD (lazarettoref03_Valid_ok hr_12) ?_
  refine tt ?_
  repeat (first | (with_reducible intro _) | refine ⟨ss, ?_⟩)
  refine fv hf8 F (fun hf8 _ F => ?_) (fun hf8 _ F => ?_)
  cases hf8
  refine tt ?_
  refine wn n_6 F fun F => ?_
  exact bk ih8 ho8 ()
  cases hf8
  obtain rfl := sr ho8
  try dsimp only at hf5
  cases hf5
  obtain rfl := sr ho5
  try dsimp only at h
  cases h
  exact fin
  cases hf8
  refine tt ?_
  exact xt ho8 af8 ()
  cases hf5
  refine tt ?_
  exact xt ho5 af5 ()
  refine bi h fun r_16 h hr_16 => ?_
  refine tt ?_
  repeat (first | (with_reducible intro _) | refine ⟨ss, ?_⟩)
  refine cS (lazarettolaw11_awake_ok hr_16) ?_
  cases h; exact fin
theorem lazarettolaw11_BlocksEdges_ok {l : List lazarettolaw11_Call} {r : Bool} (h : lazarettolaw11_BlocksEdges l = some r) :
    Pu Try.prog 15 [.one (.sl (l.map e_lazarettolaw11_Call))] (.one (.bool r)) := by
  have F := trivial; have R := trivial
  refine pA Try.func15 ?_
  simp only [Try.f15]
  unfold lazarettolaw11_BlocksEdges at h
  refine bi h fun r_1 h hr_1 => ?_
  refine tt ?_
  repeat (first | (with_reducible intro _) | refine ⟨ss, ?_⟩)
  refine cS (lazarettolaw11_play_ok hr_1) ?_
  refine bi h fun r_2 h hr_2 => ?_
  refine tt ?_
  repeat (first | (with_reducible intro _) | refine ⟨ss, ?_⟩)
  refine cS (lazarettolaw11_play_ok hr_2) ?_
  refine tt ?_
  refine fv h F (fun h _ F => ?_) (fun h _ F => ?_)
  refine fv h F (fun h _ F => ?_) (fun h _ F => ?_)
  refine tt ?_
  repeat (first | (with_reducible intro _) | refine ⟨ss, ?_⟩)
  refine fi h F (fun h _ F => ?_) (fun h _ F => ?_)
  refine bi h fun e_5 h he_5 => ?_
  refine tt ?_
  refine lE (fun (s__ : Int × Nat) (a__ : Unit) => match s__, a__ with | (was_3, i_4), _ => ⟨[(0, .one (.sl (l.map e_lazarettolaw11_Call))), (3, .one (.sl (r_1.1.map (eA4 eI)))), (5, .one (.sl (r_2.1.map (eA4 eI)))), (7, .one (.int .i64 was_3)), (8, .one (.int .i64 (i_4 : Int)))], []⟩) (fun (e__ : Bool ⊕ Unit) (b__ : Unit) => match e__, b__ with | (.inl e_13), _ => ⟨[], []⟩ | (.inr ()), _ => ⟨[], []⟩) (fun (e__ : Bool ⊕ Unit) => match e__ with | (.inl _) => none | (.inr _) => some 0) () he_5 ?_ ?_
  intro i6 b6 hi6
  rcases e_5 with e_case | ⟨⟩
  cases hi6
  obtain rfl := Option.some.inj hi6
  obtain ⟨⟩ := b6
  dsimp only at h ⊢
  refine bi h fun r_14 h hr_14 => ?_
  refine tt ?_
  repeat (first | (with_reducible intro _) | refine ⟨ss, ?_⟩)
  refine cS (lazarettolaw11_awake_ok hr_14) ?_
  cases h; exact fin
  intro af6 m6 s6 a6 o6 hf6 ho6 ih6
  obtain ⟨was_3, i_4⟩ := s6
  obtain ⟨⟩ := a6
  dsimp only [lazarettolaw11_BlocksEdges_L1] at hf6 ⊢
  refine tt ?_
  repeat (first | (with_reducible intro _) | refine ⟨ss, ?_⟩)
  refine fl hf6 F (fun hf6 _ F => ?_) (fun hf6 _ F => ?_)
  refine bx hf6 F fun x_7 hf6 hx_7 F => ?_
  refine bi hf6 fun r_8 hf6 hr_8 => ?_
  refine tt ?_
  repeat (first | (with_reducible intro _) | refine ⟨ss, ?_⟩)
  refine cS (lazarettoref03_Wrap_ok hr_8) ?_
  refine bx hf6 F fun x_9 hf6 hx_9 F => ?_
  refine bi hf6 fun r_10 hf6 hr_10 => ?_
  refine tt ?_
  repeat (first | (with_reducible intro _) | refine ⟨ss, ?_⟩)
  refine cD (blocks_Out_ok hr_10) ?_
  refine bx hf6 F fun x_11 hf6 hx_11 F => ?_
  refine bi hf6 fun r_12 hf6 hr_12 => ?_
  refine tt ?_
  repeat (first | (with_reducible intro _) | refine ⟨ss, ?_⟩)
  refine cD (blocks_Out_ok hr_12) ?_
  refine tt ?_
  repeat (first | (with_reducible intro _) | refine ⟨ss, ?_⟩)
  refine fi hf6 F (fun hf6 _ F => ?_) (fun hf6 _ F => ?_)
  refine fv hf6 F (fun hf6 _ F => ?_) (fun hf6 _ F => ?_)
  refine tt ?_
  refine fi hf6 F (fun hf6 _ F => ?_) (fun hf6 _ F => ?_)
  exact (by omega : False).elim
  refine fi hf6 F (fun hf6 _ F => ?_) (fun hf6 _ F => ?_)
  cases hf6
  obtain rfl := sr ho6
  try dsimp only at h
  cases h
  exact fin
  cases hf6
  refine tt ?_
  refine wn i_4 F fun F => ?_
  exact bk ih6 ho6 ()
  cases hf6
  obtain rfl := sr ho6
  try dsimp only at h
  cases h
  exact fin
  refine fi hf6 F (fun hf6 _ F => ?_) (fun hf6 _ F => ?_)
  cases hf6
  obtain rfl := sr ho6
  try dsimp only at h
  cases h
  exact fin
  refine tt ?_
  refine fi hf6 F (fun hf6 _ F => ?_) (fun hf6 _ F => ?_)
  refine fv hf6 F (fun hf6 _ F => ?_) (fun hf6 _ F => ?_)
  cases hf6
  refine tt ?_
  refine wn i_4 F fun F => ?_
  exact bk ih6 ho6 ()
  cases hf6
  obtain rfl := sr ho6
  try dsimp only at h
  cases h
  exact fin
  refine fi hf6 F (fun hf6 _ F => ?_) (fun hf6 _ F => ?_)
  cases hf6
  obtain rfl := sr ho6
  try dsimp only at h
  cases h
  exact fin
  cases hf6
  refine tt ?_
  refine wn i_4 F fun F => ?_
  exact bk ih6 ho6 ()
  cases hf6
  refine tt ?_
  exact xt ho6 af6 ()
  cases h; exact fin
  cases h; exact fin
  cases h; exact fin
end Go.Lz
