/- V11b -/
import Derived.Test.YtefnllpnodnimaaV11
namespace Go.Lz
set_option linter.unusedVariables false
set_option linter.unusedSimpArgs false
open Go.Proofs
attribute [-go_sem] q_cond g_b gd_b
set_option maxRecDepth 100000
set_option maxHeartbeats 4000000
noncomputable section
def lazarettolaw11_BlocksKinds (kind : Str) : Option Bool :=
  (blocks_Kinds).bind fun r_1 => (lazarettoref11_Kinds).bind fun r_2 => (lazarettoref09_Texts r_1 r_2).bind fun r_3 => if r_3 = true then ((blocks_Inputs kind).bind fun r_4 => (lazarettoref11_Inputs kind).bind fun r_5 => (lazarettoref04_Ints r_4 r_5).bind fun r_6 => if r_6 = true then ((blocks_Outputs kind).bind fun r_7 => (lazarettoref11_Outputs kind).bind fun r_8 => (lazarettoref04_Ints r_7 r_8).bind fun r_9 => if r_9 = true then ((lazarettolaw11_awake).bind fun r_10 => some r_10) else (some false)) else (some false)) else (some false)
def lazarettolaw11_BlocksTimers_L1 (pt : Int) (l : List lazarettolaw11_Call) : (Int × Int × Int × Int × Int × Int × Bool × Nat) → Option ((Int × Int × Int × Int × Int × Int × Bool × Nat) ⊕ (Bool ⊕ (Int × Int × Int × Int)))
  | (s_1, s_2, s_3, s_4, now_5, from_6, was_7, i_8) => if (i_8 : Int) < (l.length : Int) then (if (i_8 : Int) < 100 then ((l[i_8]?).bind fun x_11 => if x_11.In.a0 = 0 then ((blocks_Step ([84, 79, 78] : Str) (⟨s_1, s_2, s_3, s_4⟩ : A4 Int) [x_11.In.a0, (w64 ((IntKind.u64.wrap pt).tmod 5000))] (w64 (now_5 + (w64 ((IntKind.u64.wrap x_11.Later).tmod 1000))))).bind fun r_12 => (blocks_Out ([84, 79, 78] : Str) r_12 0).bind fun r_13 => (blocks_Out ([84, 79, 78] : Str) r_12 1).bind fun r_14 => if r_14 = 0 then (if r_13 = 1 then (some (.inr (.inl (false)))) else (some (.inl (r_12.a0, r_12.a1, r_12.a2, r_12.a3, (w64 (now_5 + (w64 ((IntKind.u64.wrap x_11.Later).tmod 1000)))), from_6, false, (i_8 + 1))))) else (some (.inr (.inl (false))))) else (if was_7 = true then ((blocks_Step ([84, 79, 78] : Str) (⟨s_1, s_2, s_3, s_4⟩ : A4 Int) [x_11.In.a0, (w64 ((IntKind.u64.wrap pt).tmod 5000))] (w64 (now_5 + (w64 ((IntKind.u64.wrap x_11.Later).tmod 1000))))).bind fun r_15 => (blocks_Out ([84, 79, 78] : Str) r_15 0).bind fun r_16 => (blocks_Out ([84, 79, 78] : Str) r_15 1).bind fun r_17 => if r_17 = (minI (w64 ((w64 (now_5 + (w64 ((IntKind.u64.wrap x_11.Later).tmod 1000)))) - from_6)) (w64 ((IntKind.u64.wrap pt).tmod 5000))) then (if ((decide (r_16 = 1)) == (decide ((w64 ((IntKind.u64.wrap pt).tmod 5000)) ≤ (w64 ((w64 (now_5 + (w64 ((IntKind.u64.wrap x_11.Later).tmod 1000)))) - from_6))))) = true then (some (.inl (r_15.a0, r_15.a1, r_15.a2, r_15.a3, (w64 (now_5 + (w64 ((IntKind.u64.wrap x_11.Later).tmod 1000)))), from_6, true, (i_8 + 1)))) else (some (.inr (.inl (false))))) else (some (.inr (.inl (false))))) else ((blocks_Step ([84, 79, 78] : Str) (⟨s_1, s_2, s_3, s_4⟩ : A4 Int) [x_11.In.a0, (w64 ((IntKind.u64.wrap pt).tmod 5000))] (w64 (now_5 + (w64 ((IntKind.u64.wrap x_11.Later).tmod 1000))))).bind fun r_18 => (blocks_Out ([84, 79, 78] : Str) r_18 0).bind fun r_19 => (blocks_Out ([84, 79, 78] : Str) r_18 1).bind fun r_20 => if r_20 = (minI (w64 ((w64 (now_5 + (w64 ((IntKind.u64.wrap x_11.Later).tmod 1000)))) - (w64 (now_5 + (w64 ((IntKind.u64.wrap x_11.Later).tmod 1000)))))) (w64 ((IntKind.u64.wrap pt).tmod 5000))) then (if ((decide (r_19 = 1)) == (decide ((w64 ((IntKind.u64.wrap pt).tmod 5000)) ≤ (w64 ((w64 (now_5 + (w64 ((IntKind.u64.wrap x_11.Later).tmod 1000)))) - (w64 (now_5 + (w64 ((IntKind.u64.wrap x_11.Later).tmod 1000))))))))) = true then (some (.inl (r_18.a0, r_18.a1, r_18.a2, r_18.a3, (w64 (now_5 + (w64 ((IntKind.u64.wrap x_11.Later).tmod 1000)))), (w64 (now_5 + (w64 ((IntKind.u64.wrap x_11.Later).tmod 1000)))), true, (i_8 + 1)))) else (some (.inr (.inl (false))))) else (some (.inr (.inl (false))))))) else (some (.inr (.inr ((s_1, s_2, s_3, s_4)))))) else (some (.inr (.inr ((s_1, s_2, s_3, s_4)))))
def lazarettolaw11_BlocksTimers (pt : Int) (l : List lazarettolaw11_Call) : Option Bool :=
  (loop (lazarettolaw11_BlocksTimers_L1 pt l) (0, 0, 0, 0, 0, 0, false, 0)).bind (fun e__ => match e__ with | (.inl e_21) => some e_21 | (.inr (s_22, s_23, s_24, s_25)) => (lazarettolaw11_awake).bind fun r_26 => some r_26)
def lazarettolaw11_BlocksCounts_L1 (pv : Int) (l : List lazarettolaw11_Call) : (Int × Int × Int × Int × Int × Int × Nat) → Option ((Int × Int × Int × Int × Int × Int × Nat) ⊕ (Bool ⊕ (Int × Int × Int × Int)))
  | (s_1, s_2, s_3, s_4, n_5, was_6, i_7) => if (i_7 : Int) < (l.length : Int) then (if (i_7 : Int) < 100 then ((l[i_7]?).bind fun x_10 => (lazarettoref03_Wrap 1 x_10.In.a0).bind fun r_11 => if x_10.In.a1 = 0 then (if r_11 = 1 then (if was_6 = 0 then ((blocks_Step ([67, 84, 85] : Str) (⟨s_1, s_2, s_3, s_4⟩ : A4 Int) [x_10.In.a0, x_10.In.a1, pv] 0).bind fun r_12 => (blocks_Out ([67, 84, 85] : Str) r_12 1).bind fun r_13 => if r_13 = (w64 (n_5 + 1)) then ((blocks_Out ([67, 84, 85] : Str) r_12 0).bind fun r_14 => (lazarettoref03_Wrap 2 pv).bind fun r_15 => if ((decide (r_14 = 1)) == (decide (r_15 ≤ (w64 (n_5 + 1))))) = true then (some (.inl (r_12.a0, r_12.a1, r_12.a2, r_12.a3, (w64 (n_5 + 1)), r_11, (i_7 + 1)))) else (some (.inr (.inl (false))))) else (some (.inr (.inl (false))))) else ((blocks_Step ([67, 84, 85] : Str) (⟨s_1, s_2, s_3, s_4⟩ : A4 Int) [x_10.In.a0, x_10.In.a1, pv] 0).bind fun r_16 => (blocks_Out ([67, 84, 85] : Str) r_16 1).bind fun r_17 => if r_17 = n_5 then ((blocks_Out ([67, 84, 85] : Str) r_16 0).bind fun r_18 => (lazarettoref03_Wrap 2 pv).bind fun r_19 => if ((decide (r_18 = 1)) == (decide (r_19 ≤ n_5))) = true then (some (.inl (r_16.a0, r_16.a1, r_16.a2, r_16.a3, n_5, r_11, (i_7 + 1)))) else (some (.inr (.inl (false))))) else (some (.inr (.inl (false)))))) else ((blocks_Step ([67, 84, 85] : Str) (⟨s_1, s_2, s_3, s_4⟩ : A4 Int) [x_10.In.a0, x_10.In.a1, pv] 0).bind fun r_20 => (blocks_Out ([67, 84, 85] : Str) r_20 1).bind fun r_21 => if r_21 = n_5 then ((blocks_Out ([67, 84, 85] : Str) r_20 0).bind fun r_22 => (lazarettoref03_Wrap 2 pv).bind fun r_23 => if ((decide (r_22 = 1)) == (decide (r_23 ≤ n_5))) = true then (some (.inl (r_20.a0, r_20.a1, r_20.a2, r_20.a3, n_5, r_11, (i_7 + 1)))) else (some (.inr (.inl (false))))) else (some (.inr (.inl (false)))))) else ((blocks_Step ([67, 84, 85] : Str) (⟨s_1, s_2, s_3, s_4⟩ : A4 Int) [x_10.In.a0, x_10.In.a1, pv] 0).bind fun r_24 => (blocks_Out ([67, 84, 85] : Str) r_24 1).bind fun r_25 => if r_25 = 0 then ((blocks_Out ([67, 84, 85] : Str) r_24 0).bind fun r_26 => (lazarettoref03_Wrap 2 pv).bind fun r_27 => if ((decide (r_26 = 1)) == (decide (r_27 ≤ 0))) = true then (some (.inl (r_24.a0, r_24.a1, r_24.a2, r_24.a3, 0, r_11, (i_7 + 1)))) else (some (.inr (.inl (false))))) else (some (.inr (.inl (false)))))) else (some (.inr (.inr ((s_1, s_2, s_3, s_4)))))) else (some (.inr (.inr ((s_1, s_2, s_3, s_4)))))
def lazarettolaw11_BlocksCounts (pv : Int) (l : List lazarettolaw11_Call) : Option Bool :=
  (loop (lazarettolaw11_BlocksCounts_L1 pv l) (0, 0, 0, 0, 0, 0, 0)).bind (fun e__ => match e__ with | (.inl e_28) => some e_28 | (.inr (s_29, s_30, s_31, s_32)) => (lazarettolaw11_awake).bind fun r_33 => some r_33)
end
theorem lazarettolaw11_BlocksKinds_ok {kind : Str} {r : Bool} (h : lazarettolaw11_BlocksKinds kind = some r) :
    Pu Try.prog 12 [.one (.str kind)] (.one (.bool r)) := by
  have F := trivial; have R := trivial
  refine pA Try.func12 ?_
  simp only [Try.f12]
  unfold lazarettolaw11_BlocksKinds at h
  refine bi h fun r_1 h hr_1 => ?_
  refine tt ?_
  repeat (first | (with_reducible intro _) | refine ⟨ss, ?_⟩)
  refine cS (blocks_Kinds_ok hr_1) ?_
  refine bi h fun r_2 h hr_2 => ?_
  refine tt ?_
  repeat (first | (with_reducible intro _) | refine ⟨ss, ?_⟩)
  refine cS (lazarettoref11_Kinds_ok hr_2) ?_
  refine bi h fun r_3 h hr_3 => ?_
  refine tt ?_
  repeat (first | (with_reducible intro _) | refine ⟨ss, ?_⟩)
  refine cS (lazarettoref09_Texts_ok hr_3) ?_
  refine fv h F (fun h _ F => ?_) (fun h _ F => ?_)
  refine bi h fun r_4 h hr_4 => ?_
  refine tt ?_
  repeat (first | (with_reducible intro _) | refine ⟨ss, ?_⟩)
  refine cS (blocks_Inputs_ok hr_4) ?_
  refine bi h fun r_5 h hr_5 => ?_
  refine tt ?_
  repeat (first | (with_reducible intro _) | refine ⟨ss, ?_⟩)
  refine cS (lazarettoref11_Inputs_ok hr_5) ?_
  refine bi h fun r_6 h hr_6 => ?_
  refine tt ?_
  repeat (first | (with_reducible intro _) | refine ⟨ss, ?_⟩)
  refine cS (lazarettoref04_Ints_ok hr_6) ?_
  refine fv h F (fun h _ F => ?_) (fun h _ F => ?_)
  refine bi h fun r_7 h hr_7 => ?_
  refine tt ?_
  repeat (first | (with_reducible intro _) | refine ⟨ss, ?_⟩)
  refine cS (blocks_Outputs_ok hr_7) ?_
  refine bi h fun r_8 h hr_8 => ?_
  refine tt ?_
  repeat (first | (with_reducible intro _) | refine ⟨ss, ?_⟩)
  refine cS (lazarettoref11_Outputs_ok hr_8) ?_
  refine bi h fun r_9 h hr_9 => ?_
  refine tt ?_
  repeat (first | (with_reducible intro _) | refine ⟨ss, ?_⟩)
  refine cS (lazarettoref04_Ints_ok hr_9) ?_
  refine fv h F (fun h _ F => ?_) (fun h _ F => ?_)
  refine bi h fun r_10 h hr_10 => ?_
  refine tt ?_
  repeat (first | (with_reducible intro _) | refine ⟨ss, ?_⟩)
  refine cS (lazarettolaw11_awake_ok hr_10) ?_
  cases h; exact fin
  cases h; exact fin
  cases h; exact fin
  cases h; exact fin
theorem lazarettolaw11_BlocksTimers_ok {pt : Int} {l : List lazarettolaw11_Call} {r : Bool} (h : lazarettolaw11_BlocksTimers pt l = some r) :
    Pu Try.prog 14 [.one (.int .i64 pt), .one (.sl (l.map e_lazarettolaw11_Call))] (.one (.bool r)) := by
  have F := trivial; have R := trivial
  refine pA Try.func14 ?_
  simp only [Try.f14]
  unfold lazarettolaw11_BlocksTimers at h
  refine bi h fun e_9 h he_9 => ?_
  refine tt ?_
  repeat (first | (with_reducible intro _) | refine ⟨ss, ?_⟩)
  refine lE (fun (s__ : Int × Int × Int × Int × Int × Int × Bool × Nat) (a__ : Unit) => match s__, a__ with | (s_1, s_2, s_3, s_4, now_5, from_6, was_7, i_8), _ => ⟨[(0, .one (.int .i64 (w64 ((IntKind.u64.wrap pt).tmod 5000)))), (1, .one (.sl (l.map e_lazarettolaw11_Call))), (5, .one (.ref 0 0 0 0)), (6, .one (.int .i64 now_5)), (7, .one (.int .i64 from_6)), (8, .one (.bool was_7)), (9, .one (.int .i64 (i_8 : Int)))], [.cells 0 4 [[.int .i64 s_1, .int .i64 s_2, .int .i64 s_3, .int .i64 s_4]]]⟩) (fun (e__ : Bool ⊕ (Int × Int × Int × Int)) (b__ : Unit) => match e__, b__ with | (.inl e_21), _ => ⟨[], []⟩ | (.inr (s_22, s_23, s_24, s_25)), _ => ⟨[], [.cells 0 4 [[.int .i64 s_22, .int .i64 s_23, .int .i64 s_24, .int .i64 s_25]]]⟩) (fun (e__ : Bool ⊕ (Int × Int × Int × Int)) => match e__ with | (.inl _) => none | (.inr _) => some 0) () he_9 ?_ ?_
  intro i10 b10 hi10
  rcases e_9 with e_case | ⟨s_22, s_23, s_24, s_25⟩
  cases hi10
  obtain rfl := Option.some.inj hi10
  obtain ⟨⟩ := b10
  dsimp only at h ⊢
  refine bi h fun r_26 h hr_26 => ?_
  refine tt ?_
  repeat (first | (with_reducible intro _) | refine ⟨ss, ?_⟩)
  refine cS (lazarettolaw11_awake_ok hr_26) ?_
  cases h; exact fin
  intro af10 m10 s10 a10 o10 hf10 ho10 ih10
  obtain ⟨s_1, s_2, s_3, s_4, now_5, from_6, was_7, i_8⟩ := s10
  obtain ⟨⟩ := a10
  dsimp only [lazarettolaw11_BlocksTimers_L1] at hf10 ⊢
  refine tt ?_
  repeat (first | (with_reducible intro _) | refine ⟨ss, ?_⟩)
  refine fl hf10 F (fun hf10 _ F => ?_) (fun hf10 _ F => ?_)
  refine fi hf10 F (fun hf10 _ F => ?_) (fun hf10 _ F => ?_)
  refine bx hf10 F fun x_11 hf10 hx_11 F => ?_
  refine tt ?_
  repeat (first | (with_reducible intro _) | refine ⟨ss, ?_⟩)
  refine fi hf10 F (fun hf10 _ F => ?_) (fun hf10 _ F => ?_)
  refine bi hf10 fun r_12 hf10 hr_12 => ?_
  refine tt ?_
  repeat (first | (with_reducible intro _) | refine ⟨ss, ?_⟩)
  refine cD (blocks_Step_ok hr_12) ?_
  refine bi hf10 fun r_13 hf10 hr_13 => ?_
  refine tt ?_
  repeat (first | (with_reducible intro _) | refine ⟨ss, ?_⟩)
  refine cD (blocks_Out_ok hr_13) ?_
  refine bi hf10 fun r_14 hf10 hr_14 => ?_
  refine tt ?_
  repeat (first | (with_reducible intro _) | refine ⟨ss, ?_⟩)
  refine cD (blocks_Out_ok hr_14) ?_
  refine tt ?_
  repeat (first | (with_reducible intro _) | refine ⟨ss, ?_⟩)
  refine fi hf10 F (fun hf10 _ F => ?_) (fun hf10 _ F => ?_)
  refine tt ?_
  refine fi hf10 F (fun hf10 _ F => ?_) (fun hf10 _ F => ?_)
  cases hf10
  obtain rfl := sr ho10
  try dsimp only at h
  cases h
  exact fin
  cases hf10
  refine tt ?_
  refine wn i_8 F fun F => ?_
  exact bk ih10 ho10 ()
  cases hf10
  obtain rfl := sr ho10
  try dsimp only at h
  cases h
  exact fin
  refine fv hf10 F (fun hf10 _ F => ?_) (fun hf10 _ F => ?_)
  refine bi hf10 fun r_15 hf10 hr_15 => ?_
  refine tt ?_
  repeat (first | (with_reducible intro _) | refine ⟨ss, ?_⟩)
  refine cD (blocks_Step_ok hr_15) ?_
  refine bi hf10 fun r_16 hf10 hr_16 => ?_
  refine tt ?_
  repeat (first | (with_reducible intro _) | refine ⟨ss, ?_⟩)
  refine cD (blocks_Out_ok hr_16) ?_
  refine bi hf10 fun r_17 hf10 hr_17 => ?_
  refine tt ?_
  repeat (first | (with_reducible intro _) | refine ⟨ss, ?_⟩)
  refine cD (blocks_Out_ok hr_17) ?_
  refine tt ?_
  repeat (first | (with_reducible intro _) | refine ⟨ss, ?_⟩)
  refine fi hf10 F (fun hf10 _ F => ?_) (fun hf10 _ F => ?_)
  refine tt ?_
  refine fv hf10 F (fun hf10 _ F => ?_) (fun hf10 _ F => ?_)
  cases hf10
  refine tt ?_
  refine wn i_8 F fun F => ?_
  exact bk ih10 ho10 ()
  cases hf10
  obtain rfl := sr ho10
  try dsimp only at h
  cases h
  exact fin
  cases hf10
  obtain rfl := sr ho10
  try dsimp only at h
  cases h
  exact fin
  refine bi hf10 fun r_18 hf10 hr_18 => ?_
  refine tt ?_
  repeat (first | (with_reducible intro _) | refine ⟨ss, ?_⟩)
  refine cD (blocks_Step_ok hr_18) ?_
  refine bi hf10 fun r_19 hf10 hr_19 => ?_
  refine tt ?_
  repeat (first | (with_reducible intro _) | refine ⟨ss, ?_⟩)
  refine cD (blocks_Out_ok hr_19) ?_
  refine bi hf10 fun r_20 hf10 hr_20 => ?_
  refine tt ?_
  repeat (first | (with_reducible intro _) | refine ⟨ss, ?_⟩)
  refine cD (blocks_Out_ok hr_20) ?_
  refine tt ?_
  repeat (first | (with_reducible intro _) | refine ⟨ss, ?_⟩)
  refine fi hf10 F (fun hf10 _ F => ?_) (fun hf10 _ F => ?_)
  refine tt ?_
  refine fv hf10 F (fun hf10 _ F => ?_) (fun hf10 _ F => ?_)
  cases hf10
  refine tt ?_
  refine wn i_8 F fun F => ?_
  exact bk ih10 ho10 ()
  cases hf10
  obtain rfl := sr ho10
  try dsimp only at h
  cases h
  exact fin
  cases hf10
  obtain rfl := sr ho10
  try dsimp only at h
  cases h
  exact fin
  cases hf10
  refine tt ?_
  exact xt ho10 af10 ()
  cases hf10
  refine tt ?_
  exact xt ho10 af10 ()
theorem lazarettolaw11_BlocksCounts_ok {pv : Int} {l : List lazarettolaw11_Call} {r : Bool} (h : lazarettolaw11_BlocksCounts pv l = some r) :
    Pu Try.prog 16 [.one (.int .i64 pv), .one (.sl (l.map e_lazarettolaw11_Call))] (.one (.bool r)) := by
  have F := trivial; have R := trivial
  refine pA Try.func16 ?_
  simp only [Try.f16]
  unfold lazarettolaw11_BlocksCounts at h
  refine bi h fun e_8 h he_8 => ?_
  refine tt ?_
  refine lE (fun (s__ : Int × Int × Int × Int × Int × Int × Nat) (a__ : Unit) => match s__, a__ with | (s_1, s_2, s_3, s_4, n_5, was_6, i_7), _ => ⟨[(0, .one (.int .i64 pv)), (1, .one (.sl (l.map e_lazarettolaw11_Call))), (5, .one (.ref 0 0 0 0)), (6, .one (.int .i64 n_5)), (7, .one (.int .i64 was_6)), (8, .one (.int .i64 (i_7 : Int)))], [.cells 0 4 [[.int .i64 s_1, .int .i64 s_2, .int .i64 s_3, .int .i64 s_4]]]⟩) (fun (e__ : Bool ⊕ (Int × Int × Int × Int)) (b__ : Unit) => match e__, b__ with | (.inl e_28), _ => ⟨[], []⟩ | (.inr (s_29, s_30, s_31, s_32)), _ => ⟨[], [.cells 0 4 [[.int .i64 s_29, .int .i64 s_30, .int .i64 s_31, .int .i64 s_32]]]⟩) (fun (e__ : Bool ⊕ (Int × Int × Int × Int)) => match e__ with | (.inl _) => none | (.inr _) => some 0) () he_8 ?_ ?_
  intro i9 b9 hi9
  rcases e_8 with e_case | ⟨s_29, s_30, s_31, s_32⟩
  cases hi9
  obtain rfl := Option.some.inj hi9
  obtain ⟨⟩ := b9
  dsimp only at h ⊢
  refine bi h fun r_33 h hr_33 => ?_
  refine tt ?_
  repeat (first | (with_reducible intro _) | refine ⟨ss, ?_⟩)
  refine cS (lazarettolaw11_awake_ok hr_33) ?_
  cases h; exact fin
  intro af9 m9 s9 a9 o9 hf9 ho9 ih9
  obtain ⟨s_1, s_2, s_3, s_4, n_5, was_6, i_7⟩ := s9
  obtain ⟨⟩ := a9
  dsimp only [lazarettolaw11_BlocksCounts_L1] at hf9 ⊢
  refine tt ?_
  repeat (first | (with_reducible intro _) | refine ⟨ss, ?_⟩)
  refine fl hf9 F (fun hf9 _ F => ?_) (fun hf9 _ F => ?_)
  refine fi hf9 F (fun hf9 _ F => ?_) (fun hf9 _ F => ?_)
  refine bx hf9 F fun x_10 hf9 hx_10 F => ?_
  refine bi hf9 fun r_11 hf9 hr_11 => ?_
  refine tt ?_
  repeat (first | (with_reducible intro _) | refine ⟨ss, ?_⟩)
  refine cD (lazarettoref03_Wrap_ok hr_11) ?_
  refine tt ?_
  repeat (first | (with_reducible intro _) | refine ⟨ss, ?_⟩)
  refine fi hf9 F (fun hf9 _ F => ?_) (fun hf9 _ F => ?_)
  refine fi hf9 F (fun hf9 _ F => ?_) (fun hf9 _ F => ?_)
  refine fi hf9 F (fun hf9 _ F => ?_) (fun hf9 _ F => ?_)
  refine bi hf9 fun r_12 hf9 hr_12 => ?_
  refine tt ?_
  repeat (first | (with_reducible intro _) | refine ⟨ss, ?_⟩)
  refine cD (blocks_Step_ok hr_12) ?_
  refine bi hf9 fun r_13 hf9 hr_13 => ?_
  refine tt ?_
  repeat (first | (with_reducible intro _) | refine ⟨ss, ?_⟩)
  refine cS (blocks_Out_ok hr_13) ?_
  refine fi hf9 F (fun hf9 _ F => ?_) (fun hf9 _ F => ?_)
  refine bi hf9 fun r_14 hf9 hr_14 => ?_
  refine tt ?_
  repeat (first | (with_reducible intro _) | refine ⟨ss, ?_⟩)
  refine cS (blocks_Out_ok hr_14) ?_
  refine bi hf9 fun r_15 hf9 hr_15 => ?_
  refine tt ?_
  repeat (first | (with_reducible intro _) | refine ⟨ss, ?_⟩)
  refine cS (lazarettoref03_Wrap_ok hr_15) ?_
  refine fv hf9 F (fun hf9 _ F => ?_) (fun hf9 _ F => ?_)
  cases hf9
  refine tt ?_
  refine wn i_7 F fun F => ?_
  exact bk ih9 ho9 ()
  cases hf9
  obtain rfl := sr ho9
  try dsimp only at h
  cases h
  exact fin
  cases hf9
  obtain rfl := sr ho9
  try dsimp only at h
  cases h
  exact fin
  refine bi hf9 fun r_16 hf9 hr_16 => ?_
  refine tt ?_
  repeat (first | (with_reducible intro _) | refine ⟨ss, ?_⟩)
  refine cD (blocks_Step_ok hr_16) ?_
  refine bi hf9 fun r_17 hf9 hr_17 => ?_
  refine tt ?_
  repeat (first | (with_reducible intro _) | refine ⟨ss, ?_⟩)
  refine cS (blocks_Out_ok hr_17) ?_
  refine fi hf9 F (fun hf9 _ F => ?_) (fun hf9 _ F => ?_)
  refine bi hf9 fun r_18 hf9 hr_18 => ?_
  refine tt ?_
  repeat (first | (with_reducible intro _) | refine ⟨ss, ?_⟩)
  refine cS (blocks_Out_ok hr_18) ?_
  refine bi hf9 fun r_19 hf9 hr_19 => ?_
  refine tt ?_
  repeat (first | (with_reducible intro _) | refine ⟨ss, ?_⟩)
  refine cS (lazarettoref03_Wrap_ok hr_19) ?_
  refine fv hf9 F (fun hf9 _ F => ?_) (fun hf9 _ F => ?_)
  cases hf9
  refine tt ?_
  refine wn i_7 F fun F => ?_
  exact bk ih9 ho9 ()
  cases hf9
  obtain rfl := sr ho9
  try dsimp only at h
  cases h
  exact fin
  cases hf9
  obtain rfl := sr ho9
  try dsimp only at h
  cases h
  exact fin
  refine bi hf9 fun r_20 hf9 hr_20 => ?_
  refine tt ?_
  repeat (first | (with_reducible intro _) | refine ⟨ss, ?_⟩)
  refine cD (blocks_Step_ok hr_20) ?_
  refine bi hf9 fun r_21 hf9 hr_21 => ?_
  refine tt ?_
  repeat (first | (with_reducible intro _) | refine ⟨ss, ?_⟩)
  refine cS (blocks_Out_ok hr_21) ?_
  refine fi hf9 F (fun hf9 _ F => ?_) (fun hf9 _ F => ?_)
  refine bi hf9 fun r_22 hf9 hr_22 => ?_
  refine tt ?_
  repeat (first | (with_reducible intro _) | refine ⟨ss, ?_⟩)
  refine cS (blocks_Out_ok hr_22) ?_
  refine bi hf9 fun r_23 hf9 hr_23 => ?_
  refine tt ?_
  repeat (first | (with_reducible intro _) | refine ⟨ss, ?_⟩)
  refine cS (lazarettoref03_Wrap_ok hr_23) ?_
  refine fv hf9 F (fun hf9 _ F => ?_) (fun hf9 _ F => ?_)
  cases hf9
  refine tt ?_
  refine wn i_7 F fun F => ?_
  exact bk ih9 ho9 ()
  cases hf9
  obtain rfl := sr ho9
  try dsimp only at h
  cases h
  exact fin
  cases hf9
  obtain rfl := sr ho9
  try dsimp only at h
  cases h
  exact fin
  refine bi hf9 fun r_24 hf9 hr_24 => ?_
  refine tt ?_
  repeat (first | (with_reducible intro _) | refine ⟨ss, ?_⟩)
  refine cD (blocks_Step_ok hr_24) ?_
  refine bi hf9 fun r_25 hf9 hr_25 => ?_
  refine tt ?_
  repeat (first | (with_reducible intro _) | refine ⟨ss, ?_⟩)
  refine cS (blocks_Out_ok hr_25) ?_
  refine fi hf9 F (fun hf9 _ F => ?_) (fun hf9 _ F => ?_)
  refine bi hf9 fun r_26 hf9 hr_26 => ?_
  refine tt ?_
  repeat (first | (with_reducible intro _) | refine ⟨ss, ?_⟩)
  refine cS (blocks_Out_ok hr_26) ?_
  refine bi hf9 fun r_27 hf9 hr_27 => ?_
  refine tt ?_
  repeat (first | (with_reducible intro _) | refine ⟨ss, ?_⟩)
  refine cS (lazarettoref03_Wrap_ok hr_27) ?_
  refine fv hf9 F (fun hf9 _ F => ?_) (fun hf9 _ F => ?_)
  cases hf9
  refine tt ?_
  refine wn i_7 F fun F => ?_
  exact bk ih9 ho9 ()
  cases hf9
  obtain rfl := sr ho9
  try dsimp only at h
  cases h
  exact fin
  cases hf9
  obtain rfl := sr ho9
  try dsimp only at h
  cases h
  exact fin
  cases hf9
  refine tt ?_
  exact xt ho9 af9 ()
  cases hf9
  refine tt ?_
  exact xt ho9 af9 ()
end Go.Lz
