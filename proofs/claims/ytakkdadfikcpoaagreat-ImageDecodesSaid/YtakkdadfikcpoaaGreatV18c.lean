/- V18c -/
import Derived.Test.YtakkdadfikcpoaaGreatV18b
namespace Go.Lz
set_option linter.unusedVariables false
set_option linter.unusedSimpArgs false
open Go.Proofs
attribute [-go_sem] q_cond g_b gd_b
set_option maxRecDepth 100000
set_option maxHeartbeats 4000000
noncomputable section
def image_reader_num (r__s : Str) (r__bad : Bool) : Option (Int × Str × Bool) :=
  if r__bad = true then (some (0, r__s, true)) else (if (r__s.length : Int) < 4 then (some (0, r__s, (decide ((r__s.length : Int) < 4)))) else ((code_Back r__s).bind fun r_1 => need (0 ≤ 4 ∧ 4 ≤ (r__s.length : Int) ∧ (r__s.length : Int) ≤ r__s.length) (some (r_1, (r__s.drop 4), (decide ((r__s.length : Int) < 4))))))
def image_reader_count (r__s : Str) (r__bad : Bool) (most : Int) : Option (Int × Str × Bool) :=
  (image_reader_num r__s r__bad).bind fun r_1 => if r_1.1 < 0 then (some (0, r_1.2.1, true)) else (if most < r_1.1 then (some (0, r_1.2.1, true)) else (if r_1.2.2 = true then (some (0, r_1.2.1, r_1.2.2)) else (some (r_1.1, r_1.2.1, r_1.2.2))))
def image_reader_text (r__s : Str) (r__bad : Bool) : Option (Str × Str × Bool) :=
  (image_reader_count r__s r__bad 32).bind fun r_1 => need (r_1.1 ≤ 9223372036854775807) (if r_1.2.2 = true then (some ([], r_1.2.1, true)) else (if (r_1.2.1.length : Int) < r_1.1 then (some ([], r_1.2.1, (decide ((r_1.2.1.length : Int) < r_1.1)))) else (need (0 ≤ 0 ∧ 0 ≤ r_1.1 ∧ r_1.1 ≤ r_1.2.1.length) (need (0 ≤ r_1.1 ∧ r_1.1 ≤ (r_1.2.1.length : Int) ∧ (r_1.2.1.length : Int) ≤ r_1.2.1.length) (some ((r_1.2.1.take r_1.1.toNat), (r_1.2.1.drop r_1.1.toNat), (decide ((r_1.2.1.length : Int) < r_1.1))))))))
def image_Decode_L8 (xs_107 : List api_Task) : (Str × (List (List api_Ins)) × Nat) → Option ((Str × (List (List api_Ins)) × Nat) ⊕ ((api_Image × Int) ⊕ (Str × (List (List api_Ins)))))
  | (s_108, xs_110, x_111) => if (x_111 : Int) < (xs_107.length : Int) then ((code_Read s_108).bind fun r_114 => if r_114.2.2 = true then (need (0 ≤ r_114.2.1 ∧ r_114.2.1 ≤ (s_108.length : Int) ∧ (s_108.length : Int) ≤ s_108.length) (need ((xs_110.length + 1) * 24 ≤ 140737488355328) (some (.inl ((s_108.drop r_114.2.1.toNat), (xs_110 ++ [r_114.1]), (x_111 + 1)))))) else (some (.inr (.inl (((⟨(⟨[], []⟩ : api_Lattice), [], [], [], [], []⟩ : api_Image), 8)))))) else (some (.inr (.inr ((s_108, xs_110)))))
def image_Decode_L7 (xs_16 : List Str) : (Str × Bool × (List Int) × Nat) → Option ((Str × Bool × (List Int) × Nat) ⊕ (Str × Bool × (List Int)))
  | (s_92, s_93, xs_95, x_96) => if (x_96 : Int) < (xs_16.length : Int) then ((image_reader_num s_92 s_93).bind fun r_99 => need ((xs_95.length + 1) * 8 ≤ 140737488355328) (some (.inl (r_99.2.1, r_99.2.2, (xs_95 ++ [r_99.1]), (x_96 + 1))))) else (some (.inr ((s_92, s_93, xs_95))))
def image_Decode_L6 (xs_16 : List Str) (r_81 : Int × Str × Bool) : (Str × Bool × (List api_Task) × Nat) → Option ((Str × Bool × (List api_Task) × Nat) ⊕ (Str × Bool × (List api_Task)))
  | (s_83, s_84, xs_86, x_87) => if (x_87 : Int) < r_81.1 then ((image_reader_num s_83 s_84).bind fun r_90 => (image_reader_num r_90.2.1 r_90.2.2).bind fun r_91 => (loop (image_Decode_L7 xs_16) (r_91.2.1, r_91.2.2, [], 0)).bind (fun (s_101, s_102, xs_103) => need ((xs_86.length + 1) * 64 ≤ 140737488355328) (some (.inl (s_101, s_102, (xs_86 ++ [(⟨r_90.1, r_91.1, xs_103, []⟩ : api_Task)]), (x_87 + 1)))))) else (some (.inr ((s_83, s_84, xs_86))))
def image_Decode_L5 (r_66 : Int × Str × Bool) : (Str × Bool × (List api_Block) × Nat) → Option ((Str × Bool × (List api_Block) × Nat) ⊕ (Str × Bool × (List api_Block)))
  | (s_68, s_69, xs_71, x_72) => if (x_72 : Int) < r_66.1 then ((image_reader_text s_68 s_69).bind fun r_75 => (image_reader_num r_75.2.1 r_75.2.2).bind fun r_76 => need ((xs_71.length + 1) * 40 ≤ 140737488355328) (some (.inl (r_76.2.1, r_76.2.2, (xs_71 ++ [(⟨[], r_75.1, r_76.1⟩ : api_Block)]), (x_72 + 1))))) else (some (.inr ((s_68, s_69, xs_71))))
def image_Decode_L4 (r_47 : Int × Str × Bool) : (Str × Bool × (List api_Var) × Nat) → Option ((Str × Bool × (List api_Var) × Nat) ⊕ (Str × Bool × (List api_Var)))
  | (s_49, s_50, xs_52, x_53) => if (x_53 : Int) < r_47.1 then ((image_reader_num s_49 s_50).bind fun r_56 => (image_reader_num r_56.2.1 r_56.2.2).bind fun r_57 => (image_reader_num r_57.2.1 r_57.2.2).bind fun r_58 => (image_reader_num r_58.2.1 r_58.2.2).bind fun r_59 => (image_reader_num r_59.2.1 r_59.2.2).bind fun r_60 => (image_reader_num r_60.2.1 r_60.2.2).bind fun r_61 => need ((xs_52.length + 1) * 64 ≤ 140737488355328) (some (.inl (r_61.2.1, r_61.2.2, (xs_52 ++ [(⟨[], (⟨r_56.1, r_57.1, r_58.1⟩ : api_Type), r_59.1, r_60.1, r_61.1⟩ : api_Var)]), (x_53 + 1))))) else (some (.inr ((s_49, s_50, xs_52))))
def image_Decode_L3 (r_32 : Int × Str × Bool) : (Str × Bool × (List api_Site) × Nat) → Option ((Str × Bool × (List api_Site) × Nat) ⊕ (Str × Bool × (List api_Site)))
  | (s_34, s_35, xs_37, x_38) => if (x_38 : Int) < r_32.1 then ((image_reader_num s_34 s_35).bind fun r_41 => (image_reader_num r_41.2.1 r_41.2.2).bind fun r_42 => need ((xs_37.length + 1) * 32 ≤ 140737488355328) (some (.inl (r_42.2.1, r_42.2.2, (xs_37 ++ [(⟨[], r_41.1, r_42.1⟩ : api_Site)]), (x_38 + 1))))) else (some (.inr ((s_34, s_35, xs_37))))
def image_Decode_L2 (r_17 : Int × Str × Bool) : (Str × Bool × (List (A2 Int)) × Nat) → Option ((Str × Bool × (List (A2 Int)) × Nat) ⊕ (Str × Bool × (List (A2 Int))))
  | (s_19, s_20, xs_22, x_23) => if (x_23 : Int) < r_17.1 then ((image_reader_num s_19 s_20).bind fun r_26 => (image_reader_num r_26.2.1 r_26.2.2).bind fun r_27 => need ((xs_22.length + 1) * 16 ≤ 140737488355328) (some (.inl (r_27.2.1, r_27.2.2, (xs_22 ++ [(⟨r_26.1, r_27.1⟩ : A2 Int)]), (x_23 + 1))))) else (some (.inr ((s_19, s_20, xs_22))))
def image_Decode_L1 (r_3 : Int × Str × Bool) : (Str × Bool × (List Str) × Nat) → Option ((Str × Bool × (List Str) × Nat) ⊕ (Str × Bool × (List Str)))
  | (s_5, s_6, xs_8, x_9) => if (x_9 : Int) < r_3.1 then ((image_reader_text s_5 s_6).bind fun r_12 => need ((xs_8.length + 1) * 16 ≤ 140737488355328) (some (.inl (r_12.2.1, r_12.2.2, (xs_8 ++ [r_12.1]), (x_9 + 1))))) else (some (.inr ((s_5, s_6, xs_8))))
def image_Decode (s : Str) : Option (api_Image × Int) :=
  if (s.length : Int) < 4 then (some ((⟨(⟨[], []⟩ : api_Lattice), [], [], [], [], []⟩ : api_Image), 8)) else (need (0 ≤ 0 ∧ 0 ≤ 4 ∧ 4 ≤ s.length) (if (s.take 4) = ([76, 90, 82, 49] : Str) then (need (0 ≤ 4 ∧ 4 ≤ (s.length : Int) ∧ (s.length : Int) ≤ s.length) ((image_reader_count (s.drop 4) false 8).bind fun r_3 => need (r_3.1 ≤ 9223372036854775807) ((loop (image_Decode_L1 r_3) (r_3.2.1, r_3.2.2, [], 0)).bind (fun (s_14, s_15, xs_16) => (image_reader_count s_14 s_15 64).bind fun r_17 => need (r_17.1 ≤ 9223372036854775807) ((loop (image_Decode_L2 r_17) (r_17.2.1, r_17.2.2, [], 0)).bind (fun (s_29, s_30, xs_31) => (image_reader_count s_29 s_30 8).bind fun r_32 => need (r_32.1 ≤ 9223372036854775807) ((loop (image_Decode_L3 r_32) (r_32.2.1, r_32.2.2, [], 0)).bind (fun (s_44, s_45, xs_46) => (image_reader_count s_44 s_45 96).bind fun r_47 => need (r_47.1 ≤ 9223372036854775807) ((loop (image_Decode_L4 r_47) (r_47.2.1, r_47.2.2, [], 0)).bind (fun (s_63, s_64, xs_65) => (image_reader_count s_63 s_64 12).bind fun r_66 => need (r_66.1 ≤ 9223372036854775807) ((loop (image_Decode_L5 r_66) (r_66.2.1, r_66.2.2, [], 0)).bind (fun (s_78, s_79, xs_80) => (image_reader_count s_78 s_79 4).bind fun r_81 => need (r_81.1 ≤ 9223372036854775807) ((loop (image_Decode_L6 xs_16 r_81) (r_81.2.1, r_81.2.2, [], 0)).bind (fun (s_105, s_106, xs_107) => (loop (image_Decode_L8 xs_107) (s_105, [], 0)).bind (fun e__ => match e__ with | (.inl e_117) => some e_117 | (.inr (s_118, xs_119)) => if s_106 = true then (some ((⟨(⟨[], []⟩ : api_Lattice), [], [], [], [], []⟩ : api_Image), 8)) else (if s_118 = [] then ((image_Check (⟨(⟨xs_16, xs_31⟩ : api_Lattice), xs_46, xs_65, xs_80, xs_107, xs_119⟩ : api_Image)).bind fun r_120 => if r_120 = 0 then (some ((⟨(⟨xs_16, xs_31⟩ : api_Lattice), xs_46, xs_65, xs_80, xs_107, xs_119⟩ : api_Image), 0)) else (some ((⟨(⟨[], []⟩ : api_Lattice), [], [], [], [], []⟩ : api_Image), 8))) else (some ((⟨(⟨[], []⟩ : api_Lattice), [], [], [], [], []⟩ : api_Image), 8)))))))))))))))))) else (some ((⟨(⟨[], []⟩ : api_Lattice), [], [], [], [], []⟩ : api_Image), 8))))
end
theorem image_reader_num_st {r__s : Str} {r__bad : Bool} {v0 : Nat} {r : Int × Str × Bool} (h : image_reader_num r__s r__bad = some r) :
    Ct Tryz.prog 68 [.one (.ref 0 v0 0 0)] [.cells v0 2 [[.str r__s, .bool r__bad]]] (fun x__ H__ => x__ = .one (.int .i64 r.1) ∧ H__ = [.cells v0 2 [[.str r.2.1, .bool r.2.2]]]) := by
  have F := trivial; have R := trivial
  refine pAL Tryz.func68 ?_
  simp only [Tryz.f68]
  unfold image_reader_num at h
  refine tt ?_
  refine fv h F (fun h _ F => ?_) (fun h _ F => ?_)
  cases h; exact fin
  refine tt ?_
  repeat (first | (with_reducible intro _) | (with_reducible refine and_i ?_ ?_; exact ss))
  refine fi h F (fun h _ F => ?_) (fun h _ F => ?_)
  cases h; exact fin
  refine bi h fun r_1 h hr_1 => ?_
  refine tt ?_
  repeat (first | (with_reducible intro _) | (with_reducible refine and_i ?_ ?_; exact ss))
  refine cS (code_Back_ok hr_1) ?_
  refine nd h F fun h F => ?_
  cases h; exact fin
theorem image_reader_count_st {r__s : Str} {r__bad : Bool} {most : Int} {v0 : Nat} {r : Int × Str × Bool} (h : image_reader_count r__s r__bad most = some r) :
    Ct Tryz.prog 66 [.one (.ref 0 v0 0 0), .one (.int .i64 most)] [.cells v0 2 [[.str r__s, .bool r__bad]]] (fun x__ H__ => x__ = .one (.int .i64 r.1) ∧ H__ = [.cells v0 2 [[.str r.2.1, .bool r.2.2]]]) := by
  have F := trivial; have R := trivial
  refine pAL Tryz.func66 ?_
  simp only [Tryz.f66]
  unfold image_reader_count at h
  refine tt ?_
  repeat (first | (with_reducible intro _) | (with_reducible refine and_i ?_ ?_; exact ss))
  refine bi h fun r_1 h hr_1 => ?_
  refine cLS [0] (.one (.int .i64 r_1.1)) [.cells v0 2 [[.str r_1.2.1, .bool r_1.2.2]]] (image_reader_num_st (v0 := v0) hr_1) ?_
  refine fi h F (fun h _ F => ?_) (fun h _ F => ?_)
  cases h; exact fin
  refine tt ?_
  refine fi h F (fun h _ F => ?_) (fun h _ F => ?_)
  cases h; exact fin
  refine fv h F (fun h _ F => ?_) (fun h _ F => ?_)
  cases h; exact fin
  cases h; exact fin
theorem image_reader_text_st {r__s : Str} {r__bad : Bool} {v0 : Nat} {r : Str × Str × Bool} (h : image_reader_text r__s r__bad = some r) :
    Ct Tryz.prog 67 [.one (.ref 0 v0 0 0)] [.cells v0 2 [[.str r__s, .bool r__bad]]] (fun x__ H__ => x__ = .one (.str r.1) ∧ H__ = [.cells v0 2 [[.str r.2.1, .bool r.2.2]]]) := by
  have F := trivial; have R := trivial
  refine pAL Tryz.func67 ?_
  simp only [Tryz.f67]
  unfold image_reader_text at h
  refine tt ?_
  repeat (first | (with_reducible intro _) | (with_reducible refine and_i ?_ ?_; exact ss))
  refine bi h fun r_1 h hr_1 => ?_
  refine cLS [0] (.one (.int .i64 r_1.1)) [.cells v0 2 [[.str r_1.2.1, .bool r_1.2.2]]] (image_reader_count_st (v0 := v0) hr_1) ?_
  refine nd h F fun h F => ?_
  refine tt ?_
  refine fv h F (fun h _ F => ?_) (fun h _ F => ?_)
  cases h; exact fin
  refine tt ?_
  repeat (first | (with_reducible intro _) | (with_reducible refine and_i ?_ ?_; exact ss))
  refine fi h F (fun h _ F => ?_) (fun h _ F => ?_)
  cases h; exact fin
  refine nd h F fun h F => ?_
  refine nd h F fun h F => ?_
  cases h; exact fin
theorem image_Decode_ok {s : Str} {r : api_Image × Int} (h : image_Decode s = some r) :
    Pu Tryz.prog 11 [.one (.str s)] (.tup [.agg (e_api_Image r.1), .one (.int .i64 r.2)]) := by
  have F := trivial; have R := trivial
  refine pA Tryz.func11 ?_
  simp only [Tryz.f11]
  unfold image_Decode at h
  refine tt ?_
  repeat (first | (with_reducible intro _) | (with_reducible refine and_i ?_ ?_; exact ss))
  refine fi h F (fun h _ F => ?_) (fun h _ F => ?_)
  cases h; exact fin
  refine nd h F fun h F => ?_
  refine tt ?_
  repeat (first | (with_reducible intro _) | (with_reducible refine and_i ?_ ?_; exact ss))
  refine fi h F (fun h _ F => ?_) (fun h _ F => ?_)
  refine nd h F fun h F => ?_
  refine tt ?_
  repeat (first | (with_reducible intro _) | (with_reducible refine and_i ?_ ?_; exact ss))
  refine iS Tryz.func25 ?_
  simp only [Tryz.f25]
  refine tt ?_
  repeat (first | (with_reducible intro _) | (with_reducible refine and_i ?_ ?_; exact ss))
  refine bi h fun r_3 h hr_3 => ?_
  refine cLS [1] (.one (.int .i64 r_3.1)) [.cells 0 7 [[.slf [], .slf [], .slf [], .slf [], .slf [], .slf [], .slf []]], .cells 0 2 [[.str r_3.2.1, .bool r_3.2.2]], .cells 0 7 [[.slf [], .slf [], .slf [], .slf [], .slf [], .slf [], .slf []]]] (image_reader_count_st (v0 := 0) hr_3) ?_
  refine nd h F fun h F => ?_
  refine bi h fun e_10 h he_10 => ?_
  refine tt ?_
  refine seed_C 2 0 1 (by rfl) (by rfl) ?_
  refine lE (fun (s__ : Str × Bool × (List Str) × Nat) (a__ : Nat) => match s__, a__ with | (s_5, s_6, xs_8, x_9), v_7 => ⟨[(0, .one (.ref 1 0 0 0)), (2, .one (.ref 2 0 0 0)), (9, .one (.int .i64 r_3.1)), (10, .one (.int .i64 (x_9 : Int)))], [.cells 0 7 [[.slf [], .slf [], .slf [], .slf [], .slf [], .slf [], .slf []]], .cells 0 2 [[.str s_5, .bool s_6]], .cells 0 7 [[.msl 3 v_7 0 xs_8.length, .slf [], .slf [], .slf [], .slf [], .slf [], .slf []]], .cells v_7 1 (xs_8.map eS)]⟩) (fun (e__ : Str × Bool × (List Str)) (b__ : Nat) => match e__, b__ with | (s_14, s_15, xs_16), b11 => ⟨[(0, .one (.ref 1 0 0 0)), (2, .one (.ref 2 0 0 0))], [.cells 0 7 [[.slf [], .slf [], .slf [], .slf [], .slf [], .slf [], .slf []]], .cells 0 2 [[.str s_14, .bool s_15]], .cells 0 7 [[.msl 3 b11 0 xs_16.length, .slf [], .slf [], .slf [], .slf [], .slf [], .slf []]], .cells b11 1 (xs_16.map eS)]⟩) (fun (_ : Str × Bool × (List Str)) => some 0) 0 he_10 ?_ ?_
  intro i11 b11 hi11
  obtain rfl := Option.some.inj hi11
  obtain ⟨s_14, s_15, xs_16⟩ := e_10
  dsimp only at h ⊢
  refine tt ?_
  repeat (first | (with_reducible intro _) | (with_reducible refine and_i ?_ ?_; exact ss))
  refine bi h fun r_17 h hr_17 => ?_
  refine cLS [1] (.one (.int .i64 r_17.1)) [.cells 0 7 [[.slf [], .slf [], .slf [], .slf [], .slf [], .slf [], .slf []]], .cells 0 2 [[.str r_17.2.1, .bool r_17.2.2]], .cells 0 7 [[.msl 3 b11 0 xs_16.length, .slf [], .slf [], .slf [], .slf [], .slf [], .slf []]], .cells b11 1 (xs_16.map eS)] (image_reader_count_st (v0 := 0) hr_17) ?_
  refine nd h F fun h F => ?_
  refine bi h fun e_24 h he_24 => ?_
  refine tt ?_
  refine seed_C 2 1 2 (by rfl) (by rfl) ?_
  refine lE (fun (s__ : Str × Bool × (List (A2 Int)) × Nat) (a__ : Nat) => match s__, a__ with | (s_19, s_20, xs_22, x_23), v_21 => ⟨[(0, .one (.ref 1 0 0 0)), (2, .one (.ref 2 0 0 0)), (23, .one (.int .i64 r_17.1)), (24, .one (.int .i64 (x_23 : Int)))], [.cells 0 7 [[.slf [], .slf [], .slf [], .slf [], .slf [], .slf [], .slf []]], .cells 0 2 [[.str s_19, .bool s_20]], .cells 0 7 [[.msl 3 b11 0 xs_16.length, .msl 4 v_21 0 xs_22.length, .slf [], .slf [], .slf [], .slf [], .slf []]], .cells b11 1 (xs_16.map eS), .cells v_21 2 (xs_22.map (eA2 eI))]⟩) (fun (e__ : Str × Bool × (List (A2 Int))) (b__ : Nat) => match e__, b__ with | (s_29, s_30, xs_31), b25 => ⟨[(0, .one (.ref 1 0 0 0)), (2, .one (.ref 2 0 0 0))], [.cells 0 7 [[.slf [], .slf [], .slf [], .slf [], .slf [], .slf [], .slf []]], .cells 0 2 [[.str s_29, .bool s_30]], .cells 0 7 [[.msl 3 b11 0 xs_16.length, .msl 4 b25 0 xs_31.length, .slf [], .slf [], .slf [], .slf [], .slf []]], .cells b11 1 (xs_16.map eS), .cells b25 2 (xs_31.map (eA2 eI))]⟩) (fun (_ : Str × Bool × (List (A2 Int))) => some 2) 0 he_24 ?_ ?_
  intro i25 b25 hi25
  obtain rfl := Option.some.inj hi25
  obtain ⟨s_29, s_30, xs_31⟩ := e_24
  dsimp only at h ⊢
  refine tt ?_
  repeat (first | (with_reducible intro _) | (with_reducible refine and_i ?_ ?_; exact ss))
  refine bi h fun r_32 h hr_32 => ?_
  refine cLS [1] (.one (.int .i64 r_32.1)) [.cells 0 7 [[.slf [], .slf [], .slf [], .slf [], .slf [], .slf [], .slf []]], .cells 0 2 [[.str r_32.2.1, .bool r_32.2.2]], .cells 0 7 [[.msl 3 b11 0 xs_16.length, .msl 4 b25 0 xs_31.length, .slf [], .slf [], .slf [], .slf [], .slf []]], .cells b11 1 (xs_16.map eS), .cells b25 2 (xs_31.map (eA2 eI))] (image_reader_count_st (v0 := 0) hr_32) ?_
  refine nd h F fun h F => ?_
  refine bi h fun e_39 h he_39 => ?_
  refine tt ?_
  refine seed_C 2 2 3 (by rfl) (by rfl) ?_
  refine lE (fun (s__ : Str × Bool × (List api_Site) × Nat) (a__ : Nat) => match s__, a__ with | (s_34, s_35, xs_37, x_38), v_36 => ⟨[(0, .one (.ref 1 0 0 0)), (2, .one (.ref 2 0 0 0)), (40, .one (.int .i64 r_32.1)), (41, .one (.int .i64 (x_38 : Int)))], [.cells 0 7 [[.slf [], .slf [], .slf [], .slf [], .slf [], .slf [], .slf []]], .cells 0 2 [[.str s_34, .bool s_35]], .cells 0 7 [[.msl 3 b11 0 xs_16.length, .msl 4 b25 0 xs_31.length, .msl 5 v_36 0 xs_37.length, .slf [], .slf [], .slf [], .slf []]], .cells b11 1 (xs_16.map eS), .cells b25 2 (xs_31.map (eA2 eI)), .cells v_36 3 (xs_37.map e_api_Site)]⟩) (fun (e__ : Str × Bool × (List api_Site)) (b__ : Nat) => match e__, b__ with | (s_44, s_45, xs_46), b40 => ⟨[(0, .one (.ref 1 0 0 0)), (2, .one (.ref 2 0 0 0))], [.cells 0 7 [[.slf [], .slf [], .slf [], .slf [], .slf [], .slf [], .slf []]], .cells 0 2 [[.str s_44, .bool s_45]], .cells 0 7 [[.msl 3 b11 0 xs_16.length, .msl 4 b25 0 xs_31.length, .msl 5 b40 0 xs_46.length, .slf [], .slf [], .slf [], .slf []]], .cells b11 1 (xs_16.map eS), .cells b25 2 (xs_31.map (eA2 eI)), .cells b40 3 (xs_46.map e_api_Site)]⟩) (fun (_ : Str × Bool × (List api_Site)) => some 4) 0 he_39 ?_ ?_
  intro i40 b40 hi40
  obtain rfl := Option.some.inj hi40
  obtain ⟨s_44, s_45, xs_46⟩ := e_39
  dsimp only at h ⊢
  refine tt ?_
  repeat (first | (with_reducible intro _) | (with_reducible refine and_i ?_ ?_; exact ss))
  refine bi h fun r_47 h hr_47 => ?_
  refine cLS [1] (.one (.int .i64 r_47.1)) [.cells 0 7 [[.slf [], .slf [], .slf [], .slf [], .slf [], .slf [], .slf []]], .cells 0 2 [[.str r_47.2.1, .bool r_47.2.2]], .cells 0 7 [[.msl 3 b11 0 xs_16.length, .msl 4 b25 0 xs_31.length, .msl 5 b40 0 xs_46.length, .slf [], .slf [], .slf [], .slf []]], .cells b11 1 (xs_16.map eS), .cells b25 2 (xs_31.map (eA2 eI)), .cells b40 3 (xs_46.map e_api_Site)] (image_reader_count_st (v0 := 0) hr_47) ?_
  refine nd h F fun h F => ?_
  refine bi h fun e_54 h he_54 => ?_
  refine tt ?_
  refine seed_C 2 3 7 (by rfl) (by rfl) ?_
  refine lE (fun (s__ : Str × Bool × (List api_Var) × Nat) (a__ : Nat) => match s__, a__ with | (s_49, s_50, xs_52, x_53), v_51 => ⟨[(0, .one (.ref 1 0 0 0)), (2, .one (.ref 2 0 0 0)), (55, .one (.int .i64 r_47.1)), (56, .one (.int .i64 (x_53 : Int)))], [.cells 0 7 [[.slf [], .slf [], .slf [], .slf [], .slf [], .slf [], .slf []]], .cells 0 2 [[.str s_49, .bool s_50]], .cells 0 7 [[.msl 3 b11 0 xs_16.length, .msl 4 b25 0 xs_31.length, .msl 5 b40 0 xs_46.length, .msl 6 v_51 0 xs_52.length, .slf [], .slf [], .slf []]], .cells b11 1 (xs_16.map eS), .cells b25 2 (xs_31.map (eA2 eI)), .cells b40 3 (xs_46.map e_api_Site), .cells v_51 7 (xs_52.map e_api_Var)]⟩) (fun (e__ : Str × Bool × (List api_Var)) (b__ : Nat) => match e__, b__ with | (s_63, s_64, xs_65), b55 => ⟨[(0, .one (.ref 1 0 0 0)), (2, .one (.ref 2 0 0 0))], [.cells 0 7 [[.slf [], .slf [], .slf [], .slf [], .slf [], .slf [], .slf []]], .cells 0 2 [[.str s_63, .bool s_64]], .cells 0 7 [[.msl 3 b11 0 xs_16.length, .msl 4 b25 0 xs_31.length, .msl 5 b40 0 xs_46.length, .msl 6 b55 0 xs_65.length, .slf [], .slf [], .slf []]], .cells b11 1 (xs_16.map eS), .cells b25 2 (xs_31.map (eA2 eI)), .cells b40 3 (xs_46.map e_api_Site), .cells b55 7 (xs_65.map e_api_Var)]⟩) (fun (_ : Str × Bool × (List api_Var)) => some 6) 0 he_54 ?_ ?_
  intro i55 b55 hi55
  obtain rfl := Option.some.inj hi55
  obtain ⟨s_63, s_64, xs_65⟩ := e_54
  dsimp only at h ⊢
  refine tt ?_
  repeat (first | (with_reducible intro _) | (with_reducible refine and_i ?_ ?_; exact ss))
  refine bi h fun r_66 h hr_66 => ?_
  refine cLS [1] (.one (.int .i64 r_66.1)) [.cells 0 7 [[.slf [], .slf [], .slf [], .slf [], .slf [], .slf [], .slf []]], .cells 0 2 [[.str r_66.2.1, .bool r_66.2.2]], .cells 0 7 [[.msl 3 b11 0 xs_16.length, .msl 4 b25 0 xs_31.length, .msl 5 b40 0 xs_46.length, .msl 6 b55 0 xs_65.length, .slf [], .slf [], .slf []]], .cells b11 1 (xs_16.map eS), .cells b25 2 (xs_31.map (eA2 eI)), .cells b40 3 (xs_46.map e_api_Site), .cells b55 7 (xs_65.map e_api_Var)] (image_reader_count_st (v0 := 0) hr_66) ?_
  refine nd h F fun h F => ?_
  refine bi h fun e_73 h he_73 => ?_
  refine tt ?_
  refine seed_C 2 4 3 (by rfl) (by rfl) ?_
  refine lE (fun (s__ : Str × Bool × (List api_Block) × Nat) (a__ : Nat) => match s__, a__ with | (s_68, s_69, xs_71, x_72), v_70 => ⟨[(0, .one (.ref 1 0 0 0)), (2, .one (.ref 2 0 0 0)), (80, .one (.int .i64 r_66.1)), (81, .one (.int .i64 (x_72 : Int)))], [.cells 0 7 [[.slf [], .slf [], .slf [], .slf [], .slf [], .slf [], .slf []]], .cells 0 2 [[.str s_68, .bool s_69]], .cells 0 7 [[.msl 3 b11 0 xs_16.length, .msl 4 b25 0 xs_31.length, .msl 5 b40 0 xs_46.length, .msl 6 b55 0 xs_65.length, .msl 7 v_70 0 xs_71.length, .slf [], .slf []]], .cells b11 1 (xs_16.map eS), .cells b25 2 (xs_31.map (eA2 eI)), .cells b40 3 (xs_46.map e_api_Site), .cells b55 7 (xs_65.map e_api_Var), .cells v_70 3 (xs_71.map e_api_Block)]⟩) (fun (e__ : Str × Bool × (List api_Block)) (b__ : Nat) => match e__, b__ with | (s_78, s_79, xs_80), b74 => ⟨[(0, .one (.ref 1 0 0 0)), (2, .one (.ref 2 0 0 0))], [.cells 0 7 [[.slf [], .slf [], .slf [], .slf [], .slf [], .slf [], .slf []]], .cells 0 2 [[.str s_78, .bool s_79]], .cells 0 7 [[.msl 3 b11 0 xs_16.length, .msl 4 b25 0 xs_31.length, .msl 5 b40 0 xs_46.length, .msl 6 b55 0 xs_65.length, .msl 7 b74 0 xs_80.length, .slf [], .slf []]], .cells b11 1 (xs_16.map eS), .cells b25 2 (xs_31.map (eA2 eI)), .cells b40 3 (xs_46.map e_api_Site), .cells b55 7 (xs_65.map e_api_Var), .cells b74 3 (xs_80.map e_api_Block)]⟩) (fun (_ : Str × Bool × (List api_Block)) => some 8) 0 he_73 ?_ ?_
  intro i74 b74 hi74
  obtain rfl := Option.some.inj hi74
  obtain ⟨s_78, s_79, xs_80⟩ := e_73
  dsimp only at h ⊢
  refine tt ?_
  repeat (first | (with_reducible intro _) | (with_reducible refine and_i ?_ ?_; exact ss))
  refine bi h fun r_81 h hr_81 => ?_
  refine cLS [1] (.one (.int .i64 r_81.1)) [.cells 0 7 [[.slf [], .slf [], .slf [], .slf [], .slf [], .slf [], .slf []]], .cells 0 2 [[.str r_81.2.1, .bool r_81.2.2]], .cells 0 7 [[.msl 3 b11 0 xs_16.length, .msl 4 b25 0 xs_31.length, .msl 5 b40 0 xs_46.length, .msl 6 b55 0 xs_65.length, .msl 7 b74 0 xs_80.length, .slf [], .slf []]], .cells b11 1 (xs_16.map eS), .cells b25 2 (xs_31.map (eA2 eI)), .cells b40 3 (xs_46.map e_api_Site), .cells b55 7 (xs_65.map e_api_Var), .cells b74 3 (xs_80.map e_api_Block)] (image_reader_count_st (v0 := 0) hr_81) ?_
  refine nd h F fun h F => ?_
  refine bi h fun e_88 h he_88 => ?_
  refine tt ?_
  refine seed_C 2 5 4 (by rfl) (by rfl) ?_
  refine lE (fun (s__ : Str × Bool × (List api_Task) × Nat) (a__ : Nat) => match s__, a__ with | (s_83, s_84, xs_86, x_87), v_85 => ⟨[(0, .one (.ref 1 0 0 0)), (2, .one (.ref 2 0 0 0)), (95, .one (.int .i64 r_81.1)), (96, .one (.int .i64 (x_87 : Int)))], [.cells 0 7 [[.slf [], .slf [], .slf [], .slf [], .slf [], .slf [], .slf []]], .cells 0 2 [[.str s_83, .bool s_84]], .cells 0 7 [[.msl 3 b11 0 xs_16.length, .msl 4 b25 0 xs_31.length, .msl 5 b40 0 xs_46.length, .msl 6 b55 0 xs_65.length, .msl 7 b74 0 xs_80.length, .msl 8 v_85 0 xs_86.length, .slf []]], .cells b11 1 (xs_16.map eS), .cells b25 2 (xs_31.map (eA2 eI)), .cells b40 3 (xs_46.map e_api_Site), .cells b55 7 (xs_65.map e_api_Var), .cells b74 3 (xs_80.map e_api_Block), .cells v_85 4 (xs_86.map e_api_Task)]⟩) (fun (e__ : Str × Bool × (List api_Task)) (b__ : Nat) => match e__, b__ with | (s_105, s_106, xs_107), b89 => ⟨[(0, .one (.ref 1 0 0 0)), (2, .one (.ref 2 0 0 0))], [.cells 0 7 [[.slf [], .slf [], .slf [], .slf [], .slf [], .slf [], .slf []]], .cells 0 2 [[.str s_105, .bool s_106]], .cells 0 7 [[.msl 3 b11 0 xs_16.length, .msl 4 b25 0 xs_31.length, .msl 5 b40 0 xs_46.length, .msl 6 b55 0 xs_65.length, .msl 7 b74 0 xs_80.length, .msl 8 b89 0 xs_107.length, .slf []]], .cells b11 1 (xs_16.map eS), .cells b25 2 (xs_31.map (eA2 eI)), .cells b40 3 (xs_46.map e_api_Site), .cells b55 7 (xs_65.map e_api_Var), .cells b74 3 (xs_80.map e_api_Block), .cells b89 4 (xs_107.map e_api_Task)]⟩) (fun (_ : Str × Bool × (List api_Task)) => some 10) 0 he_88 ?_ ?_
  intro i89 b89 hi89
  obtain rfl := Option.some.inj hi89
  obtain ⟨s_105, s_106, xs_107⟩ := e_88
  dsimp only at h ⊢
  refine bi h fun e_112 h he_112 => ?_
  refine tt ?_
  repeat (first | (with_reducible intro _) | (with_reducible refine and_i ?_ ?_; exact ss))
  refine seed_C 2 6 1 (by rfl) (by rfl) ?_
  refine lE (fun (s__ : Str × (List (List api_Ins)) × Nat) (a__ : Nat) => match s__, a__ with | (s_108, xs_110, x_111), v_109 => ⟨[(0, .one (.ref 1 0 0 0)), (2, .one (.ref 2 0 0 0)), (126, .one (.int .i64 (xs_107.length : Int))), (127, .one (.int .i64 (x_111 : Int)))], [.cells 0 7 [[.slf [], .slf [], .slf [], .slf [], .slf [], .slf [], .slf []]], .cells 0 2 [[.str s_108, .bool s_106]], .cells 0 7 [[.msl 3 b11 0 xs_16.length, .msl 4 b25 0 xs_31.length, .msl 5 b40 0 xs_46.length, .msl 6 b55 0 xs_65.length, .msl 7 b74 0 xs_80.length, .msl 8 b89 0 xs_107.length, .msl 9 v_109 0 xs_110.length]], .cells b11 1 (xs_16.map eS), .cells b25 2 (xs_31.map (eA2 eI)), .cells b40 3 (xs_46.map e_api_Site), .cells b55 7 (xs_65.map e_api_Var), .cells b74 3 (xs_80.map e_api_Block), .cells b89 4 (xs_107.map e_api_Task), .cells v_109 1 (xs_110.map (eL e_api_Ins))]⟩) (fun (e__ : (api_Image × Int) ⊕ (Str × (List (List api_Ins)))) (b__ : Nat) => match e__, b__ with | (.inl e_117), _ => ⟨[], []⟩ | (.inr (s_118, xs_119)), b113 => ⟨[(2, .one (.ref 2 0 0 0))], [.cells 0 7 [[.slf [], .slf [], .slf [], .slf [], .slf [], .slf [], .slf []]], .cells 0 2 [[.str s_118, .bool s_106]], .cells 0 7 [[.msl 3 b11 0 xs_16.length, .msl 4 b25 0 xs_31.length, .msl 5 b40 0 xs_46.length, .msl 6 b55 0 xs_65.length, .msl 7 b74 0 xs_80.length, .msl 8 b89 0 xs_107.length, .msl 9 b113 0 xs_119.length]], .cells b11 1 (xs_16.map eS), .cells b25 2 (xs_31.map (eA2 eI)), .cells b40 3 (xs_46.map e_api_Site), .cells b55 7 (xs_65.map e_api_Var), .cells b74 3 (xs_80.map e_api_Block), .cells b89 4 (xs_107.map e_api_Task), .cells b113 1 (xs_119.map (eL e_api_Ins))]⟩) (fun (e__ : (api_Image × Int) ⊕ (Str × (List (List api_Ins)))) => match e__ with | (.inl _) => none | (.inr _) => some 14) 0 he_112 ?_ ?_
  intro i113 b113 hi113
  rcases e_112 with e_case | ⟨s_118, xs_119⟩
  cases hi113
  obtain rfl := Option.some.inj hi113
  dsimp only at h ⊢
  refine tt ?_
  refine fv h F (fun h _ F => ?_) (fun h _ F => ?_)
  cases h; exact fin
  refine tt ?_
  refine fi h F (fun h _ F => ?_) (fun h _ F => ?_)
  refine bi h fun r_120 h hr_120 => ?_
  refine tt ?_
  repeat (first | (with_reducible intro _) | (with_reducible refine and_i ?_ ?_; exact ss))
  refine cS (image_Check_ok hr_120) ?_
  refine fi h F (fun h _ F => ?_) (fun h _ F => ?_)
  cases h; exact fin
  cases h; exact fin
  cases h; exact fin
  intro af113 m113 s113 v_109 o113 hf113 ho113 ih113
  obtain ⟨s_108, xs_110, x_111⟩ := s113
  dsimp only [image_Decode_L8] at hf113 ⊢
  refine fl hf113 F (fun hf113 _ F => ?_) (fun hf113 _ F => ?_)
  refine bi hf113 fun r_114 hf113 hr_114 => ?_
  refine tt ?_
  repeat (first | (with_reducible intro _) | (with_reducible refine and_i ?_ ?_; exact ss))
  refine cS (code_Read_ok hr_114) ?_
  refine tt ?_
  refine fv hf113 F (fun hf113 _ F => ?_) (fun hf113 _ F => ?_)
  refine nd hf113 F fun hf113 F => ?_
  refine nd hf113 F fun hf113 F => ?_
  cases hf113
  refine tt ?_
  repeat (first | (with_reducible intro _) | (with_reducible refine and_i ?_ ?_; exact ss))
  refine wn x_111 F fun F => ?_
  exact bk ih113 ho113 (v_109 + 1)
  cases hf113
  obtain rfl := sr ho113
  try dsimp only at h
  cases h
  exact fin
  cases hf113
  refine tt ?_
  exact xt ho113 af113 v_109
  intro af89 m89 s89 v_85 o89 hf89 ho89 ih89
  obtain ⟨s_83, s_84, xs_86, x_87⟩ := s89
  dsimp only [image_Decode_L6] at hf89 ⊢
  refine fi hf89 F (fun hf89 _ F => ?_) (fun hf89 _ F => ?_)
  refine tt ?_
  repeat (first | (with_reducible intro _) | (with_reducible refine and_i ?_ ?_; exact ss))
  refine bi hf89 fun r_90 hf89 hr_90 => ?_
  refine cLS [1] (.one (.int .i64 r_90.1)) [.cells 0 7 [[.slf [], .slf [], .slf [], .slf [], .slf [], .slf [], .slf []]], .cells 0 2 [[.str r_90.2.1, .bool r_90.2.2]], .cells 0 7 [[.msl 3 b11 0 xs_16.length, .msl 4 b25 0 xs_31.length, .msl 5 b40 0 xs_46.length, .msl 6 b55 0 xs_65.length, .msl 7 b74 0 xs_80.length, .msl 8 v_85 0 xs_86.length, .slf []]], .cells b11 1 (xs_16.map eS), .cells b25 2 (xs_31.map (eA2 eI)), .cells b40 3 (xs_46.map e_api_Site), .cells b55 7 (xs_65.map e_api_Var), .cells b74 3 (xs_80.map e_api_Block), .cells v_85 4 (xs_86.map e_api_Task)] (image_reader_num_st (v0 := 0) hr_90) ?_
  refine tt ?_
  repeat (first | (with_reducible intro _) | (with_reducible refine and_i ?_ ?_; exact ss))
  refine bi hf89 fun r_91 hf89 hr_91 => ?_
  refine cLS [1] (.one (.int .i64 r_91.1)) [.cells 0 7 [[.slf [], .slf [], .slf [], .slf [], .slf [], .slf [], .slf []]], .cells 0 2 [[.str r_91.2.1, .bool r_91.2.2]], .cells 0 7 [[.msl 3 b11 0 xs_16.length, .msl 4 b25 0 xs_31.length, .msl 5 b40 0 xs_46.length, .msl 6 b55 0 xs_65.length, .msl 7 b74 0 xs_80.length, .msl 8 v_85 0 xs_86.length, .slf []]], .cells b11 1 (xs_16.map eS), .cells b25 2 (xs_31.map (eA2 eI)), .cells b40 3 (xs_46.map e_api_Site), .cells b55 7 (xs_65.map e_api_Var), .cells b74 3 (xs_80.map e_api_Block), .cells v_85 4 (xs_86.map e_api_Task)] (image_reader_num_st (v0 := 0) hr_91) ?_
  refine bi hf89 fun e_97 hf89 he_97 => ?_
  refine tt ?_
  repeat (first | (with_reducible intro _) | (with_reducible refine and_i ?_ ?_; exact ss))
  refine seed_C 9 2 1 (by rfl) (by rfl) ?_
  refine lE (fun (s__ : Str × Bool × (List Int) × Nat) (a__ : Nat) => match s__, a__ with | (s_92, s_93, xs_95, x_96), v_94 => ⟨[(0, .one (.ref 1 0 0 0)), (2, .one (.ref 2 0 0 0)), (4, .one (.ref 9 0 0 0)), (95, .one (.int .i64 r_81.1)), (96, .one (.int .i64 (x_87 : Int))), (106, .one (.int .i64 (xs_16.length : Int))), (107, .one (.int .i64 (x_96 : Int)))], [.cells 0 7 [[.slf [], .slf [], .slf [], .slf [], .slf [], .slf [], .slf []]], .cells 0 2 [[.str s_92, .bool s_93]], .cells 0 7 [[.msl 3 b11 0 xs_16.length, .msl 4 b25 0 xs_31.length, .msl 5 b40 0 xs_46.length, .msl 6 b55 0 xs_65.length, .msl 7 b74 0 xs_80.length, .msl 8 v_85 0 xs_86.length, .slf []]], .cells b11 1 (xs_16.map eS), .cells b25 2 (xs_31.map (eA2 eI)), .cells b40 3 (xs_46.map e_api_Site), .cells b55 7 (xs_65.map e_api_Var), .cells b74 3 (xs_80.map e_api_Block), .cells v_85 4 (xs_86.map e_api_Task), .cells 0 4 [[.int .i64 r_90.1, .int .i64 r_91.1, .msl 10 v_94 0 xs_95.length, .slf []]], .cells v_94 1 (xs_95.map eI)]⟩) (fun (e__ : Str × Bool × (List Int)) (b__ : Nat) => match e__, b__ with | (s_101, s_102, xs_103), b98 => ⟨[(0, .one (.ref 1 0 0 0)), (2, .one (.ref 2 0 0 0)), (4, .one (.ref 9 0 0 0)), (95, .one (.int .i64 r_81.1)), (96, .one (.int .i64 (x_87 : Int)))], [.cells 0 7 [[.slf [], .slf [], .slf [], .slf [], .slf [], .slf [], .slf []]], .cells 0 2 [[.str s_101, .bool s_102]], .cells 0 7 [[.msl 3 b11 0 xs_16.length, .msl 4 b25 0 xs_31.length, .msl 5 b40 0 xs_46.length, .msl 6 b55 0 xs_65.length, .msl 7 b74 0 xs_80.length, .msl 8 v_85 0 xs_86.length, .slf []]], .cells b11 1 (xs_16.map eS), .cells b25 2 (xs_31.map (eA2 eI)), .cells b40 3 (xs_46.map e_api_Site), .cells b55 7 (xs_65.map e_api_Var), .cells b74 3 (xs_80.map e_api_Block), .cells v_85 4 (xs_86.map e_api_Task), .cells 0 4 [[.int .i64 r_90.1, .int .i64 r_91.1, .msl 10 b98 0 xs_103.length, .slf []]], .cells b98 1 (xs_103.map eI)]⟩) (fun (_ : Str × Bool × (List Int)) => some 12) 0 he_97 ?_ ?_
  intro i98 b98 hi98
  obtain rfl := Option.some.inj hi98
  obtain ⟨s_101, s_102, xs_103⟩ := e_97
  dsimp only at hf89 ⊢
  refine nd hf89 F fun hf89 F => ?_
  cases hf89
  refine tt ?_
  repeat (first | (with_reducible intro _) | (with_reducible refine and_i ?_ ?_; exact ss))
  refine wn x_87 F fun F => ?_
  exact bk ih89 ho89 (v_85 + 1)
  intro af98 m98 s98 v_94 o98 hf98 ho98 ih98
  obtain ⟨s_92, s_93, xs_95, x_96⟩ := s98
  dsimp only [image_Decode_L7] at hf98 ⊢
  refine fl hf98 F (fun hf98 _ F => ?_) (fun hf98 _ F => ?_)
  refine tt ?_
  first | refine ⟨by kernel_rfl, [9], [0, 1], [3], by kernel_rfl, ?_⟩ | refine ⟨mo, drawB_i (by kernel_rfl), by kernel_rfl, [9], [0, 1], [3], by kernel_rfl, ?_⟩
  refine tt ?_
  repeat (first | (with_reducible intro _) | ((with_reducible refine and_i ?_ ?_); first | ((with_reducible refine sq_i ?_); exact sq_) | exact ss))
  refine bi hf98 fun r_99 hf98 hr_99 => ?_
  refine cL [1] (.one (.int .i64 r_99.1)) [.cells 0 7 [[.slf [], .slf [], .slf [], .slf [], .slf [], .slf [], .slf []]], .cells 0 2 [[.str r_99.2.1, .bool r_99.2.2]], .cells 0 7 [[.msl 3 b11 0 xs_16.length, .msl 4 b25 0 xs_31.length, .msl 5 b40 0 xs_46.length, .msl 6 b55 0 xs_65.length, .msl 7 b74 0 xs_80.length, .msl 8 v_85 0 xs_86.length, .slf []]], .cells b11 1 (xs_16.map eS), .cells b25 2 (xs_31.map (eA2 eI)), .cells b40 3 (xs_46.map e_api_Site), .cells b55 7 (xs_65.map e_api_Var), .cells b74 3 (xs_80.map e_api_Block), .cells v_85 4 (xs_86.map e_api_Task), .cells 0 4 [[.int .i64 r_90.1, .int .i64 r_91.1, .msl 10 v_94 0 xs_95.length, .slf []]], .cells v_94 1 (xs_95.map eI)] (image_reader_num_st (v0 := 0) hr_99) ?_
  refine nd hf98 F fun hf98 F => ?_
  refine tt ?_
  repeat (first | (with_reducible intro _) | ((with_reducible refine and_i ?_ ?_); first | ((with_reducible refine sq_i ?_); exact sq_) | exact ss))
  cases hf98
  refine tt ?_
  refine wn x_96 F fun F => ?_
  exact bk ih98 ho98 (v_94 + 1)
  cases hf98
  refine tt ?_
  exact xt ho98 af98 v_94
  cases hf89
  refine tt ?_
  exact xt ho89 af89 v_85
  intro af74 m74 s74 v_70 o74 hf74 ho74 ih74
  obtain ⟨s_68, s_69, xs_71, x_72⟩ := s74
  dsimp only [image_Decode_L5] at hf74 ⊢
  refine fi hf74 F (fun hf74 _ F => ?_) (fun hf74 _ F => ?_)
  refine tt ?_
  first | refine ⟨by kernel_rfl, [2], [0, 1, 4], [3, 5], by kernel_rfl, ?_⟩ | refine ⟨mo, drawB_i (by kernel_rfl), by kernel_rfl, [2], [0, 1, 4], [3, 5], by kernel_rfl, ?_⟩
  refine tt ?_
  repeat (first | (with_reducible intro _) | ((with_reducible refine and_i ?_ ?_); first | ((with_reducible refine sq_i ?_); exact sq_) | exact ss))
  refine bi hf74 fun r_75 hf74 hr_75 => ?_
  refine cL [1] (.one (.str r_75.1)) [.cells 0 7 [[.slf [], .slf [], .slf [], .slf [], .slf [], .slf [], .slf []]], .cells 0 2 [[.str r_75.2.1, .bool r_75.2.2]], .cells 0 7 [[.msl 3 b11 0 xs_16.length, .msl 4 b25 0 xs_31.length, .msl 5 b40 0 xs_46.length, .msl 6 b55 0 xs_65.length, .msl 7 v_70 0 xs_71.length, .slf [], .slf []]], .cells b11 1 (xs_16.map eS), .cells b25 2 (xs_31.map (eA2 eI)), .cells b40 3 (xs_46.map e_api_Site), .cells b55 7 (xs_65.map e_api_Var), .cells v_70 3 (xs_71.map e_api_Block)] (image_reader_text_st (v0 := 0) hr_75) ?_
  refine tt ?_
  repeat (first | (with_reducible intro _) | ((with_reducible refine and_i ?_ ?_); first | ((with_reducible refine sq_i ?_); exact sq_) | exact ss))
  refine bi hf74 fun r_76 hf74 hr_76 => ?_
  refine cL [1] (.one (.int .i64 r_76.1)) [.cells 0 7 [[.slf [], .slf [], .slf [], .slf [], .slf [], .slf [], .slf []]], .cells 0 2 [[.str r_76.2.1, .bool r_76.2.2]], .cells 0 7 [[.msl 3 b11 0 xs_16.length, .msl 4 b25 0 xs_31.length, .msl 5 b40 0 xs_46.length, .msl 6 b55 0 xs_65.length, .msl 7 v_70 0 xs_71.length, .slf [], .slf []]], .cells b11 1 (xs_16.map eS), .cells b25 2 (xs_31.map (eA2 eI)), .cells b40 3 (xs_46.map e_api_Site), .cells b55 7 (xs_65.map e_api_Var), .cells v_70 3 (xs_71.map e_api_Block)] (image_reader_num_st (v0 := 0) hr_76) ?_
  refine nd hf74 F fun hf74 F => ?_
  refine tt ?_
  repeat (first | (with_reducible intro _) | ((with_reducible refine and_i ?_ ?_); first | ((with_reducible refine sq_i ?_); exact sq_) | exact ss))
  cases hf74
  refine tt ?_
  refine wn x_72 F fun F => ?_
  exact bk ih74 ho74 (v_70 + 1)
  cases hf74
  refine tt ?_
  exact xt ho74 af74 v_70
  intro af55 m55 s55 v_51 o55 hf55 ho55 ih55
  obtain ⟨s_49, s_50, xs_52, x_53⟩ := s55
  dsimp only [image_Decode_L4] at hf55 ⊢
  refine fi hf55 F (fun hf55 _ F => ?_) (fun hf55 _ F => ?_)
  refine tt ?_
  repeat (first | (with_reducible intro _) | (with_reducible refine and_i ?_ ?_; exact ss))
  refine bi hf55 fun r_56 hf55 hr_56 => ?_
  refine cLS [1] (.one (.int .i64 r_56.1)) [.cells 0 7 [[.slf [], .slf [], .slf [], .slf [], .slf [], .slf [], .slf []]], .cells 0 2 [[.str r_56.2.1, .bool r_56.2.2]], .cells 0 7 [[.msl 3 b11 0 xs_16.length, .msl 4 b25 0 xs_31.length, .msl 5 b40 0 xs_46.length, .msl 6 v_51 0 xs_52.length, .slf [], .slf [], .slf []]], .cells b11 1 (xs_16.map eS), .cells b25 2 (xs_31.map (eA2 eI)), .cells b40 3 (xs_46.map e_api_Site), .cells v_51 7 (xs_52.map e_api_Var)] (image_reader_num_st (v0 := 0) hr_56) ?_
  refine tt ?_
  repeat (first | (with_reducible intro _) | (with_reducible refine and_i ?_ ?_; exact ss))
  refine bi hf55 fun r_57 hf55 hr_57 => ?_
  refine cLS [1] (.one (.int .i64 r_57.1)) [.cells 0 7 [[.slf [], .slf [], .slf [], .slf [], .slf [], .slf [], .slf []]], .cells 0 2 [[.str r_57.2.1, .bool r_57.2.2]], .cells 0 7 [[.msl 3 b11 0 xs_16.length, .msl 4 b25 0 xs_31.length, .msl 5 b40 0 xs_46.length, .msl 6 v_51 0 xs_52.length, .slf [], .slf [], .slf []]], .cells b11 1 (xs_16.map eS), .cells b25 2 (xs_31.map (eA2 eI)), .cells b40 3 (xs_46.map e_api_Site), .cells v_51 7 (xs_52.map e_api_Var)] (image_reader_num_st (v0 := 0) hr_57) ?_
  refine tt ?_
  repeat (first | (with_reducible intro _) | (with_reducible refine and_i ?_ ?_; exact ss))
  refine bi hf55 fun r_58 hf55 hr_58 => ?_
  refine cLS [1] (.one (.int .i64 r_58.1)) [.cells 0 7 [[.slf [], .slf [], .slf [], .slf [], .slf [], .slf [], .slf []]], .cells 0 2 [[.str r_58.2.1, .bool r_58.2.2]], .cells 0 7 [[.msl 3 b11 0 xs_16.length, .msl 4 b25 0 xs_31.length, .msl 5 b40 0 xs_46.length, .msl 6 v_51 0 xs_52.length, .slf [], .slf [], .slf []]], .cells b11 1 (xs_16.map eS), .cells b25 2 (xs_31.map (eA2 eI)), .cells b40 3 (xs_46.map e_api_Site), .cells v_51 7 (xs_52.map e_api_Var)] (image_reader_num_st (v0 := 0) hr_58) ?_
  refine tt ?_
  first | refine ⟨by kernel_rfl, [2, 7], [0, 1, 2, 5, 7], [4, 6, 8], by kernel_rfl, ?_⟩ | refine ⟨mo, drawB_i (by kernel_rfl), by kernel_rfl, [2, 7], [0, 1, 2, 5, 7], [4, 6, 8], by kernel_rfl, ?_⟩
  refine tt ?_
  repeat (first | (with_reducible intro _) | ((with_reducible refine and_i ?_ ?_); first | ((with_reducible refine sq_i ?_); exact sq_) | exact ss))
  refine bi hf55 fun r_59 hf55 hr_59 => ?_
  refine cL [1] (.one (.int .i64 r_59.1)) [.cells 0 7 [[.slf [], .slf [], .slf [], .slf [], .slf [], .slf [], .slf []]], .cells 0 2 [[.str r_59.2.1, .bool r_59.2.2]], .cells 0 7 [[.msl 3 b11 0 xs_16.length, .msl 4 b25 0 xs_31.length, .msl 5 b40 0 xs_46.length, .msl 6 v_51 0 xs_52.length, .slf [], .slf [], .slf []]], .cells b11 1 (xs_16.map eS), .cells b25 2 (xs_31.map (eA2 eI)), .cells b40 3 (xs_46.map e_api_Site), .cells v_51 7 (xs_52.map e_api_Var), .cells 0 3 [[.int .i64 r_56.1, .int .i64 r_57.1, .int .i64 r_58.1]]] (image_reader_num_st (v0 := 0) hr_59) ?_
  refine tt ?_
  repeat (first | (with_reducible intro _) | ((with_reducible refine and_i ?_ ?_); first | ((with_reducible refine sq_i ?_); exact sq_) | exact ss))
  refine bi hf55 fun r_60 hf55 hr_60 => ?_
  refine cL [1] (.one (.int .i64 r_60.1)) [.cells 0 7 [[.slf [], .slf [], .slf [], .slf [], .slf [], .slf [], .slf []]], .cells 0 2 [[.str r_60.2.1, .bool r_60.2.2]], .cells 0 7 [[.msl 3 b11 0 xs_16.length, .msl 4 b25 0 xs_31.length, .msl 5 b40 0 xs_46.length, .msl 6 v_51 0 xs_52.length, .slf [], .slf [], .slf []]], .cells b11 1 (xs_16.map eS), .cells b25 2 (xs_31.map (eA2 eI)), .cells b40 3 (xs_46.map e_api_Site), .cells v_51 7 (xs_52.map e_api_Var), .cells 0 3 [[.int .i64 r_56.1, .int .i64 r_57.1, .int .i64 r_58.1]]] (image_reader_num_st (v0 := 0) hr_60) ?_
  refine tt ?_
  repeat (first | (with_reducible intro _) | ((with_reducible refine and_i ?_ ?_); first | ((with_reducible refine sq_i ?_); exact sq_) | exact ss))
  refine bi hf55 fun r_61 hf55 hr_61 => ?_
  refine cL [1] (.one (.int .i64 r_61.1)) [.cells 0 7 [[.slf [], .slf [], .slf [], .slf [], .slf [], .slf [], .slf []]], .cells 0 2 [[.str r_61.2.1, .bool r_61.2.2]], .cells 0 7 [[.msl 3 b11 0 xs_16.length, .msl 4 b25 0 xs_31.length, .msl 5 b40 0 xs_46.length, .msl 6 v_51 0 xs_52.length, .slf [], .slf [], .slf []]], .cells b11 1 (xs_16.map eS), .cells b25 2 (xs_31.map (eA2 eI)), .cells b40 3 (xs_46.map e_api_Site), .cells v_51 7 (xs_52.map e_api_Var), .cells 0 3 [[.int .i64 r_56.1, .int .i64 r_57.1, .int .i64 r_58.1]]] (image_reader_num_st (v0 := 0) hr_61) ?_
  refine nd hf55 F fun hf55 F => ?_
  refine tt ?_
  repeat (first | (with_reducible intro _) | ((with_reducible refine and_i ?_ ?_); first | ((with_reducible refine sq_i ?_); exact sq_) | exact ss))
  cases hf55
  refine tt ?_
  refine wn x_53 F fun F => ?_
  exact bk ih55 ho55 (v_51 + 1)
  cases hf55
  refine tt ?_
  exact xt ho55 af55 v_51
  intro af40 m40 s40 v_36 o40 hf40 ho40 ih40
  obtain ⟨s_34, s_35, xs_37, x_38⟩ := s40
  dsimp only [image_Decode_L3] at hf40 ⊢
  refine fi hf40 F (fun hf40 _ F => ?_) (fun hf40 _ F => ?_)
  refine tt ?_
  first | refine ⟨by kernel_rfl, [2], [0, 1, 4], [3, 5], by kernel_rfl, ?_⟩ | refine ⟨mo, drawB_i (by kernel_rfl), by kernel_rfl, [2], [0, 1, 4], [3, 5], by kernel_rfl, ?_⟩
  refine tt ?_
  repeat (first | (with_reducible intro _) | ((with_reducible refine and_i ?_ ?_); first | ((with_reducible refine sq_i ?_); exact sq_) | exact ss))
  refine bi hf40 fun r_41 hf40 hr_41 => ?_
  refine cL [1] (.one (.int .i64 r_41.1)) [.cells 0 7 [[.slf [], .slf [], .slf [], .slf [], .slf [], .slf [], .slf []]], .cells 0 2 [[.str r_41.2.1, .bool r_41.2.2]], .cells 0 7 [[.msl 3 b11 0 xs_16.length, .msl 4 b25 0 xs_31.length, .msl 5 v_36 0 xs_37.length, .slf [], .slf [], .slf [], .slf []]], .cells b11 1 (xs_16.map eS), .cells b25 2 (xs_31.map (eA2 eI)), .cells v_36 3 (xs_37.map e_api_Site)] (image_reader_num_st (v0 := 0) hr_41) ?_
  refine tt ?_
  repeat (first | (with_reducible intro _) | ((with_reducible refine and_i ?_ ?_); first | ((with_reducible refine sq_i ?_); exact sq_) | exact ss))
  refine bi hf40 fun r_42 hf40 hr_42 => ?_
  refine cL [1] (.one (.int .i64 r_42.1)) [.cells 0 7 [[.slf [], .slf [], .slf [], .slf [], .slf [], .slf [], .slf []]], .cells 0 2 [[.str r_42.2.1, .bool r_42.2.2]], .cells 0 7 [[.msl 3 b11 0 xs_16.length, .msl 4 b25 0 xs_31.length, .msl 5 v_36 0 xs_37.length, .slf [], .slf [], .slf [], .slf []]], .cells b11 1 (xs_16.map eS), .cells b25 2 (xs_31.map (eA2 eI)), .cells v_36 3 (xs_37.map e_api_Site)] (image_reader_num_st (v0 := 0) hr_42) ?_
  refine nd hf40 F fun hf40 F => ?_
  refine tt ?_
  repeat (first | (with_reducible intro _) | ((with_reducible refine and_i ?_ ?_); first | ((with_reducible refine sq_i ?_); exact sq_) | exact ss))
  cases hf40
  refine tt ?_
  refine wn x_38 F fun F => ?_
  exact bk ih40 ho40 (v_36 + 1)
  cases hf40
  refine tt ?_
  exact xt ho40 af40 v_36
  intro af25 m25 s25 v_21 o25 hf25 ho25 ih25
  obtain ⟨s_19, s_20, xs_22, x_23⟩ := s25
  dsimp only [image_Decode_L2] at hf25 ⊢
  refine fi hf25 F (fun hf25 _ F => ?_) (fun hf25 _ F => ?_)
  refine tt ?_
  first | refine ⟨by kernel_rfl, [2], [0, 1, 2, 5], [4, 6], by kernel_rfl, ?_⟩ | refine ⟨mo, drawB_i (by kernel_rfl), by kernel_rfl, [2], [0, 1, 2, 5], [4, 6], by kernel_rfl, ?_⟩
  refine tt ?_
  repeat (first | (with_reducible intro _) | ((with_reducible refine and_i ?_ ?_); first | ((with_reducible refine sq_i ?_); exact sq_) | exact ss))
  refine bi hf25 fun r_26 hf25 hr_26 => ?_
  refine cL [1] (.one (.int .i64 r_26.1)) [.cells 0 7 [[.slf [], .slf [], .slf [], .slf [], .slf [], .slf [], .slf []]], .cells 0 2 [[.str r_26.2.1, .bool r_26.2.2]], .cells 0 7 [[.msl 3 b11 0 xs_16.length, .msl 4 v_21 0 xs_22.length, .slf [], .slf [], .slf [], .slf [], .slf []]], .cells b11 1 (xs_16.map eS), .cells v_21 2 (xs_22.map (eA2 eI))] (image_reader_num_st (v0 := 0) hr_26) ?_
  refine tt ?_
  repeat (first | (with_reducible intro _) | ((with_reducible refine and_i ?_ ?_); first | ((with_reducible refine sq_i ?_); exact sq_) | exact ss))
  refine bi hf25 fun r_27 hf25 hr_27 => ?_
  refine cL [1] (.one (.int .i64 r_27.1)) [.cells 0 7 [[.slf [], .slf [], .slf [], .slf [], .slf [], .slf [], .slf []]], .cells 0 2 [[.str r_27.2.1, .bool r_27.2.2]], .cells 0 7 [[.msl 3 b11 0 xs_16.length, .msl 4 v_21 0 xs_22.length, .slf [], .slf [], .slf [], .slf [], .slf []]], .cells b11 1 (xs_16.map eS), .cells v_21 2 (xs_22.map (eA2 eI))] (image_reader_num_st (v0 := 0) hr_27) ?_
  refine nd hf25 F fun hf25 F => ?_
  refine tt ?_
  repeat (first | (with_reducible intro _) | ((with_reducible refine and_i ?_ ?_); first | ((with_reducible refine sq_i ?_); exact sq_) | exact ss))
  cases hf25
  refine tt ?_
  refine wn x_23 F fun F => ?_
  exact bk ih25 ho25 (v_21 + 1)
  cases hf25
  refine tt ?_
  exact xt ho25 af25 v_21
  intro af11 m11 s11 v_7 o11 hf11 ho11 ih11
  obtain ⟨s_5, s_6, xs_8, x_9⟩ := s11
  dsimp only [image_Decode_L1] at hf11 ⊢
  refine fi hf11 F (fun hf11 _ F => ?_) (fun hf11 _ F => ?_)
  refine tt ?_
  first | refine ⟨by kernel_rfl, [2], [0, 1, 2], [4], by kernel_rfl, ?_⟩ | refine ⟨mo, drawB_i (by kernel_rfl), by kernel_rfl, [2], [0, 1, 2], [4], by kernel_rfl, ?_⟩
  refine tt ?_
  repeat (first | (with_reducible intro _) | ((with_reducible refine and_i ?_ ?_); first | ((with_reducible refine sq_i ?_); exact sq_) | exact ss))
  refine bi hf11 fun r_12 hf11 hr_12 => ?_
  refine cL [1] (.one (.str r_12.1)) [.cells 0 7 [[.slf [], .slf [], .slf [], .slf [], .slf [], .slf [], .slf []]], .cells 0 2 [[.str r_12.2.1, .bool r_12.2.2]], .cells 0 7 [[.msl 3 v_7 0 xs_8.length, .slf [], .slf [], .slf [], .slf [], .slf [], .slf []]], .cells v_7 1 (xs_8.map eS)] (image_reader_text_st (v0 := 0) hr_12) ?_
  refine nd hf11 F fun hf11 F => ?_
  refine tt ?_
  repeat (first | (with_reducible intro _) | ((with_reducible refine and_i ?_ ?_); first | ((with_reducible refine sq_i ?_); exact sq_) | exact ss))
  cases hf11
  refine tt ?_
  refine wn x_9 F fun F => ?_
  exact bk ih11 ho11 (v_7 + 1)
  cases hf11
  refine tt ?_
  exact xt ho11 af11 v_7
  cases h; exact fin
end Go.Lz
