/- V18s -/
import Derived.Test.YtakkdadfikcpoaaGreatV18r
namespace Go.Lz
set_option linter.unusedVariables false
set_option linter.unusedSimpArgs false
open Go.Proofs
attribute [-go_sem] q_cond g_b gd_b
set_option maxRecDepth 100000
set_option maxHeartbeats 4000000
noncomputable section
def lazarettoref17_Back (s : Str) : Option Int :=
  (s[0]?).bind fun c_1 => (s[1]?).bind fun c_2 => (s[2]?).bind fun c_3 => (s[3]?).bind fun c_4 => some (w64 (IntKind.i32.wrap (IntKind.u32.wrap (orI .u32 (IntKind.u32.wrap (orI .u32 (IntKind.u32.wrap (orI .u32 (IntKind.u32.wrap ((IntKind.u32.wrap (c_1.toNat : Int)) * 16777216)) (IntKind.u32.wrap ((IntKind.u32.wrap (c_2.toNat : Int)) * 65536)))) (IntKind.u32.wrap ((IntKind.u32.wrap (c_3.toNat : Int)) * 256)))) (IntKind.u32.wrap (c_4.toNat : Int))))))
def lazarettoref18_P_num (p_S : Str) (p_Bad : Bool) : Option (Int × Str × Bool) :=
  if p_Bad = true then (some (0, p_S, true)) else (if (p_S.length : Int) < 4 then (some (0, p_S, true)) else ((lazarettoref17_Back p_S).bind fun r_1 => need (0 ≤ 4 ∧ 4 ≤ (p_S.length : Int) ∧ (p_S.length : Int) ≤ p_S.length) (some (r_1, (p_S.drop 4), p_Bad))))
def lazarettoref18_P_count (p_S : Str) (p_Bad : Bool) (most : Int) : Option (Int × Str × Bool) :=
  (lazarettoref18_P_num p_S p_Bad).bind fun r_1 => if r_1.1 < 0 then (some (0, r_1.2.1, true)) else (if most < r_1.1 then (some (0, r_1.2.1, true)) else (some (r_1.1, r_1.2.1, r_1.2.2)))
def lazarettoref18_P_text (p_S : Str) (p_Bad : Bool) : Option (Str × Str × Bool) :=
  (lazarettoref18_P_count p_S p_Bad (p_S.length : Int)).bind fun r_1 => if r_1.2.2 = true then (some ([], r_1.2.1, true)) else (if (r_1.2.1.length : Int) < r_1.1 then (some ([], r_1.2.1, true)) else (need (0 ≤ 0 ∧ 0 ≤ r_1.1 ∧ r_1.1 ≤ r_1.2.1.length) (need (0 ≤ r_1.1 ∧ r_1.1 ≤ (r_1.2.1.length : Int) ∧ (r_1.2.1.length : Int) ≤ r_1.2.1.length) (some ((r_1.2.1.take r_1.1.toNat), (r_1.2.1.drop r_1.1.toNat), r_1.2.2)))))
def lazarettoref17_Read_L1 (s : Str) (r_1 : Int) : ((List api_Ins) × Nat) → Option (((List api_Ins) × Nat) ⊕ (List api_Ins))
  | (l_3, i_5) => if (i_5 : Int) < r_1 then (need (0 ≤ (w64 (4 + (w64 (7 * (i_5 : Int))))) ∧ (w64 (4 + (w64 (7 * (i_5 : Int))))) ≤ (s.length : Int) ∧ (s.length : Int) ≤ s.length) (((s.drop (w64 (4 + (w64 (7 * (i_5 : Int))))).toNat)[0]?).bind fun c_9 => ((s.drop (w64 (4 + (w64 (7 * (i_5 : Int))))).toNat)[1]?).bind fun c_10 => ((s.drop (w64 (4 + (w64 (7 * (i_5 : Int))))).toNat)[2]?).bind fun c_11 => need (0 ≤ 3 ∧ 3 ≤ ((s.drop (w64 (4 + (w64 (7 * (i_5 : Int))))).toNat).length : Int) ∧ ((s.drop (w64 (4 + (w64 (7 * (i_5 : Int))))).toNat).length : Int) ≤ (s.drop (w64 (4 + (w64 (7 * (i_5 : Int))))).toNat).length) ((lazarettoref17_Back ((s.drop (w64 (4 + (w64 (7 * (i_5 : Int))))).toNat).drop 3)).bind fun r_13 => need ((l_3.length + 1) * 32 ≤ 140737488355328) (some (.inl ((l_3 ++ [(⟨(w64 (c_9.toNat : Int)), r_13, (w64 (c_11.toNat : Int)), (w64 (c_10.toNat : Int))⟩ : api_Ins)]), (i_5 + 1))))))) else (some (.inr (l_3)))
def lazarettoref17_Read (s : Str) : Option ((List api_Ins) × Int × Int) :=
  if (s.length : Int) < 4 then (some ([], 0, 8)) else ((lazarettoref17_Back s).bind fun r_1 => if r_1 < 0 then (some ([], 0, 8)) else (if 32768 < r_1 then (some ([], 0, 8)) else (if (s.length : Int) < (w64 (4 + (w64 (7 * r_1)))) then (some ([], 0, 8)) else ((loop (lazarettoref17_Read_L1 s r_1) ([], 0)).bind (fun e_6 => (lazarettoref17_Check e_6).bind fun r_16 => if r_16 = 0 then (some (e_6, (w64 (4 + (w64 (7 * r_1)))), 0)) else (some ([], 0, 8)))))))
def lazarettoref18_Decode_L8 (xs_101 : List api_Task) : (Str × Bool × (List (List api_Ins)) × Nat) → Option ((Str × Bool × (List (List api_Ins)) × Nat) ⊕ (Str × Bool × (List (List api_Ins))))
  | (s_102, s_103, xs_105, x_106) => if (x_106 : Int) < (xs_101.length : Int) then (if s_103 = true then (some (.inr ((s_102, s_103, xs_105)))) else ((lazarettoref17_Read s_102).bind fun r_109 => need (0 ≤ r_109.2.1 ∧ r_109.2.1 ≤ (s_102.length : Int) ∧ (s_102.length : Int) ≤ s_102.length) (need ((xs_105.length + 1) * 24 ≤ 140737488355328) (some (.inl ((s_102.drop r_109.2.1.toNat), (!(decide (r_109.2.2 = 0))), (xs_105 ++ [r_109.1]), (x_106 + 1))))))) else (some (.inr ((s_102, s_103, xs_105))))
def lazarettoref18_Decode_L7 (xs_15 : List Str) : (Str × Bool × (List Int) × Nat) → Option ((Str × Bool × (List Int) × Nat) ⊕ (Str × Bool × (List Int)))
  | (s_86, s_87, xs_89, x_90) => if (x_90 : Int) < (xs_15.length : Int) then ((lazarettoref18_P_num s_86 s_87).bind fun r_93 => need ((xs_89.length + 1) * 8 ≤ 140737488355328) (some (.inl (r_93.2.1, r_93.2.2, (xs_89 ++ [r_93.1]), (x_90 + 1))))) else (some (.inr ((s_86, s_87, xs_89))))
def lazarettoref18_Decode_L6 (xs_15 : List Str) : (Str × Bool × (List api_Task) × Int) → Option ((Str × Bool × (List api_Task) × Int) ⊕ (Str × Bool × (List api_Task)))
  | (s_77, s_78, xs_80, x_81) => if 0 < x_81 then ((lazarettoref18_P_num s_77 s_78).bind fun r_84 => (lazarettoref18_P_num r_84.2.1 r_84.2.2).bind fun r_85 => (loop (lazarettoref18_Decode_L7 xs_15) (r_85.2.1, r_85.2.2, [], 0)).bind (fun (s_95, s_96, xs_97) => need ((xs_80.length + 1) * 64 ≤ 140737488355328) (some (.inl (s_95, s_96, (xs_80 ++ [(⟨r_84.1, r_85.1, xs_97, []⟩ : api_Task)]), (w64 (x_81 - 1))))))) else (some (.inr ((s_77, s_78, xs_80))))
def lazarettoref18_Decode_L5 : (Str × Bool × (List api_Block) × Int) → Option ((Str × Bool × (List api_Block) × Int) ⊕ (Str × Bool × (List api_Block)))
  | (s_63, s_64, xs_66, x_67) => if 0 < x_67 then ((lazarettoref18_P_text s_63 s_64).bind fun r_70 => (lazarettoref18_P_num r_70.2.1 r_70.2.2).bind fun r_71 => need ((xs_66.length + 1) * 40 ≤ 140737488355328) (some (.inl (r_71.2.1, r_71.2.2, (xs_66 ++ [(⟨[], r_70.1, r_71.1⟩ : api_Block)]), (w64 (x_67 - 1)))))) else (some (.inr ((s_63, s_64, xs_66))))
def lazarettoref18_Decode_L4 : (Str × Bool × (List api_Var) × Int) → Option ((Str × Bool × (List api_Var) × Int) ⊕ (Str × Bool × (List api_Var)))
  | (s_45, s_46, xs_48, x_49) => if 0 < x_49 then ((lazarettoref18_P_num s_45 s_46).bind fun r_52 => (lazarettoref18_P_num r_52.2.1 r_52.2.2).bind fun r_53 => (lazarettoref18_P_num r_53.2.1 r_53.2.2).bind fun r_54 => (lazarettoref18_P_num r_54.2.1 r_54.2.2).bind fun r_55 => (lazarettoref18_P_num r_55.2.1 r_55.2.2).bind fun r_56 => (lazarettoref18_P_num r_56.2.1 r_56.2.2).bind fun r_57 => need ((xs_48.length + 1) * 64 ≤ 140737488355328) (some (.inl (r_57.2.1, r_57.2.2, (xs_48 ++ [(⟨[], (⟨r_52.1, r_53.1, r_54.1⟩ : api_Type), r_55.1, r_56.1, r_57.1⟩ : api_Var)]), (w64 (x_49 - 1)))))) else (some (.inr ((s_45, s_46, xs_48))))
def lazarettoref18_Decode_L3 : (Str × Bool × (List api_Site) × Int) → Option ((Str × Bool × (List api_Site) × Int) ⊕ (Str × Bool × (List api_Site)))
  | (s_31, s_32, xs_34, x_35) => if 0 < x_35 then ((lazarettoref18_P_num s_31 s_32).bind fun r_38 => (lazarettoref18_P_num r_38.2.1 r_38.2.2).bind fun r_39 => need ((xs_34.length + 1) * 32 ≤ 140737488355328) (some (.inl (r_39.2.1, r_39.2.2, (xs_34 ++ [(⟨[], r_38.1, r_39.1⟩ : api_Site)]), (w64 (x_35 - 1)))))) else (some (.inr ((s_31, s_32, xs_34))))
def lazarettoref18_Decode_L2 : (Str × Bool × (List (A2 Int)) × Int) → Option ((Str × Bool × (List (A2 Int)) × Int) ⊕ (Str × Bool × (List (A2 Int))))
  | (s_17, s_18, xs_20, m_21) => if 0 < m_21 then ((lazarettoref18_P_num s_17 s_18).bind fun r_24 => (lazarettoref18_P_num r_24.2.1 r_24.2.2).bind fun r_25 => need ((xs_20.length + 1) * 16 ≤ 140737488355328) (some (.inl (r_25.2.1, r_25.2.2, (xs_20 ++ [(⟨r_24.1, r_25.1⟩ : A2 Int)]), (w64 (m_21 - 1)))))) else (some (.inr ((s_17, s_18, xs_20))))
def lazarettoref18_Decode_L1 : (Str × Bool × (List Str) × Int) → Option ((Str × Bool × (List Str) × Int) ⊕ (Str × Bool × (List Str)))
  | (s_4, s_5, xs_7, p_8) => if 0 < p_8 then ((lazarettoref18_P_text s_4 s_5).bind fun r_11 => need ((xs_7.length + 1) * 16 ≤ 140737488355328) (some (.inl (r_11.2.1, r_11.2.2, (xs_7 ++ [r_11.1]), (w64 (p_8 - 1)))))) else (some (.inr ((s_4, s_5, xs_7))))
def lazarettoref18_Decode (s : Str) : Option (api_Image × Int) :=
  if (s.length : Int) < 4 then (some ((⟨(⟨[], []⟩ : api_Lattice), [], [], [], [], []⟩ : api_Image), 8)) else (need (0 ≤ 0 ∧ 0 ≤ 4 ∧ 4 ≤ s.length) (if (s.take 4) = ([76, 90, 82, 49] : Str) then (need (0 ≤ 4 ∧ 4 ≤ (s.length : Int) ∧ (s.length : Int) ≤ s.length) ((lazarettoref18_P_count (s.drop 4) false 8).bind fun r_3 => (loop (lazarettoref18_Decode_L1) (r_3.2.1, r_3.2.2, [], r_3.1)).bind (fun (s_13, s_14, xs_15) => (lazarettoref18_P_count s_13 s_14 64).bind fun r_16 => (loop (lazarettoref18_Decode_L2) (r_16.2.1, r_16.2.2, [], r_16.1)).bind (fun (s_27, s_28, xs_29) => (lazarettoref18_P_count s_27 s_28 8).bind fun r_30 => (loop (lazarettoref18_Decode_L3) (r_30.2.1, r_30.2.2, [], r_30.1)).bind (fun (s_41, s_42, xs_43) => (lazarettoref18_P_count s_41 s_42 96).bind fun r_44 => (loop (lazarettoref18_Decode_L4) (r_44.2.1, r_44.2.2, [], r_44.1)).bind (fun (s_59, s_60, xs_61) => (lazarettoref18_P_count s_59 s_60 12).bind fun r_62 => (loop (lazarettoref18_Decode_L5) (r_62.2.1, r_62.2.2, [], r_62.1)).bind (fun (s_73, s_74, xs_75) => (lazarettoref18_P_count s_73 s_74 4).bind fun r_76 => (loop (lazarettoref18_Decode_L6 xs_15) (r_76.2.1, r_76.2.2, [], r_76.1)).bind (fun (s_99, s_100, xs_101) => (loop (lazarettoref18_Decode_L8 xs_101) (s_99, s_100, [], 0)).bind (fun (s_112, s_113, xs_114) => if s_113 = true then (some ((⟨(⟨[], []⟩ : api_Lattice), [], [], [], [], []⟩ : api_Image), 8)) else (if s_112 = [] then ((lazarettoref18_Check (⟨(⟨xs_15, xs_29⟩ : api_Lattice), xs_43, xs_61, xs_75, xs_101, xs_114⟩ : api_Image)).bind fun r_115 => if r_115 = 0 then ((lazarettoref18_put (⟨(⟨xs_15, xs_29⟩ : api_Lattice), xs_43, xs_61, xs_75, xs_101, xs_114⟩ : api_Image)).bind fun r_116 => if r_116 = s then (some ((⟨(⟨xs_15, xs_29⟩ : api_Lattice), xs_43, xs_61, xs_75, xs_101, xs_114⟩ : api_Image), 0)) else (some ((⟨(⟨[], []⟩ : api_Lattice), [], [], [], [], []⟩ : api_Image), 8))) else (some ((⟨(⟨[], []⟩ : api_Lattice), [], [], [], [], []⟩ : api_Image), 8))) else (some ((⟨(⟨[], []⟩ : api_Lattice), [], [], [], [], []⟩ : api_Image), 8)))))))))))) else (some ((⟨(⟨[], []⟩ : api_Lattice), [], [], [], [], []⟩ : api_Image), 8))))
end
theorem lazarettoref17_Back_ok {s : Str} {r : Int} (h : lazarettoref17_Back s = some r) :
    Pu Tryz.prog 95 [.one (.str s)] (.one (.int .i64 r)) := by
  have F := trivial; have R := trivial
  refine pA Tryz.func95 ?_
  simp only [Tryz.f95]
  unfold lazarettoref17_Back at h
  refine bx h F fun c_1 h hc_1 F => ?_
  refine bx h F fun c_2 h hc_2 F => ?_
  refine bx h F fun c_3 h hc_3 F => ?_
  refine bx h F fun c_4 h hc_4 F => ?_
  cases h; exact fin
theorem lazarettoref18_P_num_st {p_S : Str} {p_Bad : Bool} {v0 : Nat} {r : Int × Str × Bool} (h : lazarettoref18_P_num p_S p_Bad = some r) :
    Ct Tryz.prog 72 [.one (.ref 0 v0 0 0)] [.cells v0 2 [[.str p_S, .bool p_Bad]]] (fun x__ H__ => x__ = .one (.int .i64 r.1) ∧ H__ = [.cells v0 2 [[.str r.2.1, .bool r.2.2]]]) := by
  have F := trivial; have R := trivial
  refine pAL Tryz.func72 ?_
  simp only [Tryz.f72]
  unfold lazarettoref18_P_num at h
  refine fv h F (fun h _ F => ?_) (fun h _ F => ?_)
  cases h; exact fin
  refine tt ?_
  repeat (first | (with_reducible intro _) | (with_reducible refine and_i ?_ ?_; exact ss))
  refine fi h F (fun h _ F => ?_) (fun h _ F => ?_)
  cases h; exact fin
  refine bi h fun r_1 h hr_1 => ?_
  refine tt ?_
  repeat (first | (with_reducible intro _) | (with_reducible refine and_i ?_ ?_; exact ss))
  refine cS (lazarettoref17_Back_ok hr_1) ?_
  refine nd h F fun h F => ?_
  cases h; exact fin
theorem lazarettoref18_P_count_st {p_S : Str} {p_Bad : Bool} {most : Int} {v0 : Nat} {r : Int × Str × Bool} (h : lazarettoref18_P_count p_S p_Bad most = some r) :
    Ct Tryz.prog 70 [.one (.ref 0 v0 0 0), .one (.int .i64 most)] [.cells v0 2 [[.str p_S, .bool p_Bad]]] (fun x__ H__ => x__ = .one (.int .i64 r.1) ∧ H__ = [.cells v0 2 [[.str r.2.1, .bool r.2.2]]]) := by
  have F := trivial; have R := trivial
  refine pAL Tryz.func70 ?_
  simp only [Tryz.f70]
  unfold lazarettoref18_P_count at h
  refine tt ?_
  repeat (first | (with_reducible intro _) | (with_reducible refine and_i ?_ ?_; exact ss))
  refine bi h fun r_1 h hr_1 => ?_
  refine cLS [0] (.one (.int .i64 r_1.1)) [.cells v0 2 [[.str r_1.2.1, .bool r_1.2.2]]] (lazarettoref18_P_num_st (v0 := v0) hr_1) ?_
  refine fi h F (fun h _ F => ?_) (fun h _ F => ?_)
  cases h; exact fin
  refine tt ?_
  refine fi h F (fun h _ F => ?_) (fun h _ F => ?_)
  cases h; exact fin
  cases h; exact fin
theorem lazarettoref18_P_text_st {p_S : Str} {p_Bad : Bool} {v0 : Nat} {r : Str × Str × Bool} (h : lazarettoref18_P_text p_S p_Bad = some r) :
    Ct Tryz.prog 71 [.one (.ref 0 v0 0 0)] [.cells v0 2 [[.str p_S, .bool p_Bad]]] (fun x__ H__ => x__ = .one (.str r.1) ∧ H__ = [.cells v0 2 [[.str r.2.1, .bool r.2.2]]]) := by
  have F := trivial; have R := trivial
  refine pAL Tryz.func71 ?_
  simp only [Tryz.f71]
  unfold lazarettoref18_P_text at h
  refine tt ?_
  repeat (first | (with_reducible intro _) | (with_reducible refine and_i ?_ ?_; exact ss))
  refine bi h fun r_1 h hr_1 => ?_
  refine cLS [0] (.one (.int .i64 r_1.1)) [.cells v0 2 [[.str r_1.2.1, .bool r_1.2.2]]] (lazarettoref18_P_count_st (v0 := v0) hr_1) ?_
  refine fv h F (fun h _ F => ?_) (fun h _ F => ?_)
  cases h; exact fin
  refine tt ?_
  repeat (first | (with_reducible intro _) | (with_reducible refine and_i ?_ ?_; exact ss))
  refine fi h F (fun h _ F => ?_) (fun h _ F => ?_)
  cases h; exact fin
  refine nd h F fun h F => ?_
  refine nd h F fun h F => ?_
  cases h; exact fin
theorem lazarettoref17_Read_ok {s : Str} {r : (List api_Ins) × Int × Int} (h : lazarettoref17_Read s = some r) :
    Pu Tryz.prog 73 [.one (.str s)] (.tup [.one (.sl (r.1.map e_api_Ins)), .one (.int .i64 r.2.1), .one (.int .i64 r.2.2)]) := by
  have F := trivial; have R := trivial
  refine pA Tryz.func73 ?_
  simp only [Tryz.f73]
  unfold lazarettoref17_Read at h
  refine tt ?_
  repeat (first | (with_reducible intro _) | (with_reducible refine and_i ?_ ?_; exact ss))
  refine fi h F (fun h _ F => ?_) (fun h _ F => ?_)
  cases h; exact fin
  refine bi h fun r_1 h hr_1 => ?_
  refine tt ?_
  repeat (first | (with_reducible intro _) | (with_reducible refine and_i ?_ ?_; exact ss))
  refine cS (lazarettoref17_Back_ok hr_1) ?_
  refine fi h F (fun h _ F => ?_) (fun h _ F => ?_)
  cases h; exact fin
  refine tt ?_
  refine fi h F (fun h _ F => ?_) (fun h _ F => ?_)
  cases h; exact fin
  refine tt ?_
  repeat (first | (with_reducible intro _) | (with_reducible refine and_i ?_ ?_; exact ss))
  refine fi h F (fun h _ F => ?_) (fun h _ F => ?_)
  cases h; exact fin
  refine bi h fun e_6 h he_6 => ?_
  refine tt ?_
  refine seed_L 6 4 (by simp [go_sem]) ?_
  refine lE (fun (s__ : (List api_Ins) × Nat) (a__ : Nat) => match s__, a__ with | (l_3, i_5), v_2 => ⟨[(0, .one (.str s)), (5, .one (.int .i64 r_1)), (6, .one (.msl 0 v_2 0 l_3.length)), (7, .one (.int .i64 (i_5 : Int)))], [.cells v_2 4 (l_3.map e_api_Ins)]⟩) (fun (e__ : List api_Ins) (b__ : Nat) => match e__, b__ with | e_6, b7 => ⟨[(5, .one (.int .i64 r_1)), (6, .one (.msl 0 b7 0 e_6.length))], [.cells b7 4 (e_6.map e_api_Ins)]⟩) (fun (_ : List api_Ins) => some 0) 0 he_6 ?_ ?_
  intro i7 b7 hi7
  obtain rfl := Option.some.inj hi7
  dsimp only at h ⊢
  refine bi h fun r_16 h hr_16 => ?_
  refine tt ?_
  repeat (first | (with_reducible intro _) | (with_reducible refine and_i ?_ ?_; exact ss))
  refine cS (lazarettoref17_Check_ok hr_16) ?_
  refine fi h F (fun h _ F => ?_) (fun h _ F => ?_)
  cases h; exact fin
  cases h; exact fin
  intro af7 m7 s7 v_2 o7 hf7 ho7 ih7
  obtain ⟨l_3, i_5⟩ := s7
  dsimp only [lazarettoref17_Read_L1] at hf7 ⊢
  refine fi hf7 F (fun hf7 _ F => ?_) (fun hf7 _ F => ?_)
  refine nd hf7 F fun hf7 F => ?_
  refine bx hf7 F fun c_9 hf7 hc_9 F => ?_
  refine ln F fun F => ?_
  refine bx hf7 F fun c_10 hf7 hc_10 F => ?_
  refine ln F fun F => ?_
  refine bx hf7 F fun c_11 hf7 hc_11 F => ?_
  refine ln F fun F => ?_
  refine nd hf7 F fun hf7 F => ?_
  refine bi hf7 fun r_13 hf7 hr_13 => ?_
  refine tt ?_
  repeat (first | (with_reducible intro _) | (with_reducible refine and_i ?_ ?_; exact ss))
  refine cD (lazarettoref17_Back_ok hr_13) ?_
  refine nd hf7 F fun hf7 F => ?_
  cases hf7
  refine tt ?_
  repeat (first | (with_reducible intro _) | (with_reducible refine and_i ?_ ?_; exact ss))
  refine wn i_5 F fun F => ?_
  exact bk ih7 ho7 (v_2 + 1)
  cases hf7
  refine tt ?_
  exact xt ho7 af7 v_2
theorem lazarettoref18_Decode_ok {s : Str} {r : api_Image × Int} (h : lazarettoref18_Decode s = some r) :
    Pu Tryz.prog 12 [.one (.str s)] (.tup [.agg (e_api_Image r.1), .one (.int .i64 r.2)]) := by
  have F := trivial; have R := trivial
  refine pA Tryz.func12 ?_
  simp only [Tryz.f12]
  unfold lazarettoref18_Decode at h
  refine tt ?_
  repeat (first | (with_reducible intro _) | (with_reducible refine and_i ?_ ?_; exact ss))
  refine fi h F (fun h _ F => ?_) (fun h _ F => ?_)
  cases h; exact fin
  refine nd h F fun h F => ?_
  refine tt ?_
  repeat (first | (with_reducible intro _) | (with_reducible refine and_i ?_ ?_; exact ss))
  refine fi h F (fun h _ F => ?_) (fun h _ F => ?_)
  refine nd h F fun h F => ?_
  refine tt ?_
  repeat (first | (with_reducible intro _) | (with_reducible refine and_i ?_ ?_; exact ss))
  refine iS Tryz.func26 ?_
  simp only [Tryz.f26]
  refine tt ?_
  repeat (first | (with_reducible intro _) | (with_reducible refine and_i ?_ ?_; exact ss))
  refine bi h fun r_3 h hr_3 => ?_
  refine cLS [1] (.one (.int .i64 r_3.1)) [.cells 0 7 [[.slf [], .slf [], .slf [], .slf [], .slf [], .slf [], .slf []]], .cells 0 2 [[.str r_3.2.1, .bool r_3.2.2]], .cells 0 7 [[.slf [], .slf [], .slf [], .slf [], .slf [], .slf [], .slf []]], .cells 0 7 [[.slf [], .slf [], .slf [], .slf [], .slf [], .slf [], .slf []]]] (lazarettoref18_P_count_st (v0 := 0) hr_3) ?_
  refine bi h fun e_9 h he_9 => ?_
  refine tt ?_
  refine seed_C 3 0 1 (by rfl) (by rfl) ?_
  refine lE (fun (s__ : Str × Bool × (List Str) × Int) (a__ : Nat) => match s__, a__ with | (s_4, s_5, xs_7, p_8), v_6 => ⟨[(0, .one (.ref 1 0 0 0)), (2, .one (.ref 2 0 0 0)), (3, .one (.ref 3 0 0 0)), (4, .one (.int .i64 p_8))], [.cells 0 7 [[.slf [], .slf [], .slf [], .slf [], .slf [], .slf [], .slf []]], .cells 0 2 [[.str s_4, .bool s_5]], .cells 0 7 [[.slf [], .slf [], .slf [], .slf [], .slf [], .slf [], .slf []]], .cells 0 7 [[.msl 4 v_6 0 xs_7.length, .slf [], .slf [], .slf [], .slf [], .slf [], .slf []]], .cells v_6 1 (xs_7.map eS)]⟩) (fun (e__ : Str × Bool × (List Str)) (b__ : Nat) => match e__, b__ with | (s_13, s_14, xs_15), b10 => ⟨[(0, .one (.ref 1 0 0 0)), (2, .one (.ref 2 0 0 0)), (3, .one (.ref 3 0 0 0))], [.cells 0 7 [[.slf [], .slf [], .slf [], .slf [], .slf [], .slf [], .slf []]], .cells 0 2 [[.str s_13, .bool s_14]], .cells 0 7 [[.slf [], .slf [], .slf [], .slf [], .slf [], .slf [], .slf []]], .cells 0 7 [[.msl 4 b10 0 xs_15.length, .slf [], .slf [], .slf [], .slf [], .slf [], .slf []]], .cells b10 1 (xs_15.map eS)]⟩) (fun (_ : Str × Bool × (List Str)) => some 0) 0 he_9 ?_ ?_
  intro i10 b10 hi10
  obtain rfl := Option.some.inj hi10
  obtain ⟨s_13, s_14, xs_15⟩ := e_9
  dsimp only at h ⊢
  refine tt ?_
  repeat (first | (with_reducible intro _) | (with_reducible refine and_i ?_ ?_; exact ss))
  refine bi h fun r_16 h hr_16 => ?_
  refine cLS [1] (.one (.int .i64 r_16.1)) [.cells 0 7 [[.slf [], .slf [], .slf [], .slf [], .slf [], .slf [], .slf []]], .cells 0 2 [[.str r_16.2.1, .bool r_16.2.2]], .cells 0 7 [[.slf [], .slf [], .slf [], .slf [], .slf [], .slf [], .slf []]], .cells 0 7 [[.msl 4 b10 0 xs_15.length, .slf [], .slf [], .slf [], .slf [], .slf [], .slf []]], .cells b10 1 (xs_15.map eS)] (lazarettoref18_P_count_st (v0 := 0) hr_16) ?_
  refine bi h fun e_22 h he_22 => ?_
  refine tt ?_
  refine seed_C 3 1 2 (by rfl) (by rfl) ?_
  refine lE (fun (s__ : Str × Bool × (List (A2 Int)) × Int) (a__ : Nat) => match s__, a__ with | (s_17, s_18, xs_20, m_21), v_19 => ⟨[(0, .one (.ref 1 0 0 0)), (2, .one (.ref 2 0 0 0)), (3, .one (.ref 3 0 0 0)), (5, .one (.int .i64 m_21))], [.cells 0 7 [[.slf [], .slf [], .slf [], .slf [], .slf [], .slf [], .slf []]], .cells 0 2 [[.str s_17, .bool s_18]], .cells 0 7 [[.slf [], .slf [], .slf [], .slf [], .slf [], .slf [], .slf []]], .cells 0 7 [[.msl 4 b10 0 xs_15.length, .msl 5 v_19 0 xs_20.length, .slf [], .slf [], .slf [], .slf [], .slf []]], .cells b10 1 (xs_15.map eS), .cells v_19 2 (xs_20.map (eA2 eI))]⟩) (fun (e__ : Str × Bool × (List (A2 Int))) (b__ : Nat) => match e__, b__ with | (s_27, s_28, xs_29), b23 => ⟨[(0, .one (.ref 1 0 0 0)), (2, .one (.ref 2 0 0 0)), (3, .one (.ref 3 0 0 0))], [.cells 0 7 [[.slf [], .slf [], .slf [], .slf [], .slf [], .slf [], .slf []]], .cells 0 2 [[.str s_27, .bool s_28]], .cells 0 7 [[.slf [], .slf [], .slf [], .slf [], .slf [], .slf [], .slf []]], .cells 0 7 [[.msl 4 b10 0 xs_15.length, .msl 5 b23 0 xs_29.length, .slf [], .slf [], .slf [], .slf [], .slf []]], .cells b10 1 (xs_15.map eS), .cells b23 2 (xs_29.map (eA2 eI))]⟩) (fun (_ : Str × Bool × (List (A2 Int))) => some 2) 0 he_22 ?_ ?_
  intro i23 b23 hi23
  obtain rfl := Option.some.inj hi23
  obtain ⟨s_27, s_28, xs_29⟩ := e_22
  dsimp only at h ⊢
  refine tt ?_
  repeat (first | (with_reducible intro _) | (with_reducible refine and_i ?_ ?_; exact ss))
  refine bi h fun r_30 h hr_30 => ?_
  refine cLS [1] (.one (.int .i64 r_30.1)) [.cells 0 7 [[.slf [], .slf [], .slf [], .slf [], .slf [], .slf [], .slf []]], .cells 0 2 [[.str r_30.2.1, .bool r_30.2.2]], .cells 0 7 [[.slf [], .slf [], .slf [], .slf [], .slf [], .slf [], .slf []]], .cells 0 7 [[.msl 4 b10 0 xs_15.length, .msl 5 b23 0 xs_29.length, .slf [], .slf [], .slf [], .slf [], .slf []]], .cells b10 1 (xs_15.map eS), .cells b23 2 (xs_29.map (eA2 eI))] (lazarettoref18_P_count_st (v0 := 0) hr_30) ?_
  refine bi h fun e_36 h he_36 => ?_
  refine tt ?_
  refine seed_C 3 2 3 (by rfl) (by rfl) ?_
  refine lE (fun (s__ : Str × Bool × (List api_Site) × Int) (a__ : Nat) => match s__, a__ with | (s_31, s_32, xs_34, x_35), v_33 => ⟨[(0, .one (.ref 1 0 0 0)), (2, .one (.ref 2 0 0 0)), (3, .one (.ref 3 0 0 0)), (6, .one (.int .i64 x_35))], [.cells 0 7 [[.slf [], .slf [], .slf [], .slf [], .slf [], .slf [], .slf []]], .cells 0 2 [[.str s_31, .bool s_32]], .cells 0 7 [[.slf [], .slf [], .slf [], .slf [], .slf [], .slf [], .slf []]], .cells 0 7 [[.msl 4 b10 0 xs_15.length, .msl 5 b23 0 xs_29.length, .msl 6 v_33 0 xs_34.length, .slf [], .slf [], .slf [], .slf []]], .cells b10 1 (xs_15.map eS), .cells b23 2 (xs_29.map (eA2 eI)), .cells v_33 3 (xs_34.map e_api_Site)]⟩) (fun (e__ : Str × Bool × (List api_Site)) (b__ : Nat) => match e__, b__ with | (s_41, s_42, xs_43), b37 => ⟨[(0, .one (.ref 1 0 0 0)), (2, .one (.ref 2 0 0 0)), (3, .one (.ref 3 0 0 0))], [.cells 0 7 [[.slf [], .slf [], .slf [], .slf [], .slf [], .slf [], .slf []]], .cells 0 2 [[.str s_41, .bool s_42]], .cells 0 7 [[.slf [], .slf [], .slf [], .slf [], .slf [], .slf [], .slf []]], .cells 0 7 [[.msl 4 b10 0 xs_15.length, .msl 5 b23 0 xs_29.length, .msl 6 b37 0 xs_43.length, .slf [], .slf [], .slf [], .slf []]], .cells b10 1 (xs_15.map eS), .cells b23 2 (xs_29.map (eA2 eI)), .cells b37 3 (xs_43.map e_api_Site)]⟩) (fun (_ : Str × Bool × (List api_Site)) => some 4) 0 he_36 ?_ ?_
  intro i37 b37 hi37
  obtain rfl := Option.some.inj hi37
  obtain ⟨s_41, s_42, xs_43⟩ := e_36
  dsimp only at h ⊢
  refine tt ?_
  repeat (first | (with_reducible intro _) | (with_reducible refine and_i ?_ ?_; exact ss))
  refine bi h fun r_44 h hr_44 => ?_
  refine cLS [1] (.one (.int .i64 r_44.1)) [.cells 0 7 [[.slf [], .slf [], .slf [], .slf [], .slf [], .slf [], .slf []]], .cells 0 2 [[.str r_44.2.1, .bool r_44.2.2]], .cells 0 7 [[.slf [], .slf [], .slf [], .slf [], .slf [], .slf [], .slf []]], .cells 0 7 [[.msl 4 b10 0 xs_15.length, .msl 5 b23 0 xs_29.length, .msl 6 b37 0 xs_43.length, .slf [], .slf [], .slf [], .slf []]], .cells b10 1 (xs_15.map eS), .cells b23 2 (xs_29.map (eA2 eI)), .cells b37 3 (xs_43.map e_api_Site)] (lazarettoref18_P_count_st (v0 := 0) hr_44) ?_
  refine bi h fun e_50 h he_50 => ?_
  refine tt ?_
  refine seed_C 3 3 7 (by rfl) (by rfl) ?_
  refine lE (fun (s__ : Str × Bool × (List api_Var) × Int) (a__ : Nat) => match s__, a__ with | (s_45, s_46, xs_48, x_49), v_47 => ⟨[(0, .one (.ref 1 0 0 0)), (2, .one (.ref 2 0 0 0)), (3, .one (.ref 3 0 0 0)), (7, .one (.int .i64 x_49))], [.cells 0 7 [[.slf [], .slf [], .slf [], .slf [], .slf [], .slf [], .slf []]], .cells 0 2 [[.str s_45, .bool s_46]], .cells 0 7 [[.slf [], .slf [], .slf [], .slf [], .slf [], .slf [], .slf []]], .cells 0 7 [[.msl 4 b10 0 xs_15.length, .msl 5 b23 0 xs_29.length, .msl 6 b37 0 xs_43.length, .msl 7 v_47 0 xs_48.length, .slf [], .slf [], .slf []]], .cells b10 1 (xs_15.map eS), .cells b23 2 (xs_29.map (eA2 eI)), .cells b37 3 (xs_43.map e_api_Site), .cells v_47 7 (xs_48.map e_api_Var)]⟩) (fun (e__ : Str × Bool × (List api_Var)) (b__ : Nat) => match e__, b__ with | (s_59, s_60, xs_61), b51 => ⟨[(0, .one (.ref 1 0 0 0)), (2, .one (.ref 2 0 0 0)), (3, .one (.ref 3 0 0 0))], [.cells 0 7 [[.slf [], .slf [], .slf [], .slf [], .slf [], .slf [], .slf []]], .cells 0 2 [[.str s_59, .bool s_60]], .cells 0 7 [[.slf [], .slf [], .slf [], .slf [], .slf [], .slf [], .slf []]], .cells 0 7 [[.msl 4 b10 0 xs_15.length, .msl 5 b23 0 xs_29.length, .msl 6 b37 0 xs_43.length, .msl 7 b51 0 xs_61.length, .slf [], .slf [], .slf []]], .cells b10 1 (xs_15.map eS), .cells b23 2 (xs_29.map (eA2 eI)), .cells b37 3 (xs_43.map e_api_Site), .cells b51 7 (xs_61.map e_api_Var)]⟩) (fun (_ : Str × Bool × (List api_Var)) => some 6) 0 he_50 ?_ ?_
  intro i51 b51 hi51
  obtain rfl := Option.some.inj hi51
  obtain ⟨s_59, s_60, xs_61⟩ := e_50
  dsimp only at h ⊢
  refine tt ?_
  repeat (first | (with_reducible intro _) | (with_reducible refine and_i ?_ ?_; exact ss))
  refine bi h fun r_62 h hr_62 => ?_
  refine cLS [1] (.one (.int .i64 r_62.1)) [.cells 0 7 [[.slf [], .slf [], .slf [], .slf [], .slf [], .slf [], .slf []]], .cells 0 2 [[.str r_62.2.1, .bool r_62.2.2]], .cells 0 7 [[.slf [], .slf [], .slf [], .slf [], .slf [], .slf [], .slf []]], .cells 0 7 [[.msl 4 b10 0 xs_15.length, .msl 5 b23 0 xs_29.length, .msl 6 b37 0 xs_43.length, .msl 7 b51 0 xs_61.length, .slf [], .slf [], .slf []]], .cells b10 1 (xs_15.map eS), .cells b23 2 (xs_29.map (eA2 eI)), .cells b37 3 (xs_43.map e_api_Site), .cells b51 7 (xs_61.map e_api_Var)] (lazarettoref18_P_count_st (v0 := 0) hr_62) ?_
  refine bi h fun e_68 h he_68 => ?_
  refine tt ?_
  refine seed_C 3 4 3 (by rfl) (by rfl) ?_
  refine lE (fun (s__ : Str × Bool × (List api_Block) × Int) (a__ : Nat) => match s__, a__ with | (s_63, s_64, xs_66, x_67), v_65 => ⟨[(0, .one (.ref 1 0 0 0)), (2, .one (.ref 2 0 0 0)), (3, .one (.ref 3 0 0 0)), (9, .one (.int .i64 x_67))], [.cells 0 7 [[.slf [], .slf [], .slf [], .slf [], .slf [], .slf [], .slf []]], .cells 0 2 [[.str s_63, .bool s_64]], .cells 0 7 [[.slf [], .slf [], .slf [], .slf [], .slf [], .slf [], .slf []]], .cells 0 7 [[.msl 4 b10 0 xs_15.length, .msl 5 b23 0 xs_29.length, .msl 6 b37 0 xs_43.length, .msl 7 b51 0 xs_61.length, .msl 8 v_65 0 xs_66.length, .slf [], .slf []]], .cells b10 1 (xs_15.map eS), .cells b23 2 (xs_29.map (eA2 eI)), .cells b37 3 (xs_43.map e_api_Site), .cells b51 7 (xs_61.map e_api_Var), .cells v_65 3 (xs_66.map e_api_Block)]⟩) (fun (e__ : Str × Bool × (List api_Block)) (b__ : Nat) => match e__, b__ with | (s_73, s_74, xs_75), b69 => ⟨[(0, .one (.ref 1 0 0 0)), (2, .one (.ref 2 0 0 0)), (3, .one (.ref 3 0 0 0))], [.cells 0 7 [[.slf [], .slf [], .slf [], .slf [], .slf [], .slf [], .slf []]], .cells 0 2 [[.str s_73, .bool s_74]], .cells 0 7 [[.slf [], .slf [], .slf [], .slf [], .slf [], .slf [], .slf []]], .cells 0 7 [[.msl 4 b10 0 xs_15.length, .msl 5 b23 0 xs_29.length, .msl 6 b37 0 xs_43.length, .msl 7 b51 0 xs_61.length, .msl 8 b69 0 xs_75.length, .slf [], .slf []]], .cells b10 1 (xs_15.map eS), .cells b23 2 (xs_29.map (eA2 eI)), .cells b37 3 (xs_43.map e_api_Site), .cells b51 7 (xs_61.map e_api_Var), .cells b69 3 (xs_75.map e_api_Block)]⟩) (fun (_ : Str × Bool × (List api_Block)) => some 8) 0 he_68 ?_ ?_
  intro i69 b69 hi69
  obtain rfl := Option.some.inj hi69
  obtain ⟨s_73, s_74, xs_75⟩ := e_68
  dsimp only at h ⊢
  refine tt ?_
  repeat (first | (with_reducible intro _) | (with_reducible refine and_i ?_ ?_; exact ss))
  refine bi h fun r_76 h hr_76 => ?_
  refine cLS [1] (.one (.int .i64 r_76.1)) [.cells 0 7 [[.slf [], .slf [], .slf [], .slf [], .slf [], .slf [], .slf []]], .cells 0 2 [[.str r_76.2.1, .bool r_76.2.2]], .cells 0 7 [[.slf [], .slf [], .slf [], .slf [], .slf [], .slf [], .slf []]], .cells 0 7 [[.msl 4 b10 0 xs_15.length, .msl 5 b23 0 xs_29.length, .msl 6 b37 0 xs_43.length, .msl 7 b51 0 xs_61.length, .msl 8 b69 0 xs_75.length, .slf [], .slf []]], .cells b10 1 (xs_15.map eS), .cells b23 2 (xs_29.map (eA2 eI)), .cells b37 3 (xs_43.map e_api_Site), .cells b51 7 (xs_61.map e_api_Var), .cells b69 3 (xs_75.map e_api_Block)] (lazarettoref18_P_count_st (v0 := 0) hr_76) ?_
  refine bi h fun e_82 h he_82 => ?_
  refine tt ?_
  refine seed_C 3 5 4 (by rfl) (by rfl) ?_
  refine lE (fun (s__ : Str × Bool × (List api_Task) × Int) (a__ : Nat) => match s__, a__ with | (s_77, s_78, xs_80, x_81), v_79 => ⟨[(0, .one (.ref 1 0 0 0)), (2, .one (.ref 2 0 0 0)), (3, .one (.ref 3 0 0 0)), (10, .one (.int .i64 x_81))], [.cells 0 7 [[.slf [], .slf [], .slf [], .slf [], .slf [], .slf [], .slf []]], .cells 0 2 [[.str s_77, .bool s_78]], .cells 0 7 [[.slf [], .slf [], .slf [], .slf [], .slf [], .slf [], .slf []]], .cells 0 7 [[.msl 4 b10 0 xs_15.length, .msl 5 b23 0 xs_29.length, .msl 6 b37 0 xs_43.length, .msl 7 b51 0 xs_61.length, .msl 8 b69 0 xs_75.length, .msl 9 v_79 0 xs_80.length, .slf []]], .cells b10 1 (xs_15.map eS), .cells b23 2 (xs_29.map (eA2 eI)), .cells b37 3 (xs_43.map e_api_Site), .cells b51 7 (xs_61.map e_api_Var), .cells b69 3 (xs_75.map e_api_Block), .cells v_79 4 (xs_80.map e_api_Task)]⟩) (fun (e__ : Str × Bool × (List api_Task)) (b__ : Nat) => match e__, b__ with | (s_99, s_100, xs_101), b83 => ⟨[(0, .one (.ref 1 0 0 0)), (2, .one (.ref 2 0 0 0)), (3, .one (.ref 3 0 0 0))], [.cells 0 7 [[.slf [], .slf [], .slf [], .slf [], .slf [], .slf [], .slf []]], .cells 0 2 [[.str s_99, .bool s_100]], .cells 0 7 [[.slf [], .slf [], .slf [], .slf [], .slf [], .slf [], .slf []]], .cells 0 7 [[.msl 4 b10 0 xs_15.length, .msl 5 b23 0 xs_29.length, .msl 6 b37 0 xs_43.length, .msl 7 b51 0 xs_61.length, .msl 8 b69 0 xs_75.length, .msl 9 b83 0 xs_101.length, .slf []]], .cells b10 1 (xs_15.map eS), .cells b23 2 (xs_29.map (eA2 eI)), .cells b37 3 (xs_43.map e_api_Site), .cells b51 7 (xs_61.map e_api_Var), .cells b69 3 (xs_75.map e_api_Block), .cells b83 4 (xs_101.map e_api_Task)]⟩) (fun (_ : Str × Bool × (List api_Task)) => some 10) 0 he_82 ?_ ?_
  intro i83 b83 hi83
  obtain rfl := Option.some.inj hi83
  obtain ⟨s_99, s_100, xs_101⟩ := e_82
  dsimp only at h ⊢
  refine bi h fun e_107 h he_107 => ?_
  refine tt ?_
  refine seed_C 3 6 1 (by rfl) (by rfl) ?_
  refine lE (fun (s__ : Str × Bool × (List (List api_Ins)) × Nat) (a__ : Nat) => match s__, a__ with | (s_102, s_103, xs_105, x_106), v_104 => ⟨[(0, .one (.ref 1 0 0 0)), (2, .one (.ref 2 0 0 0)), (3, .one (.ref 3 0 0 0)), (13, .one (.int .i64 (x_106 : Int)))], [.cells 0 7 [[.slf [], .slf [], .slf [], .slf [], .slf [], .slf [], .slf []]], .cells 0 2 [[.str s_102, .bool s_103]], .cells 0 7 [[.slf [], .slf [], .slf [], .slf [], .slf [], .slf [], .slf []]], .cells 0 7 [[.msl 4 b10 0 xs_15.length, .msl 5 b23 0 xs_29.length, .msl 6 b37 0 xs_43.length, .msl 7 b51 0 xs_61.length, .msl 8 b69 0 xs_75.length, .msl 9 b83 0 xs_101.length, .msl 10 v_104 0 xs_105.length]], .cells b10 1 (xs_15.map eS), .cells b23 2 (xs_29.map (eA2 eI)), .cells b37 3 (xs_43.map e_api_Site), .cells b51 7 (xs_61.map e_api_Var), .cells b69 3 (xs_75.map e_api_Block), .cells b83 4 (xs_101.map e_api_Task), .cells v_104 1 (xs_105.map (eL e_api_Ins))]⟩) (fun (e__ : Str × Bool × (List (List api_Ins))) (b__ : Nat) => match e__, b__ with | (s_112, s_113, xs_114), b108 => ⟨[(2, .one (.ref 2 0 0 0)), (3, .one (.ref 3 0 0 0))], [.cells 0 7 [[.slf [], .slf [], .slf [], .slf [], .slf [], .slf [], .slf []]], .cells 0 2 [[.str s_112, .bool s_113]], .cells 0 7 [[.slf [], .slf [], .slf [], .slf [], .slf [], .slf [], .slf []]], .cells 0 7 [[.msl 4 b10 0 xs_15.length, .msl 5 b23 0 xs_29.length, .msl 6 b37 0 xs_43.length, .msl 7 b51 0 xs_61.length, .msl 8 b69 0 xs_75.length, .msl 9 b83 0 xs_101.length, .msl 10 b108 0 xs_114.length]], .cells b10 1 (xs_15.map eS), .cells b23 2 (xs_29.map (eA2 eI)), .cells b37 3 (xs_43.map e_api_Site), .cells b51 7 (xs_61.map e_api_Var), .cells b69 3 (xs_75.map e_api_Block), .cells b83 4 (xs_101.map e_api_Task), .cells b108 1 (xs_114.map (eL e_api_Ins))]⟩) (fun (_ : Str × Bool × (List (List api_Ins))) => some 14) 0 he_107 ?_ ?_
  intro i108 b108 hi108
  obtain rfl := Option.some.inj hi108
  obtain ⟨s_112, s_113, xs_114⟩ := e_107
  dsimp only at h ⊢
  refine tt ?_
  refine fv h F (fun h _ F => ?_) (fun h _ F => ?_)
  cases h; exact fin
  refine tt ?_
  refine fi h F (fun h _ F => ?_) (fun h _ F => ?_)
  refine bi h fun r_115 h hr_115 => ?_
  refine tt ?_
  repeat (first | (with_reducible intro _) | (with_reducible refine and_i ?_ ?_; exact ss))
  refine cS (lazarettoref18_Check_ok hr_115) ?_
  refine fi h F (fun h _ F => ?_) (fun h _ F => ?_)
  refine bi h fun r_116 h hr_116 => ?_
  refine tt ?_
  repeat (first | (with_reducible intro _) | (with_reducible refine and_i ?_ ?_; exact ss))
  refine cS (lazarettoref18_put_ok hr_116) ?_
  refine fi h F (fun h _ F => ?_) (fun h _ F => ?_)
  cases h; exact fin
  cases h; exact fin
  cases h; exact fin
  cases h; exact fin
  intro af108 m108 s108 v_104 o108 hf108 ho108 ih108
  obtain ⟨s_102, s_103, xs_105, x_106⟩ := s108
  dsimp only [lazarettoref18_Decode_L8] at hf108 ⊢
  refine tt ?_
  repeat (first | (with_reducible intro _) | (with_reducible refine and_i ?_ ?_; exact ss))
  refine fl hf108 F (fun hf108 _ F => ?_) (fun hf108 _ F => ?_)
  refine fv hf108 F (fun hf108 _ F => ?_) (fun hf108 _ F => ?_)
  cases hf108
  refine tt ?_
  exact xt ho108 af108 v_104
  refine bi hf108 fun r_109 hf108 hr_109 => ?_
  refine tt ?_
  repeat (first | (with_reducible intro _) | (with_reducible refine and_i ?_ ?_; exact ss))
  refine cS (lazarettoref17_Read_ok hr_109) ?_
  refine nd hf108 F fun hf108 F => ?_
  refine nd hf108 F fun hf108 F => ?_
  cases hf108
  refine tt ?_
  repeat (first | (with_reducible intro _) | (with_reducible refine and_i ?_ ?_; exact ss))
  refine wn x_106 F fun F => ?_
  exact bk ih108 ho108 (v_104 + 1)
  cases hf108
  refine tt ?_
  exact xt ho108 af108 v_104
  intro af83 m83 s83 v_79 o83 hf83 ho83 ih83
  obtain ⟨s_77, s_78, xs_80, x_81⟩ := s83
  dsimp only [lazarettoref18_Decode_L6] at hf83 ⊢
  refine fi hf83 F (fun hf83 _ F => ?_) (fun hf83 _ F => ?_)
  refine tt ?_
  repeat (first | (with_reducible intro _) | (with_reducible refine and_i ?_ ?_; exact ss))
  refine bi hf83 fun r_84 hf83 hr_84 => ?_
  refine cLS [1] (.one (.int .i64 r_84.1)) [.cells 0 7 [[.slf [], .slf [], .slf [], .slf [], .slf [], .slf [], .slf []]], .cells 0 2 [[.str r_84.2.1, .bool r_84.2.2]], .cells 0 7 [[.slf [], .slf [], .slf [], .slf [], .slf [], .slf [], .slf []]], .cells 0 7 [[.msl 4 b10 0 xs_15.length, .msl 5 b23 0 xs_29.length, .msl 6 b37 0 xs_43.length, .msl 7 b51 0 xs_61.length, .msl 8 b69 0 xs_75.length, .msl 9 v_79 0 xs_80.length, .slf []]], .cells b10 1 (xs_15.map eS), .cells b23 2 (xs_29.map (eA2 eI)), .cells b37 3 (xs_43.map e_api_Site), .cells b51 7 (xs_61.map e_api_Var), .cells b69 3 (xs_75.map e_api_Block), .cells v_79 4 (xs_80.map e_api_Task)] (lazarettoref18_P_num_st (v0 := 0) hr_84) ?_
  refine tt ?_
  repeat (first | (with_reducible intro _) | (with_reducible refine and_i ?_ ?_; exact ss))
  refine bi hf83 fun r_85 hf83 hr_85 => ?_
  refine cLS [1] (.one (.int .i64 r_85.1)) [.cells 0 7 [[.slf [], .slf [], .slf [], .slf [], .slf [], .slf [], .slf []]], .cells 0 2 [[.str r_85.2.1, .bool r_85.2.2]], .cells 0 7 [[.slf [], .slf [], .slf [], .slf [], .slf [], .slf [], .slf []]], .cells 0 7 [[.msl 4 b10 0 xs_15.length, .msl 5 b23 0 xs_29.length, .msl 6 b37 0 xs_43.length, .msl 7 b51 0 xs_61.length, .msl 8 b69 0 xs_75.length, .msl 9 v_79 0 xs_80.length, .slf []]], .cells b10 1 (xs_15.map eS), .cells b23 2 (xs_29.map (eA2 eI)), .cells b37 3 (xs_43.map e_api_Site), .cells b51 7 (xs_61.map e_api_Var), .cells b69 3 (xs_75.map e_api_Block), .cells v_79 4 (xs_80.map e_api_Task)] (lazarettoref18_P_num_st (v0 := 0) hr_85) ?_
  refine bi hf83 fun e_91 hf83 he_91 => ?_
  refine tt ?_
  refine seed_C 10 2 1 (by rfl) (by rfl) ?_
  refine lE (fun (s__ : Str × Bool × (List Int) × Nat) (a__ : Nat) => match s__, a__ with | (s_86, s_87, xs_89, x_90), v_88 => ⟨[(0, .one (.ref 1 0 0 0)), (2, .one (.ref 2 0 0 0)), (3, .one (.ref 3 0 0 0)), (10, .one (.int .i64 x_81)), (11, .one (.ref 10 0 0 0)), (12, .one (.int .i64 (x_90 : Int)))], [.cells 0 7 [[.slf [], .slf [], .slf [], .slf [], .slf [], .slf [], .slf []]], .cells 0 2 [[.str s_86, .bool s_87]], .cells 0 7 [[.slf [], .slf [], .slf [], .slf [], .slf [], .slf [], .slf []]], .cells 0 7 [[.msl 4 b10 0 xs_15.length, .msl 5 b23 0 xs_29.length, .msl 6 b37 0 xs_43.length, .msl 7 b51 0 xs_61.length, .msl 8 b69 0 xs_75.length, .msl 9 v_79 0 xs_80.length, .slf []]], .cells b10 1 (xs_15.map eS), .cells b23 2 (xs_29.map (eA2 eI)), .cells b37 3 (xs_43.map e_api_Site), .cells b51 7 (xs_61.map e_api_Var), .cells b69 3 (xs_75.map e_api_Block), .cells v_79 4 (xs_80.map e_api_Task), .cells 0 4 [[.int .i64 r_84.1, .int .i64 r_85.1, .msl 11 v_88 0 xs_89.length, .slf []]], .cells v_88 1 (xs_89.map eI)]⟩) (fun (e__ : Str × Bool × (List Int)) (b__ : Nat) => match e__, b__ with | (s_95, s_96, xs_97), b92 => ⟨[(0, .one (.ref 1 0 0 0)), (2, .one (.ref 2 0 0 0)), (3, .one (.ref 3 0 0 0)), (10, .one (.int .i64 x_81)), (11, .one (.ref 10 0 0 0))], [.cells 0 7 [[.slf [], .slf [], .slf [], .slf [], .slf [], .slf [], .slf []]], .cells 0 2 [[.str s_95, .bool s_96]], .cells 0 7 [[.slf [], .slf [], .slf [], .slf [], .slf [], .slf [], .slf []]], .cells 0 7 [[.msl 4 b10 0 xs_15.length, .msl 5 b23 0 xs_29.length, .msl 6 b37 0 xs_43.length, .msl 7 b51 0 xs_61.length, .msl 8 b69 0 xs_75.length, .msl 9 v_79 0 xs_80.length, .slf []]], .cells b10 1 (xs_15.map eS), .cells b23 2 (xs_29.map (eA2 eI)), .cells b37 3 (xs_43.map e_api_Site), .cells b51 7 (xs_61.map e_api_Var), .cells b69 3 (xs_75.map e_api_Block), .cells v_79 4 (xs_80.map e_api_Task), .cells 0 4 [[.int .i64 r_84.1, .int .i64 r_85.1, .msl 11 b92 0 xs_97.length, .slf []]], .cells b92 1 (xs_97.map eI)]⟩) (fun (_ : Str × Bool × (List Int)) => some 12) 0 he_91 ?_ ?_
  intro i92 b92 hi92
  obtain rfl := Option.some.inj hi92
  obtain ⟨s_95, s_96, xs_97⟩ := e_91
  dsimp only at hf83 ⊢
  refine nd hf83 F fun hf83 F => ?_
  cases hf83
  refine tt ?_
  repeat (first | (with_reducible intro _) | (with_reducible refine and_i ?_ ?_; exact ss))
  exact bk ih83 ho83 (v_79 + 1)
  intro af92 m92 s92 v_88 o92 hf92 ho92 ih92
  obtain ⟨s_86, s_87, xs_89, x_90⟩ := s92
  dsimp only [lazarettoref18_Decode_L7] at hf92 ⊢
  refine tt ?_
  repeat (first | (with_reducible intro _) | (with_reducible refine and_i ?_ ?_; exact ss))
  refine fl hf92 F (fun hf92 _ F => ?_) (fun hf92 _ F => ?_)
  refine tt ?_
  first | refine ⟨by kernel_rfl, [10], [0, 1], [3], by kernel_rfl, ?_⟩ | refine ⟨mo, drawB_i (by kernel_rfl), by kernel_rfl, [10], [0, 1], [3], by kernel_rfl, ?_⟩
  refine tt ?_
  repeat (first | (with_reducible intro _) | ((with_reducible refine and_i ?_ ?_); first | ((with_reducible refine sq_i ?_); exact sq_) | exact ss))
  refine bi hf92 fun r_93 hf92 hr_93 => ?_
  refine cL [1] (.one (.int .i64 r_93.1)) [.cells 0 7 [[.slf [], .slf [], .slf [], .slf [], .slf [], .slf [], .slf []]], .cells 0 2 [[.str r_93.2.1, .bool r_93.2.2]], .cells 0 7 [[.slf [], .slf [], .slf [], .slf [], .slf [], .slf [], .slf []]], .cells 0 7 [[.msl 4 b10 0 xs_15.length, .msl 5 b23 0 xs_29.length, .msl 6 b37 0 xs_43.length, .msl 7 b51 0 xs_61.length, .msl 8 b69 0 xs_75.length, .msl 9 v_79 0 xs_80.length, .slf []]], .cells b10 1 (xs_15.map eS), .cells b23 2 (xs_29.map (eA2 eI)), .cells b37 3 (xs_43.map e_api_Site), .cells b51 7 (xs_61.map e_api_Var), .cells b69 3 (xs_75.map e_api_Block), .cells v_79 4 (xs_80.map e_api_Task), .cells 0 4 [[.int .i64 r_84.1, .int .i64 r_85.1, .msl 11 v_88 0 xs_89.length, .slf []]], .cells v_88 1 (xs_89.map eI)] (lazarettoref18_P_num_st (v0 := 0) hr_93) ?_
  refine nd hf92 F fun hf92 F => ?_
  refine tt ?_
  repeat (first | (with_reducible intro _) | ((with_reducible refine and_i ?_ ?_); first | ((with_reducible refine sq_i ?_); exact sq_) | exact ss))
  cases hf92
  refine tt ?_
  refine wn x_90 F fun F => ?_
  exact bk ih92 ho92 (v_88 + 1)
  cases hf92
  refine tt ?_
  exact xt ho92 af92 v_88
  cases hf83
  refine tt ?_
  exact xt ho83 af83 v_79
  intro af69 m69 s69 v_65 o69 hf69 ho69 ih69
  obtain ⟨s_63, s_64, xs_66, x_67⟩ := s69
  dsimp only [lazarettoref18_Decode_L5] at hf69 ⊢
  refine fi hf69 F (fun hf69 _ F => ?_) (fun hf69 _ F => ?_)
  refine tt ?_
  first | refine ⟨by kernel_rfl, [3], [0, 1, 4], [3, 5], by kernel_rfl, ?_⟩ | refine ⟨mo, drawB_i (by kernel_rfl), by kernel_rfl, [3], [0, 1, 4], [3, 5], by kernel_rfl, ?_⟩
  refine tt ?_
  repeat (first | (with_reducible intro _) | ((with_reducible refine and_i ?_ ?_); first | ((with_reducible refine sq_i ?_); exact sq_) | exact ss))
  refine bi hf69 fun r_70 hf69 hr_70 => ?_
  refine cL [1] (.one (.str r_70.1)) [.cells 0 7 [[.slf [], .slf [], .slf [], .slf [], .slf [], .slf [], .slf []]], .cells 0 2 [[.str r_70.2.1, .bool r_70.2.2]], .cells 0 7 [[.slf [], .slf [], .slf [], .slf [], .slf [], .slf [], .slf []]], .cells 0 7 [[.msl 4 b10 0 xs_15.length, .msl 5 b23 0 xs_29.length, .msl 6 b37 0 xs_43.length, .msl 7 b51 0 xs_61.length, .msl 8 v_65 0 xs_66.length, .slf [], .slf []]], .cells b10 1 (xs_15.map eS), .cells b23 2 (xs_29.map (eA2 eI)), .cells b37 3 (xs_43.map e_api_Site), .cells b51 7 (xs_61.map e_api_Var), .cells v_65 3 (xs_66.map e_api_Block)] (lazarettoref18_P_text_st (v0 := 0) hr_70) ?_
  refine tt ?_
  repeat (first | (with_reducible intro _) | ((with_reducible refine and_i ?_ ?_); first | ((with_reducible refine sq_i ?_); exact sq_) | exact ss))
  refine bi hf69 fun r_71 hf69 hr_71 => ?_
  refine cL [1] (.one (.int .i64 r_71.1)) [.cells 0 7 [[.slf [], .slf [], .slf [], .slf [], .slf [], .slf [], .slf []]], .cells 0 2 [[.str r_71.2.1, .bool r_71.2.2]], .cells 0 7 [[.slf [], .slf [], .slf [], .slf [], .slf [], .slf [], .slf []]], .cells 0 7 [[.msl 4 b10 0 xs_15.length, .msl 5 b23 0 xs_29.length, .msl 6 b37 0 xs_43.length, .msl 7 b51 0 xs_61.length, .msl 8 v_65 0 xs_66.length, .slf [], .slf []]], .cells b10 1 (xs_15.map eS), .cells b23 2 (xs_29.map (eA2 eI)), .cells b37 3 (xs_43.map e_api_Site), .cells b51 7 (xs_61.map e_api_Var), .cells v_65 3 (xs_66.map e_api_Block)] (lazarettoref18_P_num_st (v0 := 0) hr_71) ?_
  refine nd hf69 F fun hf69 F => ?_
  refine tt ?_
  repeat (first | (with_reducible intro _) | ((with_reducible refine and_i ?_ ?_); first | ((with_reducible refine sq_i ?_); exact sq_) | exact ss))
  cases hf69
  refine tt ?_
  exact bk ih69 ho69 (v_65 + 1)
  cases hf69
  refine tt ?_
  exact xt ho69 af69 v_65
  intro af51 m51 s51 v_47 o51 hf51 ho51 ih51
  obtain ⟨s_45, s_46, xs_48, x_49⟩ := s51
  dsimp only [lazarettoref18_Decode_L4] at hf51 ⊢
  refine fi hf51 F (fun hf51 _ F => ?_) (fun hf51 _ F => ?_)
  refine tt ?_
  repeat (first | (with_reducible intro _) | (with_reducible refine and_i ?_ ?_; exact ss))
  refine bi hf51 fun r_52 hf51 hr_52 => ?_
  refine cLS [1] (.one (.int .i64 r_52.1)) [.cells 0 7 [[.slf [], .slf [], .slf [], .slf [], .slf [], .slf [], .slf []]], .cells 0 2 [[.str r_52.2.1, .bool r_52.2.2]], .cells 0 7 [[.slf [], .slf [], .slf [], .slf [], .slf [], .slf [], .slf []]], .cells 0 7 [[.msl 4 b10 0 xs_15.length, .msl 5 b23 0 xs_29.length, .msl 6 b37 0 xs_43.length, .msl 7 v_47 0 xs_48.length, .slf [], .slf [], .slf []]], .cells b10 1 (xs_15.map eS), .cells b23 2 (xs_29.map (eA2 eI)), .cells b37 3 (xs_43.map e_api_Site), .cells v_47 7 (xs_48.map e_api_Var)] (lazarettoref18_P_num_st (v0 := 0) hr_52) ?_
  refine tt ?_
  repeat (first | (with_reducible intro _) | (with_reducible refine and_i ?_ ?_; exact ss))
  refine bi hf51 fun r_53 hf51 hr_53 => ?_
  refine cLS [1] (.one (.int .i64 r_53.1)) [.cells 0 7 [[.slf [], .slf [], .slf [], .slf [], .slf [], .slf [], .slf []]], .cells 0 2 [[.str r_53.2.1, .bool r_53.2.2]], .cells 0 7 [[.slf [], .slf [], .slf [], .slf [], .slf [], .slf [], .slf []]], .cells 0 7 [[.msl 4 b10 0 xs_15.length, .msl 5 b23 0 xs_29.length, .msl 6 b37 0 xs_43.length, .msl 7 v_47 0 xs_48.length, .slf [], .slf [], .slf []]], .cells b10 1 (xs_15.map eS), .cells b23 2 (xs_29.map (eA2 eI)), .cells b37 3 (xs_43.map e_api_Site), .cells v_47 7 (xs_48.map e_api_Var)] (lazarettoref18_P_num_st (v0 := 0) hr_53) ?_
  refine tt ?_
  repeat (first | (with_reducible intro _) | (with_reducible refine and_i ?_ ?_; exact ss))
  refine bi hf51 fun r_54 hf51 hr_54 => ?_
  refine cLS [1] (.one (.int .i64 r_54.1)) [.cells 0 7 [[.slf [], .slf [], .slf [], .slf [], .slf [], .slf [], .slf []]], .cells 0 2 [[.str r_54.2.1, .bool r_54.2.2]], .cells 0 7 [[.slf [], .slf [], .slf [], .slf [], .slf [], .slf [], .slf []]], .cells 0 7 [[.msl 4 b10 0 xs_15.length, .msl 5 b23 0 xs_29.length, .msl 6 b37 0 xs_43.length, .msl 7 v_47 0 xs_48.length, .slf [], .slf [], .slf []]], .cells b10 1 (xs_15.map eS), .cells b23 2 (xs_29.map (eA2 eI)), .cells b37 3 (xs_43.map e_api_Site), .cells v_47 7 (xs_48.map e_api_Var)] (lazarettoref18_P_num_st (v0 := 0) hr_54) ?_
  refine tt ?_
  repeat (first | (with_reducible intro _) | (with_reducible refine and_i ?_ ?_; exact ss))
  refine bi hf51 fun r_55 hf51 hr_55 => ?_
  refine cLS [1] (.one (.int .i64 r_55.1)) [.cells 0 7 [[.slf [], .slf [], .slf [], .slf [], .slf [], .slf [], .slf []]], .cells 0 2 [[.str r_55.2.1, .bool r_55.2.2]], .cells 0 7 [[.slf [], .slf [], .slf [], .slf [], .slf [], .slf [], .slf []]], .cells 0 7 [[.msl 4 b10 0 xs_15.length, .msl 5 b23 0 xs_29.length, .msl 6 b37 0 xs_43.length, .msl 7 v_47 0 xs_48.length, .slf [], .slf [], .slf []]], .cells b10 1 (xs_15.map eS), .cells b23 2 (xs_29.map (eA2 eI)), .cells b37 3 (xs_43.map e_api_Site), .cells v_47 7 (xs_48.map e_api_Var), .cells 0 7 [[.str [], .int .i64 r_52.1, .int .i64 r_53.1, .int .i64 r_54.1, .int .i64 0, .int .i64 0, .int .i64 0]]] (lazarettoref18_P_num_st (v0 := 0) hr_55) ?_
  refine tt ?_
  repeat (first | (with_reducible intro _) | (with_reducible refine and_i ?_ ?_; exact ss))
  refine bi hf51 fun r_56 hf51 hr_56 => ?_
  refine cLS [1] (.one (.int .i64 r_56.1)) [.cells 0 7 [[.slf [], .slf [], .slf [], .slf [], .slf [], .slf [], .slf []]], .cells 0 2 [[.str r_56.2.1, .bool r_56.2.2]], .cells 0 7 [[.slf [], .slf [], .slf [], .slf [], .slf [], .slf [], .slf []]], .cells 0 7 [[.msl 4 b10 0 xs_15.length, .msl 5 b23 0 xs_29.length, .msl 6 b37 0 xs_43.length, .msl 7 v_47 0 xs_48.length, .slf [], .slf [], .slf []]], .cells b10 1 (xs_15.map eS), .cells b23 2 (xs_29.map (eA2 eI)), .cells b37 3 (xs_43.map e_api_Site), .cells v_47 7 (xs_48.map e_api_Var), .cells 0 7 [[.str [], .int .i64 r_52.1, .int .i64 r_53.1, .int .i64 r_54.1, .int .i64 0, .int .i64 0, .int .i64 0]]] (lazarettoref18_P_num_st (v0 := 0) hr_56) ?_
  refine tt ?_
  repeat (first | (with_reducible intro _) | (with_reducible refine and_i ?_ ?_; exact ss))
  refine bi hf51 fun r_57 hf51 hr_57 => ?_
  refine cLS [1] (.one (.int .i64 r_57.1)) [.cells 0 7 [[.slf [], .slf [], .slf [], .slf [], .slf [], .slf [], .slf []]], .cells 0 2 [[.str r_57.2.1, .bool r_57.2.2]], .cells 0 7 [[.slf [], .slf [], .slf [], .slf [], .slf [], .slf [], .slf []]], .cells 0 7 [[.msl 4 b10 0 xs_15.length, .msl 5 b23 0 xs_29.length, .msl 6 b37 0 xs_43.length, .msl 7 v_47 0 xs_48.length, .slf [], .slf [], .slf []]], .cells b10 1 (xs_15.map eS), .cells b23 2 (xs_29.map (eA2 eI)), .cells b37 3 (xs_43.map e_api_Site), .cells v_47 7 (xs_48.map e_api_Var), .cells 0 7 [[.str [], .int .i64 r_52.1, .int .i64 r_53.1, .int .i64 r_54.1, .int .i64 0, .int .i64 0, .int .i64 0]]] (lazarettoref18_P_num_st (v0 := 0) hr_57) ?_
  refine nd hf51 F fun hf51 F => ?_
  cases hf51
  refine tt ?_
  repeat (first | (with_reducible intro _) | (with_reducible refine and_i ?_ ?_; exact ss))
  exact bk ih51 ho51 (v_47 + 1)
  cases hf51
  refine tt ?_
  exact xt ho51 af51 v_47
  intro af37 m37 s37 v_33 o37 hf37 ho37 ih37
  obtain ⟨s_31, s_32, xs_34, x_35⟩ := s37
  dsimp only [lazarettoref18_Decode_L3] at hf37 ⊢
  refine fi hf37 F (fun hf37 _ F => ?_) (fun hf37 _ F => ?_)
  refine tt ?_
  first | refine ⟨by kernel_rfl, [3], [0, 1, 4], [3, 5], by kernel_rfl, ?_⟩ | refine ⟨mo, drawB_i (by kernel_rfl), by kernel_rfl, [3], [0, 1, 4], [3, 5], by kernel_rfl, ?_⟩
  refine tt ?_
  repeat (first | (with_reducible intro _) | ((with_reducible refine and_i ?_ ?_); first | ((with_reducible refine sq_i ?_); exact sq_) | exact ss))
  refine bi hf37 fun r_38 hf37 hr_38 => ?_
  refine cL [1] (.one (.int .i64 r_38.1)) [.cells 0 7 [[.slf [], .slf [], .slf [], .slf [], .slf [], .slf [], .slf []]], .cells 0 2 [[.str r_38.2.1, .bool r_38.2.2]], .cells 0 7 [[.slf [], .slf [], .slf [], .slf [], .slf [], .slf [], .slf []]], .cells 0 7 [[.msl 4 b10 0 xs_15.length, .msl 5 b23 0 xs_29.length, .msl 6 v_33 0 xs_34.length, .slf [], .slf [], .slf [], .slf []]], .cells b10 1 (xs_15.map eS), .cells b23 2 (xs_29.map (eA2 eI)), .cells v_33 3 (xs_34.map e_api_Site)] (lazarettoref18_P_num_st (v0 := 0) hr_38) ?_
  refine tt ?_
  repeat (first | (with_reducible intro _) | ((with_reducible refine and_i ?_ ?_); first | ((with_reducible refine sq_i ?_); exact sq_) | exact ss))
  refine bi hf37 fun r_39 hf37 hr_39 => ?_
  refine cL [1] (.one (.int .i64 r_39.1)) [.cells 0 7 [[.slf [], .slf [], .slf [], .slf [], .slf [], .slf [], .slf []]], .cells 0 2 [[.str r_39.2.1, .bool r_39.2.2]], .cells 0 7 [[.slf [], .slf [], .slf [], .slf [], .slf [], .slf [], .slf []]], .cells 0 7 [[.msl 4 b10 0 xs_15.length, .msl 5 b23 0 xs_29.length, .msl 6 v_33 0 xs_34.length, .slf [], .slf [], .slf [], .slf []]], .cells b10 1 (xs_15.map eS), .cells b23 2 (xs_29.map (eA2 eI)), .cells v_33 3 (xs_34.map e_api_Site)] (lazarettoref18_P_num_st (v0 := 0) hr_39) ?_
  refine nd hf37 F fun hf37 F => ?_
  refine tt ?_
  repeat (first | (with_reducible intro _) | ((with_reducible refine and_i ?_ ?_); first | ((with_reducible refine sq_i ?_); exact sq_) | exact ss))
  cases hf37
  refine tt ?_
  exact bk ih37 ho37 (v_33 + 1)
  cases hf37
  refine tt ?_
  exact xt ho37 af37 v_33
  intro af23 m23 s23 v_19 o23 hf23 ho23 ih23
  obtain ⟨s_17, s_18, xs_20, m_21⟩ := s23
  dsimp only [lazarettoref18_Decode_L2] at hf23 ⊢
  refine fi hf23 F (fun hf23 _ F => ?_) (fun hf23 _ F => ?_)
  refine tt ?_
  first | refine ⟨by kernel_rfl, [3], [0, 1, 2, 5], [4, 6], by kernel_rfl, ?_⟩ | refine ⟨mo, drawB_i (by kernel_rfl), by kernel_rfl, [3], [0, 1, 2, 5], [4, 6], by kernel_rfl, ?_⟩
  refine tt ?_
  repeat (first | (with_reducible intro _) | ((with_reducible refine and_i ?_ ?_); first | ((with_reducible refine sq_i ?_); exact sq_) | exact ss))
  refine bi hf23 fun r_24 hf23 hr_24 => ?_
  refine cL [1] (.one (.int .i64 r_24.1)) [.cells 0 7 [[.slf [], .slf [], .slf [], .slf [], .slf [], .slf [], .slf []]], .cells 0 2 [[.str r_24.2.1, .bool r_24.2.2]], .cells 0 7 [[.slf [], .slf [], .slf [], .slf [], .slf [], .slf [], .slf []]], .cells 0 7 [[.msl 4 b10 0 xs_15.length, .msl 5 v_19 0 xs_20.length, .slf [], .slf [], .slf [], .slf [], .slf []]], .cells b10 1 (xs_15.map eS), .cells v_19 2 (xs_20.map (eA2 eI))] (lazarettoref18_P_num_st (v0 := 0) hr_24) ?_
  refine tt ?_
  repeat (first | (with_reducible intro _) | ((with_reducible refine and_i ?_ ?_); first | ((with_reducible refine sq_i ?_); exact sq_) | exact ss))
  refine bi hf23 fun r_25 hf23 hr_25 => ?_
  refine cL [1] (.one (.int .i64 r_25.1)) [.cells 0 7 [[.slf [], .slf [], .slf [], .slf [], .slf [], .slf [], .slf []]], .cells 0 2 [[.str r_25.2.1, .bool r_25.2.2]], .cells 0 7 [[.slf [], .slf [], .slf [], .slf [], .slf [], .slf [], .slf []]], .cells 0 7 [[.msl 4 b10 0 xs_15.length, .msl 5 v_19 0 xs_20.length, .slf [], .slf [], .slf [], .slf [], .slf []]], .cells b10 1 (xs_15.map eS), .cells v_19 2 (xs_20.map (eA2 eI))] (lazarettoref18_P_num_st (v0 := 0) hr_25) ?_
  refine nd hf23 F fun hf23 F => ?_
  refine tt ?_
  repeat (first | (with_reducible intro _) | ((with_reducible refine and_i ?_ ?_); first | ((with_reducible refine sq_i ?_); exact sq_) | exact ss))
  cases hf23
  refine tt ?_
  exact bk ih23 ho23 (v_19 + 1)
  cases hf23
  refine tt ?_
  exact xt ho23 af23 v_19
  intro af10 m10 s10 v_6 o10 hf10 ho10 ih10
  obtain ⟨s_4, s_5, xs_7, p_8⟩ := s10
  dsimp only [lazarettoref18_Decode_L1] at hf10 ⊢
  refine fi hf10 F (fun hf10 _ F => ?_) (fun hf10 _ F => ?_)
  refine tt ?_
  first | refine ⟨by kernel_rfl, [3], [0, 1, 2], [4], by kernel_rfl, ?_⟩ | refine ⟨mo, drawB_i (by kernel_rfl), by kernel_rfl, [3], [0, 1, 2], [4], by kernel_rfl, ?_⟩
  refine tt ?_
  repeat (first | (with_reducible intro _) | ((with_reducible refine and_i ?_ ?_); first | ((with_reducible refine sq_i ?_); exact sq_) | exact ss))
  refine bi hf10 fun r_11 hf10 hr_11 => ?_
  refine cL [1] (.one (.str r_11.1)) [.cells 0 7 [[.slf [], .slf [], .slf [], .slf [], .slf [], .slf [], .slf []]], .cells 0 2 [[.str r_11.2.1, .bool r_11.2.2]], .cells 0 7 [[.slf [], .slf [], .slf [], .slf [], .slf [], .slf [], .slf []]], .cells 0 7 [[.msl 4 v_6 0 xs_7.length, .slf [], .slf [], .slf [], .slf [], .slf [], .slf []]], .cells v_6 1 (xs_7.map eS)] (lazarettoref18_P_text_st (v0 := 0) hr_11) ?_
  refine nd hf10 F fun hf10 F => ?_
  refine tt ?_
  repeat (first | (with_reducible intro _) | ((with_reducible refine and_i ?_ ?_); first | ((with_reducible refine sq_i ?_); exact sq_) | exact ss))
  cases hf10
  refine tt ?_
  exact bk ih10 ho10 (v_6 + 1)
  cases hf10
  refine tt ?_
  exact xt ho10 af10 v_6
  cases h; exact fin
end Go.Lz
