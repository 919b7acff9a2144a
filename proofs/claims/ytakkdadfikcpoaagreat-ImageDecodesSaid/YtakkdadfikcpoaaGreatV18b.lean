/- V18b -/
import Derived.Test.YtakkdadfikcpoaaGreatV18a
namespace Go.Lz
set_option linter.unusedVariables false
set_option linter.unusedSimpArgs false
open Go.Proofs
attribute [-go_sem] q_cond g_b gd_b
set_option maxRecDepth 100000
set_option maxHeartbeats 4000000
noncomputable section
def image_Encode_L35 (m : api_Image) : ((List Int) × Nat) → Option (((List Int) × Nat) ⊕ (List Int))
  | (xs_271, x_272) => if (x_272 : Int) < (m.Code.length : Int) then ((m.Code[x_272]?).bind fun x_275 => (code_Encode x_275).bind fun r_276 => need ((xs_271.length + r_276.length) * 1 ≤ 140737488355328) (some (.inl ((xs_271 ++ (r_276.map fun b => (b.toNat : Int))), (x_272 + 1))))) else (some (.inr (xs_271)))
def image_Encode_L34 (x_258 : Int) : ((List Int) × Nat) → Option (((List Int) × Nat) ⊕ (List Int))
  | (m_260, p_262) => if (p_262 : Int) < 4 then (([(x_258.fdiv 16777216), (x_258.fdiv 65536), (x_258.fdiv 256), x_258][p_262]?).bind fun x_265 => need ((m_260.length + 1) * 1 ≤ 140737488355328) (some (.inl ((m_260 ++ [(IntKind.u8.wrap x_265)]), (p_262 + 1))))) else (some (.inr (m_260)))
def image_Encode_L33 (x_236 : api_Task) : ((List Int) × Nat) → Option (((List Int) × Nat) ⊕ (List Int))
  | (xs_254, __255) => if (__255 : Int) < (x_236.Budget.length : Int) then ((x_236.Budget[__255]?).bind fun x_258 => (loop (image_Encode_L34 x_258) (xs_254, 0)).bind (fun e_263 => some (.inl (e_263, (__255 + 1))))) else (some (.inr (xs_254)))
def image_Encode_L32 (x_242 : Int) : ((List Int) × Nat) → Option (((List Int) × Nat) ⊕ (List Int))
  | (m_244, p_246) => if (p_246 : Int) < 4 then (([(x_242.fdiv 16777216), (x_242.fdiv 65536), (x_242.fdiv 256), x_242][p_246]?).bind fun x_249 => need ((m_244.length + 1) * 1 ≤ 140737488355328) (some (.inl ((m_244 ++ [(IntKind.u8.wrap x_249)]), (p_246 + 1))))) else (some (.inr (m_244)))
def image_Encode_L31 (x_236 : api_Task) : ((List Int) × Nat) → Option (((List Int) × Nat) ⊕ (List Int))
  | (xs_238, __239) => if (__239 : Int) < 2 then (([x_236.Every, x_236.Priority][__239]?).bind fun x_242 => (loop (image_Encode_L32 x_242) (xs_238, 0)).bind (fun e_247 => some (.inl (e_247, (__239 + 1))))) else (some (.inr (xs_238)))
def image_Encode_L30 (m : api_Image) : ((List Int) × Nat) → Option (((List Int) × Nat) ⊕ (List Int))
  | (xs_232, x_233) => if (x_233 : Int) < (m.Tasks.length : Int) then ((m.Tasks[x_233]?).bind fun x_236 => (loop (image_Encode_L31 x_236) (xs_232, 0)).bind (fun e_240 => (loop (image_Encode_L33 x_236) (e_240, 0)).bind (fun e_256 => some (.inl (e_256, (x_233 + 1)))))) else (some (.inr (xs_232)))
def image_Encode_L29 (x_220 : Int) : ((List Int) × Nat) → Option (((List Int) × Nat) ⊕ (List Int))
  | (m_222, p_224) => if (p_224 : Int) < 4 then (([(x_220.fdiv 16777216), (x_220.fdiv 65536), (x_220.fdiv 256), x_220][p_224]?).bind fun x_227 => need ((m_222.length + 1) * 1 ≤ 140737488355328) (some (.inl ((m_222 ++ [(IntKind.u8.wrap x_227)]), (p_224 + 1))))) else (some (.inr (m_222)))
def image_Encode_L28 (m : api_Image) : ((List Int) × Nat) → Option (((List Int) × Nat) ⊕ (List Int))
  | (xs_216, __217) => if (__217 : Int) < 1 then (([(m.Tasks.length : Int)][__217]?).bind fun x_220 => (loop (image_Encode_L29 x_220) (xs_216, 0)).bind (fun e_225 => some (.inl (e_225, (__217 + 1))))) else (some (.inr (xs_216)))
def image_Encode_L27 (x_203 : Int) : ((List Int) × Nat) → Option (((List Int) × Nat) ⊕ (List Int))
  | (m_205, p_207) => if (p_207 : Int) < 4 then (([(x_203.fdiv 16777216), (x_203.fdiv 65536), (x_203.fdiv 256), x_203][p_207]?).bind fun x_210 => need ((m_205.length + 1) * 1 ≤ 140737488355328) (some (.inl ((m_205 ++ [(IntKind.u8.wrap x_210)]), (p_207 + 1))))) else (some (.inr (m_205)))
def image_Encode_L26 (x_180 : api_Block) : ((List Int) × Nat) → Option (((List Int) × Nat) ⊕ (List Int))
  | (xs_199, __200) => if (__200 : Int) < 1 then (([x_180.Label][__200]?).bind fun x_203 => (loop (image_Encode_L27 x_203) (xs_199, 0)).bind (fun e_208 => some (.inl (e_208, (__200 + 1))))) else (some (.inr (xs_199)))
def image_Encode_L25 (x_186 : Int) : ((List Int) × Nat) → Option (((List Int) × Nat) ⊕ (List Int))
  | (m_188, p_190) => if (p_190 : Int) < 4 then (([(x_186.fdiv 16777216), (x_186.fdiv 65536), (x_186.fdiv 256), x_186][p_190]?).bind fun x_193 => need ((m_188.length + 1) * 1 ≤ 140737488355328) (some (.inl ((m_188 ++ [(IntKind.u8.wrap x_193)]), (p_190 + 1))))) else (some (.inr (m_188)))
def image_Encode_L24 (x_180 : api_Block) : ((List Int) × Nat) → Option (((List Int) × Nat) ⊕ (List Int))
  | (xs_182, __183) => if (__183 : Int) < 1 then (([(x_180.Kind.length : Int)][__183]?).bind fun x_186 => (loop (image_Encode_L25 x_186) (xs_182, 0)).bind (fun e_191 => some (.inl (e_191, (__183 + 1))))) else (some (.inr (xs_182)))
def image_Encode_L23 (m : api_Image) : ((List Int) × Nat) → Option (((List Int) × Nat) ⊕ (List Int))
  | (xs_176, x_177) => if (x_177 : Int) < (m.Blocks.length : Int) then ((m.Blocks[x_177]?).bind fun x_180 => (loop (image_Encode_L24 x_180) (xs_176, 0)).bind (fun e_184 => need ((e_184.length + x_180.Kind.length) * 1 ≤ 140737488355328) ((loop (image_Encode_L26 x_180) ((e_184 ++ (x_180.Kind.map fun b => (b.toNat : Int))), 0)).bind (fun e_201 => some (.inl (e_201, (x_177 + 1))))))) else (some (.inr (xs_176)))
def image_Encode_L22 (x_164 : Int) : ((List Int) × Nat) → Option (((List Int) × Nat) ⊕ (List Int))
  | (m_166, p_168) => if (p_168 : Int) < 4 then (([(x_164.fdiv 16777216), (x_164.fdiv 65536), (x_164.fdiv 256), x_164][p_168]?).bind fun x_171 => need ((m_166.length + 1) * 1 ≤ 140737488355328) (some (.inl ((m_166 ++ [(IntKind.u8.wrap x_171)]), (p_168 + 1))))) else (some (.inr (m_166)))
def image_Encode_L21 (m : api_Image) : ((List Int) × Nat) → Option (((List Int) × Nat) ⊕ (List Int))
  | (xs_160, __161) => if (__161 : Int) < 1 then (([(m.Blocks.length : Int)][__161]?).bind fun x_164 => (loop (image_Encode_L22 x_164) (xs_160, 0)).bind (fun e_169 => some (.inl (e_169, (__161 + 1))))) else (some (.inr (xs_160)))
def image_Encode_L20 (x_147 : Int) : ((List Int) × Nat) → Option (((List Int) × Nat) ⊕ (List Int))
  | (m_149, p_151) => if (p_151 : Int) < 4 then (([(x_147.fdiv 16777216), (x_147.fdiv 65536), (x_147.fdiv 256), x_147][p_151]?).bind fun x_154 => need ((m_149.length + 1) * 1 ≤ 140737488355328) (some (.inl ((m_149 ++ [(IntKind.u8.wrap x_154)]), (p_151 + 1))))) else (some (.inr (m_149)))
def image_Encode_L19 (x_141 : api_Var) : ((List Int) × Nat) → Option (((List Int) × Nat) ⊕ (List Int))
  | (xs_143, __144) => if (__144 : Int) < 6 then (([x_141.Type_.Kind, x_141.Type_.Low, x_141.Type_.Len, x_141.Mode, x_141.Label, x_141.Safe][__144]?).bind fun x_147 => (loop (image_Encode_L20 x_147) (xs_143, 0)).bind (fun e_152 => some (.inl (e_152, (__144 + 1))))) else (some (.inr (xs_143)))
def image_Encode_L18 (m : api_Image) : ((List Int) × Nat) → Option (((List Int) × Nat) ⊕ (List Int))
  | (xs_137, x_138) => if (x_138 : Int) < (m.Vars.length : Int) then ((m.Vars[x_138]?).bind fun x_141 => (loop (image_Encode_L19 x_141) (xs_137, 0)).bind (fun e_145 => some (.inl (e_145, (x_138 + 1))))) else (some (.inr (xs_137)))
def image_Encode_L17 (x_125 : Int) : ((List Int) × Nat) → Option (((List Int) × Nat) ⊕ (List Int))
  | (m_127, p_129) => if (p_129 : Int) < 4 then (([(x_125.fdiv 16777216), (x_125.fdiv 65536), (x_125.fdiv 256), x_125][p_129]?).bind fun x_132 => need ((m_127.length + 1) * 1 ≤ 140737488355328) (some (.inl ((m_127 ++ [(IntKind.u8.wrap x_132)]), (p_129 + 1))))) else (some (.inr (m_127)))
def image_Encode_L16 (m : api_Image) : ((List Int) × Nat) → Option (((List Int) × Nat) ⊕ (List Int))
  | (xs_121, __122) => if (__122 : Int) < 1 then (([(m.Vars.length : Int)][__122]?).bind fun x_125 => (loop (image_Encode_L17 x_125) (xs_121, 0)).bind (fun e_130 => some (.inl (e_130, (__122 + 1))))) else (some (.inr (xs_121)))
def image_Encode_L15 (x_108 : Int) : ((List Int) × Nat) → Option (((List Int) × Nat) ⊕ (List Int))
  | (m_110, p_112) => if (p_112 : Int) < 4 then (([(x_108.fdiv 16777216), (x_108.fdiv 65536), (x_108.fdiv 256), x_108][p_112]?).bind fun x_115 => need ((m_110.length + 1) * 1 ≤ 140737488355328) (some (.inl ((m_110 ++ [(IntKind.u8.wrap x_115)]), (p_112 + 1))))) else (some (.inr (m_110)))
def image_Encode_L14 (x_102 : api_Site) : ((List Int) × Nat) → Option (((List Int) × Nat) ⊕ (List Int))
  | (xs_104, __105) => if (__105 : Int) < 2 then (([x_102.From, x_102.To][__105]?).bind fun x_108 => (loop (image_Encode_L15 x_108) (xs_104, 0)).bind (fun e_113 => some (.inl (e_113, (__105 + 1))))) else (some (.inr (xs_104)))
def image_Encode_L13 (m : api_Image) : ((List Int) × Nat) → Option (((List Int) × Nat) ⊕ (List Int))
  | (xs_98, x_99) => if (x_99 : Int) < (m.Sites.length : Int) then ((m.Sites[x_99]?).bind fun x_102 => (loop (image_Encode_L14 x_102) (xs_98, 0)).bind (fun e_106 => some (.inl (e_106, (x_99 + 1))))) else (some (.inr (xs_98)))
def image_Encode_L12 (x_86 : Int) : ((List Int) × Nat) → Option (((List Int) × Nat) ⊕ (List Int))
  | (m_88, p_90) => if (p_90 : Int) < 4 then (([(x_86.fdiv 16777216), (x_86.fdiv 65536), (x_86.fdiv 256), x_86][p_90]?).bind fun x_93 => need ((m_88.length + 1) * 1 ≤ 140737488355328) (some (.inl ((m_88 ++ [(IntKind.u8.wrap x_93)]), (p_90 + 1))))) else (some (.inr (m_88)))
def image_Encode_L11 (m : api_Image) : ((List Int) × Nat) → Option (((List Int) × Nat) ⊕ (List Int))
  | (xs_82, __83) => if (__83 : Int) < 1 then (([(m.Sites.length : Int)][__83]?).bind fun x_86 => (loop (image_Encode_L12 x_86) (xs_82, 0)).bind (fun e_91 => some (.inl (e_91, (__83 + 1))))) else (some (.inr (xs_82)))
def image_Encode_L10 (x_69 : Int) : ((List Int) × Nat) → Option (((List Int) × Nat) ⊕ (List Int))
  | (m_71, p_73) => if (p_73 : Int) < 4 then (([(x_69.fdiv 16777216), (x_69.fdiv 65536), (x_69.fdiv 256), x_69][p_73]?).bind fun x_76 => need ((m_71.length + 1) * 1 ≤ 140737488355328) (some (.inl ((m_71 ++ [(IntKind.u8.wrap x_76)]), (p_73 + 1))))) else (some (.inr (m_71)))
def image_Encode_L9 (x_63 : A2 Int) : ((List Int) × Nat) → Option (((List Int) × Nat) ⊕ (List Int))
  | (xs_65, __66) => if (__66 : Int) < 2 then (([x_63.a0, x_63.a1][__66]?).bind fun x_69 => (loop (image_Encode_L10 x_69) (xs_65, 0)).bind (fun e_74 => some (.inl (e_74, (__66 + 1))))) else (some (.inr (xs_65)))
def image_Encode_L8 (m : api_Image) : ((List Int) × Nat) → Option (((List Int) × Nat) ⊕ (List Int))
  | (xs_59, x_60) => if (x_60 : Int) < (m.Lattice.Below.length : Int) then ((m.Lattice.Below[x_60]?).bind fun x_63 => (loop (image_Encode_L9 x_63) (xs_59, 0)).bind (fun e_67 => some (.inl (e_67, (x_60 + 1))))) else (some (.inr (xs_59)))
def image_Encode_L7 (x_47 : Int) : ((List Int) × Nat) → Option (((List Int) × Nat) ⊕ (List Int))
  | (m_49, p_51) => if (p_51 : Int) < 4 then (([(x_47.fdiv 16777216), (x_47.fdiv 65536), (x_47.fdiv 256), x_47][p_51]?).bind fun x_54 => need ((m_49.length + 1) * 1 ≤ 140737488355328) (some (.inl ((m_49 ++ [(IntKind.u8.wrap x_54)]), (p_51 + 1))))) else (some (.inr (m_49)))
def image_Encode_L6 (m : api_Image) : ((List Int) × Nat) → Option (((List Int) × Nat) ⊕ (List Int))
  | (xs_43, __44) => if (__44 : Int) < 1 then (([(m.Lattice.Below.length : Int)][__44]?).bind fun x_47 => (loop (image_Encode_L7 x_47) (xs_43, 0)).bind (fun e_52 => some (.inl (e_52, (__44 + 1))))) else (some (.inr (xs_43)))
def image_Encode_L5 (x_29 : Int) : ((List Int) × Nat) → Option (((List Int) × Nat) ⊕ (List Int))
  | (m_31, p_33) => if (p_33 : Int) < 4 then (([(x_29.fdiv 16777216), (x_29.fdiv 65536), (x_29.fdiv 256), x_29][p_33]?).bind fun x_36 => need ((m_31.length + 1) * 1 ≤ 140737488355328) (some (.inl ((m_31 ++ [(IntKind.u8.wrap x_36)]), (p_33 + 1))))) else (some (.inr (m_31)))
def image_Encode_L4 (x_23 : Str) : ((List Int) × Nat) → Option (((List Int) × Nat) ⊕ (List Int))
  | (xs_25, __26) => if (__26 : Int) < 1 then (([(x_23.length : Int)][__26]?).bind fun x_29 => (loop (image_Encode_L5 x_29) (xs_25, 0)).bind (fun e_34 => some (.inl (e_34, (__26 + 1))))) else (some (.inr (xs_25)))
def image_Encode_L3 (m : api_Image) : ((List Int) × Nat) → Option (((List Int) × Nat) ⊕ (List Int))
  | (xs_19, x_20) => if (x_20 : Int) < (m.Lattice.Names.length : Int) then ((m.Lattice.Names[x_20]?).bind fun x_23 => (loop (image_Encode_L4 x_23) (xs_19, 0)).bind (fun e_27 => need ((e_27.length + x_23.length) * 1 ≤ 140737488355328) (some (.inl ((e_27 ++ (x_23.map fun b => (b.toNat : Int))), (x_20 + 1)))))) else (some (.inr (xs_19)))
def image_Encode_L2 (x_7 : Int) : ((List Int) × Nat) → Option (((List Int) × Nat) ⊕ (List Int))
  | (m_9, p_11) => if (p_11 : Int) < 4 then (([(x_7.fdiv 16777216), (x_7.fdiv 65536), (x_7.fdiv 256), x_7][p_11]?).bind fun x_14 => need ((m_9.length + 1) * 1 ≤ 140737488355328) (some (.inl ((m_9 ++ [(IntKind.u8.wrap x_14)]), (p_11 + 1))))) else (some (.inr (m_9)))
def image_Encode_L1 (m : api_Image) : ((List Int) × Nat) → Option (((List Int) × Nat) ⊕ (List Int))
  | (xs_3, __4) => if (__4 : Int) < 1 then (([(m.Lattice.Names.length : Int)][__4]?).bind fun x_7 => (loop (image_Encode_L2 x_7) (xs_3, 0)).bind (fun e_12 => some (.inl (e_12, (__4 + 1))))) else (some (.inr (xs_3)))
def image_Encode (m : api_Image) : Option (Str × Int) :=
  (image_Check m).bind fun r_1 => if r_1 = 0 then ((loop (image_Encode_L1 m) ([76, 90, 82, 49], 0)).bind (fun e_5 => (loop (image_Encode_L3 m) (e_5, 0)).bind (fun e_21 => (loop (image_Encode_L6 m) (e_21, 0)).bind (fun e_45 => (loop (image_Encode_L8 m) (e_45, 0)).bind (fun e_61 => (loop (image_Encode_L11 m) (e_61, 0)).bind (fun e_84 => (loop (image_Encode_L13 m) (e_84, 0)).bind (fun e_100 => (loop (image_Encode_L16 m) (e_100, 0)).bind (fun e_123 => (loop (image_Encode_L18 m) (e_123, 0)).bind (fun e_139 => (loop (image_Encode_L21 m) (e_139, 0)).bind (fun e_162 => (loop (image_Encode_L23 m) (e_162, 0)).bind (fun e_178 => (loop (image_Encode_L28 m) (e_178, 0)).bind (fun e_218 => (loop (image_Encode_L30 m) (e_218, 0)).bind (fun e_234 => (loop (image_Encode_L35 m) (e_234, 0)).bind (fun e_273 => some ((iBytes e_273), 0))))))))))))))) else (some ([], r_1))
end
theorem image_Encode_ok {m : api_Image} {r : Str × Int} (h : image_Encode m = some r) :
    Pu Tryz.prog 7 [.agg (e_api_Image m)] (.tup [.one (.str r.1), .one (.int .i64 r.2)]) := by
  have F := trivial; have R := trivial
  refine pA Tryz.func7 ?_
  simp only [Tryz.f7]
  unfold image_Encode at h
  refine bi h fun r_1 h hr_1 => ?_
  refine tt ?_
  repeat (first | (with_reducible intro _) | (with_reducible refine and_i ?_ ?_; exact ss))
  refine cS (image_Check_ok hr_1) ?_
  refine fi h F (fun h _ F => ?_) (fun h _ F => ?_)
  refine tt ?_
  repeat (first | (with_reducible intro _) | (with_reducible refine and_i ?_ ?_; exact ss))
  refine iS Tryz.func15 ?_
  simp only [Tryz.f15]
  refine bi h fun e_5 h he_5 => ?_
  refine tt ?_
  repeat (first | (with_reducible intro _) | (with_reducible refine and_i ?_ ?_; exact ss))
  refine lE (fun (s__ : (List Int) × Nat) (a__ : Nat) => match s__, a__ with | (xs_3, __4), v_2 => ⟨[(0, .one (.ref 2 0 0 0)), (6, .one (.slf ([(m.Lattice.Names.length : Int)].map eI))), (7, .one (.int .i64 1)), (8, .one (.int .i64 (__4 : Int)))], [.cells 0 7 [[.sl (m.Lattice.Names.map eS), .sl (m.Lattice.Below.map (eA2 eI)), .sl (m.Sites.map e_api_Site), .sl (m.Vars.map e_api_Var), .sl (m.Blocks.map e_api_Block), .sl (m.Tasks.map e_api_Task), .sl (m.Code.map (eL e_api_Ins))]], .cells v_2 1 (xs_3.map (eK .u8)), .cells 0 1 [[.msl 1 v_2 0 xs_3.length]]]⟩) (fun (e__ : List Int) (b__ : Nat) => match e__, b__ with | e_5, b6 => ⟨[], [.cells 0 7 [[.sl (m.Lattice.Names.map eS), .sl (m.Lattice.Below.map (eA2 eI)), .sl (m.Sites.map e_api_Site), .sl (m.Vars.map e_api_Var), .sl (m.Blocks.map e_api_Block), .sl (m.Tasks.map e_api_Task), .sl (m.Code.map (eL e_api_Ins))]], .cells b6 1 (e_5.map (eK .u8)), .cells 0 1 [[.msl 1 b6 0 e_5.length]]]⟩) (fun (_ : List Int) => some 0) 0 he_5 ?_ ?_
  intro i6 b6 hi6
  obtain rfl := Option.some.inj hi6
  dsimp only at h ⊢
  refine bi h fun e_21 h he_21 => ?_
  refine tt ?_
  repeat (first | (with_reducible intro _) | (with_reducible refine and_i ?_ ?_; exact ss))
  refine lE (fun (s__ : (List Int) × Nat) (a__ : Nat) => match s__, a__ with | (xs_19, x_20), v_18 => ⟨[(1, .one (.ref 0 0 0 0)), (5, .one (.ref 2 0 0 0)), (38, .one (.sl (m.Lattice.Names.map eS))), (39, .one (.int .i64 (m.Lattice.Names.length : Int))), (40, .one (.int .i64 (x_20 : Int)))], [.cells 0 7 [[.sl (m.Lattice.Names.map eS), .sl (m.Lattice.Below.map (eA2 eI)), .sl (m.Sites.map e_api_Site), .sl (m.Vars.map e_api_Var), .sl (m.Blocks.map e_api_Block), .sl (m.Tasks.map e_api_Task), .sl (m.Code.map (eL e_api_Ins))]], .cells v_18 1 (xs_19.map (eK .u8)), .cells 0 1 [[.msl 1 v_18 0 xs_19.length]]]⟩) (fun (e__ : List Int) (b__ : Nat) => match e__, b__ with | e_21, b22 => ⟨[(1, .one (.ref 0 0 0 0)), (5, .one (.ref 2 0 0 0))], [.cells 0 7 [[.sl (m.Lattice.Names.map eS), .sl (m.Lattice.Below.map (eA2 eI)), .sl (m.Sites.map e_api_Site), .sl (m.Vars.map e_api_Var), .sl (m.Blocks.map e_api_Block), .sl (m.Tasks.map e_api_Task), .sl (m.Code.map (eL e_api_Ins))]], .cells b22 1 (e_21.map (eK .u8)), .cells 0 1 [[.msl 1 b22 0 e_21.length]]]⟩) (fun (_ : List Int) => some 0) b6 he_21 ?_ ?_
  intro i22 b22 hi22
  obtain rfl := Option.some.inj hi22
  dsimp only at h ⊢
  refine tt ?_
  repeat (first | (with_reducible intro _) | (with_reducible refine and_i ?_ ?_; exact ss))
  refine iS Tryz.func15 ?_
  simp only [Tryz.f15]
  refine bi h fun e_45 h he_45 => ?_
  refine tt ?_
  repeat (first | (with_reducible intro _) | (with_reducible refine and_i ?_ ?_; exact ss))
  refine lE (fun (s__ : (List Int) × Nat) (a__ : Nat) => match s__, a__ with | (xs_43, __44), v_42 => ⟨[(0, .one (.ref 2 0 0 0)), (6, .one (.slf ([(m.Lattice.Below.length : Int)].map eI))), (7, .one (.int .i64 1)), (8, .one (.int .i64 (__44 : Int)))], [.cells 0 7 [[.sl (m.Lattice.Names.map eS), .sl (m.Lattice.Below.map (eA2 eI)), .sl (m.Sites.map e_api_Site), .sl (m.Vars.map e_api_Var), .sl (m.Blocks.map e_api_Block), .sl (m.Tasks.map e_api_Task), .sl (m.Code.map (eL e_api_Ins))]], .cells v_42 1 (xs_43.map (eK .u8)), .cells 0 1 [[.msl 1 v_42 0 xs_43.length]]]⟩) (fun (e__ : List Int) (b__ : Nat) => match e__, b__ with | e_45, b46 => ⟨[], [.cells 0 7 [[.sl (m.Lattice.Names.map eS), .sl (m.Lattice.Below.map (eA2 eI)), .sl (m.Sites.map e_api_Site), .sl (m.Vars.map e_api_Var), .sl (m.Blocks.map e_api_Block), .sl (m.Tasks.map e_api_Task), .sl (m.Code.map (eL e_api_Ins))]], .cells b46 1 (e_45.map (eK .u8)), .cells 0 1 [[.msl 1 b46 0 e_45.length]]]⟩) (fun (_ : List Int) => some 0) b22 he_45 ?_ ?_
  intro i46 b46 hi46
  obtain rfl := Option.some.inj hi46
  dsimp only at h ⊢
  refine bi h fun e_61 h he_61 => ?_
  refine tt ?_
  repeat (first | (with_reducible intro _) | (with_reducible refine and_i ?_ ?_; exact ss))
  refine lE (fun (s__ : (List Int) × Nat) (a__ : Nat) => match s__, a__ with | (xs_59, x_60), v_58 => ⟨[(1, .one (.ref 0 0 0 0)), (5, .one (.ref 2 0 0 0)), (57, .one (.sl (m.Lattice.Below.map (eA2 eI)))), (58, .one (.int .i64 (m.Lattice.Below.length : Int))), (59, .one (.int .i64 (x_60 : Int)))], [.cells 0 7 [[.sl (m.Lattice.Names.map eS), .sl (m.Lattice.Below.map (eA2 eI)), .sl (m.Sites.map e_api_Site), .sl (m.Vars.map e_api_Var), .sl (m.Blocks.map e_api_Block), .sl (m.Tasks.map e_api_Task), .sl (m.Code.map (eL e_api_Ins))]], .cells v_58 1 (xs_59.map (eK .u8)), .cells 0 1 [[.msl 1 v_58 0 xs_59.length]]]⟩) (fun (e__ : List Int) (b__ : Nat) => match e__, b__ with | e_61, b62 => ⟨[(1, .one (.ref 0 0 0 0)), (5, .one (.ref 2 0 0 0))], [.cells 0 7 [[.sl (m.Lattice.Names.map eS), .sl (m.Lattice.Below.map (eA2 eI)), .sl (m.Sites.map e_api_Site), .sl (m.Vars.map e_api_Var), .sl (m.Blocks.map e_api_Block), .sl (m.Tasks.map e_api_Task), .sl (m.Code.map (eL e_api_Ins))]], .cells b62 1 (e_61.map (eK .u8)), .cells 0 1 [[.msl 1 b62 0 e_61.length]]]⟩) (fun (_ : List Int) => some 2) b46 he_61 ?_ ?_
  intro i62 b62 hi62
  obtain rfl := Option.some.inj hi62
  dsimp only at h ⊢
  refine tt ?_
  repeat (first | (with_reducible intro _) | (with_reducible refine and_i ?_ ?_; exact ss))
  refine iS Tryz.func15 ?_
  simp only [Tryz.f15]
  refine bi h fun e_84 h he_84 => ?_
  refine tt ?_
  repeat (first | (with_reducible intro _) | (with_reducible refine and_i ?_ ?_; exact ss))
  refine lE (fun (s__ : (List Int) × Nat) (a__ : Nat) => match s__, a__ with | (xs_82, __83), v_81 => ⟨[(0, .one (.ref 2 0 0 0)), (6, .one (.slf ([(m.Sites.length : Int)].map eI))), (7, .one (.int .i64 1)), (8, .one (.int .i64 (__83 : Int)))], [.cells 0 7 [[.sl (m.Lattice.Names.map eS), .sl (m.Lattice.Below.map (eA2 eI)), .sl (m.Sites.map e_api_Site), .sl (m.Vars.map e_api_Var), .sl (m.Blocks.map e_api_Block), .sl (m.Tasks.map e_api_Task), .sl (m.Code.map (eL e_api_Ins))]], .cells v_81 1 (xs_82.map (eK .u8)), .cells 0 1 [[.msl 1 v_81 0 xs_82.length]]]⟩) (fun (e__ : List Int) (b__ : Nat) => match e__, b__ with | e_84, b85 => ⟨[], [.cells 0 7 [[.sl (m.Lattice.Names.map eS), .sl (m.Lattice.Below.map (eA2 eI)), .sl (m.Sites.map e_api_Site), .sl (m.Vars.map e_api_Var), .sl (m.Blocks.map e_api_Block), .sl (m.Tasks.map e_api_Task), .sl (m.Code.map (eL e_api_Ins))]], .cells b85 1 (e_84.map (eK .u8)), .cells 0 1 [[.msl 1 b85 0 e_84.length]]]⟩) (fun (_ : List Int) => some 0) b62 he_84 ?_ ?_
  intro i85 b85 hi85
  obtain rfl := Option.some.inj hi85
  dsimp only at h ⊢
  refine bi h fun e_100 h he_100 => ?_
  refine tt ?_
  repeat (first | (with_reducible intro _) | (with_reducible refine and_i ?_ ?_; exact ss))
  refine lE (fun (s__ : (List Int) × Nat) (a__ : Nat) => match s__, a__ with | (xs_98, x_99), v_97 => ⟨[(1, .one (.ref 0 0 0 0)), (5, .one (.ref 2 0 0 0)), (74, .one (.sl (m.Sites.map e_api_Site))), (75, .one (.int .i64 (m.Sites.length : Int))), (76, .one (.int .i64 (x_99 : Int)))], [.cells 0 7 [[.sl (m.Lattice.Names.map eS), .sl (m.Lattice.Below.map (eA2 eI)), .sl (m.Sites.map e_api_Site), .sl (m.Vars.map e_api_Var), .sl (m.Blocks.map e_api_Block), .sl (m.Tasks.map e_api_Task), .sl (m.Code.map (eL e_api_Ins))]], .cells v_97 1 (xs_98.map (eK .u8)), .cells 0 1 [[.msl 1 v_97 0 xs_98.length]]]⟩) (fun (e__ : List Int) (b__ : Nat) => match e__, b__ with | e_100, b101 => ⟨[(1, .one (.ref 0 0 0 0)), (5, .one (.ref 2 0 0 0))], [.cells 0 7 [[.sl (m.Lattice.Names.map eS), .sl (m.Lattice.Below.map (eA2 eI)), .sl (m.Sites.map e_api_Site), .sl (m.Vars.map e_api_Var), .sl (m.Blocks.map e_api_Block), .sl (m.Tasks.map e_api_Task), .sl (m.Code.map (eL e_api_Ins))]], .cells b101 1 (e_100.map (eK .u8)), .cells 0 1 [[.msl 1 b101 0 e_100.length]]]⟩) (fun (_ : List Int) => some 4) b85 he_100 ?_ ?_
  intro i101 b101 hi101
  obtain rfl := Option.some.inj hi101
  dsimp only at h ⊢
  refine tt ?_
  repeat (first | (with_reducible intro _) | (with_reducible refine and_i ?_ ?_; exact ss))
  refine iS Tryz.func15 ?_
  simp only [Tryz.f15]
  refine bi h fun e_123 h he_123 => ?_
  refine tt ?_
  repeat (first | (with_reducible intro _) | (with_reducible refine and_i ?_ ?_; exact ss))
  refine lE (fun (s__ : (List Int) × Nat) (a__ : Nat) => match s__, a__ with | (xs_121, __122), v_120 => ⟨[(0, .one (.ref 2 0 0 0)), (6, .one (.slf ([(m.Vars.length : Int)].map eI))), (7, .one (.int .i64 1)), (8, .one (.int .i64 (__122 : Int)))], [.cells 0 7 [[.sl (m.Lattice.Names.map eS), .sl (m.Lattice.Below.map (eA2 eI)), .sl (m.Sites.map e_api_Site), .sl (m.Vars.map e_api_Var), .sl (m.Blocks.map e_api_Block), .sl (m.Tasks.map e_api_Task), .sl (m.Code.map (eL e_api_Ins))]], .cells v_120 1 (xs_121.map (eK .u8)), .cells 0 1 [[.msl 1 v_120 0 xs_121.length]]]⟩) (fun (e__ : List Int) (b__ : Nat) => match e__, b__ with | e_123, b124 => ⟨[], [.cells 0 7 [[.sl (m.Lattice.Names.map eS), .sl (m.Lattice.Below.map (eA2 eI)), .sl (m.Sites.map e_api_Site), .sl (m.Vars.map e_api_Var), .sl (m.Blocks.map e_api_Block), .sl (m.Tasks.map e_api_Task), .sl (m.Code.map (eL e_api_Ins))]], .cells b124 1 (e_123.map (eK .u8)), .cells 0 1 [[.msl 1 b124 0 e_123.length]]]⟩) (fun (_ : List Int) => some 0) b101 he_123 ?_ ?_
  intro i124 b124 hi124
  obtain rfl := Option.some.inj hi124
  dsimp only at h ⊢
  refine bi h fun e_139 h he_139 => ?_
  refine tt ?_
  repeat (first | (with_reducible intro _) | (with_reducible refine and_i ?_ ?_; exact ss))
  refine lE (fun (s__ : (List Int) × Nat) (a__ : Nat) => match s__, a__ with | (xs_137, x_138), v_136 => ⟨[(1, .one (.ref 0 0 0 0)), (5, .one (.ref 2 0 0 0)), (95, .one (.sl (m.Vars.map e_api_Var))), (96, .one (.int .i64 (m.Vars.length : Int))), (97, .one (.int .i64 (x_138 : Int)))], [.cells 0 7 [[.sl (m.Lattice.Names.map eS), .sl (m.Lattice.Below.map (eA2 eI)), .sl (m.Sites.map e_api_Site), .sl (m.Vars.map e_api_Var), .sl (m.Blocks.map e_api_Block), .sl (m.Tasks.map e_api_Task), .sl (m.Code.map (eL e_api_Ins))]], .cells v_136 1 (xs_137.map (eK .u8)), .cells 0 1 [[.msl 1 v_136 0 xs_137.length]]]⟩) (fun (e__ : List Int) (b__ : Nat) => match e__, b__ with | e_139, b140 => ⟨[(1, .one (.ref 0 0 0 0)), (5, .one (.ref 2 0 0 0))], [.cells 0 7 [[.sl (m.Lattice.Names.map eS), .sl (m.Lattice.Below.map (eA2 eI)), .sl (m.Sites.map e_api_Site), .sl (m.Vars.map e_api_Var), .sl (m.Blocks.map e_api_Block), .sl (m.Tasks.map e_api_Task), .sl (m.Code.map (eL e_api_Ins))]], .cells b140 1 (e_139.map (eK .u8)), .cells 0 1 [[.msl 1 b140 0 e_139.length]]]⟩) (fun (_ : List Int) => some 6) b124 he_139 ?_ ?_
  intro i140 b140 hi140
  obtain rfl := Option.some.inj hi140
  dsimp only at h ⊢
  refine tt ?_
  repeat (first | (with_reducible intro _) | (with_reducible refine and_i ?_ ?_; exact ss))
  refine iS Tryz.func15 ?_
  simp only [Tryz.f15]
  refine bi h fun e_162 h he_162 => ?_
  refine tt ?_
  repeat (first | (with_reducible intro _) | (with_reducible refine and_i ?_ ?_; exact ss))
  refine lE (fun (s__ : (List Int) × Nat) (a__ : Nat) => match s__, a__ with | (xs_160, __161), v_159 => ⟨[(0, .one (.ref 2 0 0 0)), (6, .one (.slf ([(m.Blocks.length : Int)].map eI))), (7, .one (.int .i64 1)), (8, .one (.int .i64 (__161 : Int)))], [.cells 0 7 [[.sl (m.Lattice.Names.map eS), .sl (m.Lattice.Below.map (eA2 eI)), .sl (m.Sites.map e_api_Site), .sl (m.Vars.map e_api_Var), .sl (m.Blocks.map e_api_Block), .sl (m.Tasks.map e_api_Task), .sl (m.Code.map (eL e_api_Ins))]], .cells v_159 1 (xs_160.map (eK .u8)), .cells 0 1 [[.msl 1 v_159 0 xs_160.length]]]⟩) (fun (e__ : List Int) (b__ : Nat) => match e__, b__ with | e_162, b163 => ⟨[], [.cells 0 7 [[.sl (m.Lattice.Names.map eS), .sl (m.Lattice.Below.map (eA2 eI)), .sl (m.Sites.map e_api_Site), .sl (m.Vars.map e_api_Var), .sl (m.Blocks.map e_api_Block), .sl (m.Tasks.map e_api_Task), .sl (m.Code.map (eL e_api_Ins))]], .cells b163 1 (e_162.map (eK .u8)), .cells 0 1 [[.msl 1 b163 0 e_162.length]]]⟩) (fun (_ : List Int) => some 0) b140 he_162 ?_ ?_
  intro i163 b163 hi163
  obtain rfl := Option.some.inj hi163
  dsimp only at h ⊢
  refine bi h fun e_178 h he_178 => ?_
  refine tt ?_
  repeat (first | (with_reducible intro _) | (with_reducible refine and_i ?_ ?_; exact ss))
  refine lE (fun (s__ : (List Int) × Nat) (a__ : Nat) => match s__, a__ with | (xs_176, x_177), v_175 => ⟨[(1, .one (.ref 0 0 0 0)), (5, .one (.ref 2 0 0 0)), (127, .one (.sl (m.Blocks.map e_api_Block))), (128, .one (.int .i64 (m.Blocks.length : Int))), (129, .one (.int .i64 (x_177 : Int)))], [.cells 0 7 [[.sl (m.Lattice.Names.map eS), .sl (m.Lattice.Below.map (eA2 eI)), .sl (m.Sites.map e_api_Site), .sl (m.Vars.map e_api_Var), .sl (m.Blocks.map e_api_Block), .sl (m.Tasks.map e_api_Task), .sl (m.Code.map (eL e_api_Ins))]], .cells v_175 1 (xs_176.map (eK .u8)), .cells 0 1 [[.msl 1 v_175 0 xs_176.length]]]⟩) (fun (e__ : List Int) (b__ : Nat) => match e__, b__ with | e_178, b179 => ⟨[(1, .one (.ref 0 0 0 0)), (5, .one (.ref 2 0 0 0))], [.cells 0 7 [[.sl (m.Lattice.Names.map eS), .sl (m.Lattice.Below.map (eA2 eI)), .sl (m.Sites.map e_api_Site), .sl (m.Vars.map e_api_Var), .sl (m.Blocks.map e_api_Block), .sl (m.Tasks.map e_api_Task), .sl (m.Code.map (eL e_api_Ins))]], .cells b179 1 (e_178.map (eK .u8)), .cells 0 1 [[.msl 1 b179 0 e_178.length]]]⟩) (fun (_ : List Int) => some 8) b163 he_178 ?_ ?_
  intro i179 b179 hi179
  obtain rfl := Option.some.inj hi179
  dsimp only at h ⊢
  refine tt ?_
  repeat (first | (with_reducible intro _) | (with_reducible refine and_i ?_ ?_; exact ss))
  refine iS Tryz.func15 ?_
  simp only [Tryz.f15]
  refine bi h fun e_218 h he_218 => ?_
  refine tt ?_
  repeat (first | (with_reducible intro _) | (with_reducible refine and_i ?_ ?_; exact ss))
  refine lE (fun (s__ : (List Int) × Nat) (a__ : Nat) => match s__, a__ with | (xs_216, __217), v_215 => ⟨[(0, .one (.ref 2 0 0 0)), (6, .one (.slf ([(m.Tasks.length : Int)].map eI))), (7, .one (.int .i64 1)), (8, .one (.int .i64 (__217 : Int)))], [.cells 0 7 [[.sl (m.Lattice.Names.map eS), .sl (m.Lattice.Below.map (eA2 eI)), .sl (m.Sites.map e_api_Site), .sl (m.Vars.map e_api_Var), .sl (m.Blocks.map e_api_Block), .sl (m.Tasks.map e_api_Task), .sl (m.Code.map (eL e_api_Ins))]], .cells v_215 1 (xs_216.map (eK .u8)), .cells 0 1 [[.msl 1 v_215 0 xs_216.length]]]⟩) (fun (e__ : List Int) (b__ : Nat) => match e__, b__ with | e_218, b219 => ⟨[], [.cells 0 7 [[.sl (m.Lattice.Names.map eS), .sl (m.Lattice.Below.map (eA2 eI)), .sl (m.Sites.map e_api_Site), .sl (m.Vars.map e_api_Var), .sl (m.Blocks.map e_api_Block), .sl (m.Tasks.map e_api_Task), .sl (m.Code.map (eL e_api_Ins))]], .cells b219 1 (e_218.map (eK .u8)), .cells 0 1 [[.msl 1 b219 0 e_218.length]]]⟩) (fun (_ : List Int) => some 0) b179 he_218 ?_ ?_
  intro i219 b219 hi219
  obtain rfl := Option.some.inj hi219
  dsimp only at h ⊢
  refine bi h fun e_234 h he_234 => ?_
  refine tt ?_
  repeat (first | (with_reducible intro _) | (with_reducible refine and_i ?_ ?_; exact ss))
  refine lE (fun (s__ : (List Int) × Nat) (a__ : Nat) => match s__, a__ with | (xs_232, x_233), v_231 => ⟨[(1, .one (.ref 0 0 0 0)), (5, .one (.ref 2 0 0 0)), (150, .one (.sl (m.Tasks.map e_api_Task))), (151, .one (.int .i64 (m.Tasks.length : Int))), (152, .one (.int .i64 (x_233 : Int)))], [.cells 0 7 [[.sl (m.Lattice.Names.map eS), .sl (m.Lattice.Below.map (eA2 eI)), .sl (m.Sites.map e_api_Site), .sl (m.Vars.map e_api_Var), .sl (m.Blocks.map e_api_Block), .sl (m.Tasks.map e_api_Task), .sl (m.Code.map (eL e_api_Ins))]], .cells v_231 1 (xs_232.map (eK .u8)), .cells 0 1 [[.msl 1 v_231 0 xs_232.length]]]⟩) (fun (e__ : List Int) (b__ : Nat) => match e__, b__ with | e_234, b235 => ⟨[(1, .one (.ref 0 0 0 0)), (5, .one (.ref 2 0 0 0))], [.cells 0 7 [[.sl (m.Lattice.Names.map eS), .sl (m.Lattice.Below.map (eA2 eI)), .sl (m.Sites.map e_api_Site), .sl (m.Vars.map e_api_Var), .sl (m.Blocks.map e_api_Block), .sl (m.Tasks.map e_api_Task), .sl (m.Code.map (eL e_api_Ins))]], .cells b235 1 (e_234.map (eK .u8)), .cells 0 1 [[.msl 1 b235 0 e_234.length]]]⟩) (fun (_ : List Int) => some 10) b219 he_234 ?_ ?_
  intro i235 b235 hi235
  obtain rfl := Option.some.inj hi235
  dsimp only at h ⊢
  refine bi h fun e_273 h he_273 => ?_
  refine tt ?_
  repeat (first | (with_reducible intro _) | (with_reducible refine and_i ?_ ?_; exact ss))
  refine lE (fun (s__ : (List Int) × Nat) (a__ : Nat) => match s__, a__ with | (xs_271, x_272), v_270 => ⟨[(5, .one (.ref 2 0 0 0)), (169, .one (.sl (m.Code.map (eL e_api_Ins)))), (170, .one (.int .i64 (m.Code.length : Int))), (171, .one (.int .i64 (x_272 : Int)))], [.cells 0 7 [[.sl (m.Lattice.Names.map eS), .sl (m.Lattice.Below.map (eA2 eI)), .sl (m.Sites.map e_api_Site), .sl (m.Vars.map e_api_Var), .sl (m.Blocks.map e_api_Block), .sl (m.Tasks.map e_api_Task), .sl (m.Code.map (eL e_api_Ins))]], .cells v_270 1 (xs_271.map (eK .u8)), .cells 0 1 [[.msl 1 v_270 0 xs_271.length]]]⟩) (fun (e__ : List Int) (b__ : Nat) => match e__, b__ with | e_273, b274 => ⟨[(5, .one (.ref 2 0 0 0))], [.cells 0 7 [[.sl (m.Lattice.Names.map eS), .sl (m.Lattice.Below.map (eA2 eI)), .sl (m.Sites.map e_api_Site), .sl (m.Vars.map e_api_Var), .sl (m.Blocks.map e_api_Block), .sl (m.Tasks.map e_api_Task), .sl (m.Code.map (eL e_api_Ins))]], .cells b274 1 (e_273.map (eK .u8)), .cells 0 1 [[.msl 1 b274 0 e_273.length]]]⟩) (fun (_ : List Int) => some 12) b235 he_273 ?_ ?_
  intro i274 b274 hi274
  obtain rfl := Option.some.inj hi274
  dsimp only at h ⊢
  cases h; exact fin
  intro af274 m274 s274 v_270 o274 hf274 ho274 ih274
  obtain ⟨xs_271, x_272⟩ := s274
  dsimp only [image_Encode_L35] at hf274 ⊢
  refine fl hf274 F (fun hf274 _ F => ?_) (fun hf274 _ F => ?_)
  refine bx hf274 F fun x_275 hf274 hx_275 F => ?_
  refine tt ?_
  repeat (first | (with_reducible intro _) | (with_reducible refine and_i ?_ ?_; exact ss))
  first | refine ⟨by kernel_rfl, [2], [0, 1, 2, 3, 4], [6, 7], by kernel_rfl, ?_⟩ | refine ⟨mo, drawB_i (by kernel_rfl), by kernel_rfl, [2], [0, 1, 2, 3, 4], [6, 7], by kernel_rfl, ?_⟩
  refine bi hf274 fun r_276 hf274 hr_276 => ?_
  refine tt ?_
  repeat (first | (with_reducible intro _) | ((with_reducible refine and_i ?_ ?_); first | ((with_reducible refine sq_i ?_); exact sq_) | exact ss))
  refine cU (code_Encode_ok hr_276) ?_
  refine nd hf274 F fun hf274 F => ?_
  refine tt ?_
  repeat (first | (with_reducible intro _) | ((with_reducible refine and_i ?_ ?_); first | ((with_reducible refine sq_i ?_); exact sq_) | exact ss))
  cases hf274
  refine tt ?_
  refine wn x_272 F fun F => ?_
  exact bk ih274 ho274 (v_270 + 1)
  cases hf274
  refine tt ?_
  exact xt ho274 af274 v_270
  intro af235 m235 s235 v_231 o235 hf235 ho235 ih235
  obtain ⟨xs_232, x_233⟩ := s235
  dsimp only [image_Encode_L30] at hf235 ⊢
  refine fl hf235 F (fun hf235 _ F => ?_) (fun hf235 _ F => ?_)
  refine bx hf235 F fun x_236 hf235 hx_236 F => ?_
  refine tt ?_
  repeat (first | (with_reducible intro _) | (with_reducible refine and_i ?_ ?_; exact ss))
  refine iS Tryz.func15 ?_
  simp only [Tryz.f15]
  refine bi hf235 fun e_240 hf235 he_240 => ?_
  refine tt ?_
  repeat (first | (with_reducible intro _) | (with_reducible refine and_i ?_ ?_; exact ss))
  refine lE (fun (s__ : (List Int) × Nat) (a__ : Nat) => match s__, a__ with | (xs_238, __239), v_237 => ⟨[(0, .one (.ref 2 0 0 0)), (6, .one (.slf ([x_236.Every, x_236.Priority].map eI))), (7, .one (.int .i64 2)), (8, .one (.int .i64 (__239 : Int)))], [.cells 0 7 [[.sl (m.Lattice.Names.map eS), .sl (m.Lattice.Below.map (eA2 eI)), .sl (m.Sites.map e_api_Site), .sl (m.Vars.map e_api_Var), .sl (m.Blocks.map e_api_Block), .sl (m.Tasks.map e_api_Task), .sl (m.Code.map (eL e_api_Ins))]], .cells v_237 1 (xs_238.map (eK .u8)), .cells 0 1 [[.msl 1 v_237 0 xs_238.length]], .cells 0 4 [[.int .i64 x_236.Every, .int .i64 x_236.Priority, .sl (x_236.Budget.map eI), .sl (x_236.Body.map e_api_Stmt)]]]⟩) (fun (e__ : List Int) (b__ : Nat) => match e__, b__ with | e_240, b241 => ⟨[], [.cells 0 7 [[.sl (m.Lattice.Names.map eS), .sl (m.Lattice.Below.map (eA2 eI)), .sl (m.Sites.map e_api_Site), .sl (m.Vars.map e_api_Var), .sl (m.Blocks.map e_api_Block), .sl (m.Tasks.map e_api_Task), .sl (m.Code.map (eL e_api_Ins))]], .cells b241 1 (e_240.map (eK .u8)), .cells 0 1 [[.msl 1 b241 0 e_240.length]], .cells 0 4 [[.int .i64 x_236.Every, .int .i64 x_236.Priority, .sl (x_236.Budget.map eI), .sl (x_236.Body.map e_api_Stmt)]]]⟩) (fun (_ : List Int) => some 0) v_231 he_240 ?_ ?_
  intro i241 b241 hi241
  obtain rfl := Option.some.inj hi241
  dsimp only at hf235 ⊢
  refine tt ?_
  repeat (first | (with_reducible intro _) | (with_reducible refine and_i ?_ ?_; exact ss))
  refine iS Tryz.func15 ?_
  simp only [Tryz.f15]
  refine bi hf235 fun e_256 hf235 he_256 => ?_
  refine tt ?_
  repeat (first | (with_reducible intro _) | (with_reducible refine and_i ?_ ?_; exact ss))
  refine lE (fun (s__ : (List Int) × Nat) (a__ : Nat) => match s__, a__ with | (xs_254, __255), v_253 => ⟨[(0, .one (.ref 2 0 0 0)), (6, .one (.sl (x_236.Budget.map eI))), (7, .one (.int .i64 (x_236.Budget.length : Int))), (8, .one (.int .i64 (__255 : Int)))], [.cells 0 7 [[.sl (m.Lattice.Names.map eS), .sl (m.Lattice.Below.map (eA2 eI)), .sl (m.Sites.map e_api_Site), .sl (m.Vars.map e_api_Var), .sl (m.Blocks.map e_api_Block), .sl (m.Tasks.map e_api_Task), .sl (m.Code.map (eL e_api_Ins))]], .cells v_253 1 (xs_254.map (eK .u8)), .cells 0 1 [[.msl 1 v_253 0 xs_254.length]], .cells 0 4 [[.int .i64 x_236.Every, .int .i64 x_236.Priority, .sl (x_236.Budget.map eI), .sl (x_236.Body.map e_api_Stmt)]]]⟩) (fun (e__ : List Int) (b__ : Nat) => match e__, b__ with | e_256, b257 => ⟨[], [.cells 0 7 [[.sl (m.Lattice.Names.map eS), .sl (m.Lattice.Below.map (eA2 eI)), .sl (m.Sites.map e_api_Site), .sl (m.Vars.map e_api_Var), .sl (m.Blocks.map e_api_Block), .sl (m.Tasks.map e_api_Task), .sl (m.Code.map (eL e_api_Ins))]], .cells b257 1 (e_256.map (eK .u8)), .cells 0 1 [[.msl 1 b257 0 e_256.length]], .cells 0 4 [[.int .i64 x_236.Every, .int .i64 x_236.Priority, .sl (x_236.Budget.map eI), .sl (x_236.Body.map e_api_Stmt)]]]⟩) (fun (_ : List Int) => some 0) b241 he_256 ?_ ?_
  intro i257 b257 hi257
  obtain rfl := Option.some.inj hi257
  dsimp only at hf235 ⊢
  cases hf235
  refine tt ?_
  refine wn x_233 F fun F => ?_
  exact bk ih235 ho235 b257
  intro af257 m257 s257 v_253 o257 hf257 ho257 ih257
  obtain ⟨xs_254, __255⟩ := s257
  dsimp only [image_Encode_L33] at hf257 ⊢
  refine fl hf257 F (fun hf257 _ F => ?_) (fun hf257 _ F => ?_)
  refine bx hf257 F fun x_258 hf257 hx_258 F => ?_
  refine tt ?_
  repeat (first | (with_reducible intro _) | (with_reducible refine and_i ?_ ?_; exact ss))
  refine iS Tryz.func40 ?_
  simp only [Tryz.f40]
  refine tt ?_
  repeat (first | (with_reducible intro _) | (with_reducible refine and_i ?_ ?_; exact ss))
  refine iS Tryz.func42 ?_
  simp only [Tryz.f42]
  refine bi hf257 fun e_263 hf257 he_263 => ?_
  refine tt ?_
  repeat (first | (with_reducible intro _) | (with_reducible refine and_i ?_ ?_; exact ss))
  refine lE (fun (s__ : (List Int) × Nat) (a__ : Nat) => match s__, a__ with | (m_260, p_262), v_259 => ⟨[(0, .one (.msl 1 v_259 0 m_260.length)), (7, .one (.slf ([(x_258.fdiv 16777216), (x_258.fdiv 65536), (x_258.fdiv 256), x_258].map eI))), (8, .one (.int .i64 4)), (9, .one (.int .i64 (p_262 : Int)))], [.cells 0 7 [[.sl (m.Lattice.Names.map eS), .sl (m.Lattice.Below.map (eA2 eI)), .sl (m.Sites.map e_api_Site), .sl (m.Vars.map e_api_Var), .sl (m.Blocks.map e_api_Block), .sl (m.Tasks.map e_api_Task), .sl (m.Code.map (eL e_api_Ins))]], .cells v_259 1 (m_260.map (eK .u8)), .cells 0 1 [[.msl 1 v_253 0 xs_254.length]], .cells 0 4 [[.int .i64 x_236.Every, .int .i64 x_236.Priority, .sl (x_236.Budget.map eI), .sl (x_236.Body.map e_api_Stmt)]]]⟩) (fun (e__ : List Int) (b__ : Nat) => match e__, b__ with | e_263, b264 => ⟨[(0, .one (.msl 1 b264 0 e_263.length))], [.cells 0 7 [[.sl (m.Lattice.Names.map eS), .sl (m.Lattice.Below.map (eA2 eI)), .sl (m.Sites.map e_api_Site), .sl (m.Vars.map e_api_Var), .sl (m.Blocks.map e_api_Block), .sl (m.Tasks.map e_api_Task), .sl (m.Code.map (eL e_api_Ins))]], .cells b264 1 (e_263.map (eK .u8)), .cells 0 1 [[.msl 1 v_253 0 xs_254.length]], .cells 0 4 [[.int .i64 x_236.Every, .int .i64 x_236.Priority, .sl (x_236.Budget.map eI), .sl (x_236.Body.map e_api_Stmt)]]]⟩) (fun (_ : List Int) => some 0) v_253 he_263 ?_ ?_
  intro i264 b264 hi264
  obtain rfl := Option.some.inj hi264
  dsimp only at hf257 ⊢
  cases hf257
  refine tt ?_
  refine wn __255 F fun F => ?_
  exact bk ih257 ho257 b264
  intro af264 m264 s264 v_259 o264 hf264 ho264 ih264
  obtain ⟨m_260, p_262⟩ := s264
  dsimp only [image_Encode_L34] at hf264 ⊢
  refine fi hf264 F (fun hf264 _ F => ?_) (fun hf264 _ F => ?_)
  refine bx hf264 F fun x_265 hf264 hx_265 F => ?_
  refine ln F fun F => ?_
  have R := And.intro (show ([[.int .i64 (x_258.fdiv 16777216)], [.int .i64 (x_258.fdiv 65536)], [.int .i64 (x_258.fdiv 256)], [.int .i64 x_258]] : List (List C))[p_262]? = some [.int .i64 x_265] from q_map (f := eI) hx_265) R
  refine nd hf264 F fun hf264 F => ?_
  cases hf264
  refine tt ?_
  repeat (first | (with_reducible intro _) | (with_reducible refine and_i ?_ ?_; exact ss))
  refine wn p_262 F fun F => ?_
  exact bk ih264 ho264 (v_259 + 1)
  cases hf264
  refine tt ?_
  exact xt ho264 af264 v_259
  cases hf257
  refine tt ?_
  exact xt ho257 af257 v_253
  intro af241 m241 s241 v_237 o241 hf241 ho241 ih241
  obtain ⟨xs_238, __239⟩ := s241
  dsimp only [image_Encode_L31] at hf241 ⊢
  refine fi hf241 F (fun hf241 _ F => ?_) (fun hf241 _ F => ?_)
  refine bx hf241 F fun x_242 hf241 hx_242 F => ?_
  refine ln F fun F => ?_
  have R := And.intro (show ([[.int .i64 x_236.Every], [.int .i64 x_236.Priority]] : List (List C))[__239]? = some [.int .i64 x_242] from q_map (f := eI) hx_242) R
  refine tt ?_
  repeat (first | (with_reducible intro _) | (with_reducible refine and_i ?_ ?_; exact ss))
  refine iS Tryz.func40 ?_
  simp only [Tryz.f40]
  refine tt ?_
  repeat (first | (with_reducible intro _) | (with_reducible refine and_i ?_ ?_; exact ss))
  refine iS Tryz.func42 ?_
  simp only [Tryz.f42]
  refine bi hf241 fun e_247 hf241 he_247 => ?_
  refine tt ?_
  repeat (first | (with_reducible intro _) | (with_reducible refine and_i ?_ ?_; exact ss))
  refine lE (fun (s__ : (List Int) × Nat) (a__ : Nat) => match s__, a__ with | (m_244, p_246), v_243 => ⟨[(0, .one (.msl 1 v_243 0 m_244.length)), (7, .one (.slf ([(x_242.fdiv 16777216), (x_242.fdiv 65536), (x_242.fdiv 256), x_242].map eI))), (8, .one (.int .i64 4)), (9, .one (.int .i64 (p_246 : Int)))], [.cells 0 7 [[.sl (m.Lattice.Names.map eS), .sl (m.Lattice.Below.map (eA2 eI)), .sl (m.Sites.map e_api_Site), .sl (m.Vars.map e_api_Var), .sl (m.Blocks.map e_api_Block), .sl (m.Tasks.map e_api_Task), .sl (m.Code.map (eL e_api_Ins))]], .cells v_243 1 (m_244.map (eK .u8)), .cells 0 1 [[.msl 1 v_237 0 xs_238.length]], .cells 0 4 [[.int .i64 x_236.Every, .int .i64 x_236.Priority, .sl (x_236.Budget.map eI), .sl (x_236.Body.map e_api_Stmt)]]]⟩) (fun (e__ : List Int) (b__ : Nat) => match e__, b__ with | e_247, b248 => ⟨[(0, .one (.msl 1 b248 0 e_247.length))], [.cells 0 7 [[.sl (m.Lattice.Names.map eS), .sl (m.Lattice.Below.map (eA2 eI)), .sl (m.Sites.map e_api_Site), .sl (m.Vars.map e_api_Var), .sl (m.Blocks.map e_api_Block), .sl (m.Tasks.map e_api_Task), .sl (m.Code.map (eL e_api_Ins))]], .cells b248 1 (e_247.map (eK .u8)), .cells 0 1 [[.msl 1 v_237 0 xs_238.length]], .cells 0 4 [[.int .i64 x_236.Every, .int .i64 x_236.Priority, .sl (x_236.Budget.map eI), .sl (x_236.Body.map e_api_Stmt)]]]⟩) (fun (_ : List Int) => some 0) v_237 he_247 ?_ ?_
  intro i248 b248 hi248
  obtain rfl := Option.some.inj hi248
  dsimp only at hf241 ⊢
  cases hf241
  refine tt ?_
  refine wn __239 F fun F => ?_
  exact bk ih241 ho241 b248
  intro af248 m248 s248 v_243 o248 hf248 ho248 ih248
  obtain ⟨m_244, p_246⟩ := s248
  dsimp only [image_Encode_L32] at hf248 ⊢
  refine fi hf248 F (fun hf248 _ F => ?_) (fun hf248 _ F => ?_)
  refine bx hf248 F fun x_249 hf248 hx_249 F => ?_
  refine ln F fun F => ?_
  have R := And.intro (show ([[.int .i64 (x_242.fdiv 16777216)], [.int .i64 (x_242.fdiv 65536)], [.int .i64 (x_242.fdiv 256)], [.int .i64 x_242]] : List (List C))[p_246]? = some [.int .i64 x_249] from q_map (f := eI) hx_249) R
  refine nd hf248 F fun hf248 F => ?_
  cases hf248
  refine tt ?_
  repeat (first | (with_reducible intro _) | (with_reducible refine and_i ?_ ?_; exact ss))
  refine wn p_246 F fun F => ?_
  exact bk ih248 ho248 (v_243 + 1)
  cases hf248
  refine tt ?_
  exact xt ho248 af248 v_243
  cases hf241
  refine tt ?_
  exact xt ho241 af241 v_237
  cases hf235
  refine tt ?_
  exact xt ho235 af235 v_231
  intro af219 m219 s219 v_215 o219 hf219 ho219 ih219
  obtain ⟨xs_216, __217⟩ := s219
  dsimp only [image_Encode_L28] at hf219 ⊢
  refine fi hf219 F (fun hf219 _ F => ?_) (fun hf219 _ F => ?_)
  refine bx hf219 F fun x_220 hf219 hx_220 F => ?_
  refine ln F fun F => ?_
  have R := And.intro (show ([[.int .i64 (m.Tasks.length : Int)]] : List (List C))[__217]? = some [.int .i64 x_220] from q_map (f := eI) hx_220) R
  refine tt ?_
  repeat (first | (with_reducible intro _) | (with_reducible refine and_i ?_ ?_; exact ss))
  refine iS Tryz.func40 ?_
  simp only [Tryz.f40]
  refine tt ?_
  repeat (first | (with_reducible intro _) | (with_reducible refine and_i ?_ ?_; exact ss))
  refine iS Tryz.func42 ?_
  simp only [Tryz.f42]
  refine bi hf219 fun e_225 hf219 he_225 => ?_
  refine tt ?_
  repeat (first | (with_reducible intro _) | (with_reducible refine and_i ?_ ?_; exact ss))
  refine lE (fun (s__ : (List Int) × Nat) (a__ : Nat) => match s__, a__ with | (m_222, p_224), v_221 => ⟨[(0, .one (.msl 1 v_221 0 m_222.length)), (7, .one (.slf ([(x_220.fdiv 16777216), (x_220.fdiv 65536), (x_220.fdiv 256), x_220].map eI))), (8, .one (.int .i64 4)), (9, .one (.int .i64 (p_224 : Int)))], [.cells 0 7 [[.sl (m.Lattice.Names.map eS), .sl (m.Lattice.Below.map (eA2 eI)), .sl (m.Sites.map e_api_Site), .sl (m.Vars.map e_api_Var), .sl (m.Blocks.map e_api_Block), .sl (m.Tasks.map e_api_Task), .sl (m.Code.map (eL e_api_Ins))]], .cells v_221 1 (m_222.map (eK .u8)), .cells 0 1 [[.msl 1 v_215 0 xs_216.length]]]⟩) (fun (e__ : List Int) (b__ : Nat) => match e__, b__ with | e_225, b226 => ⟨[(0, .one (.msl 1 b226 0 e_225.length))], [.cells 0 7 [[.sl (m.Lattice.Names.map eS), .sl (m.Lattice.Below.map (eA2 eI)), .sl (m.Sites.map e_api_Site), .sl (m.Vars.map e_api_Var), .sl (m.Blocks.map e_api_Block), .sl (m.Tasks.map e_api_Task), .sl (m.Code.map (eL e_api_Ins))]], .cells b226 1 (e_225.map (eK .u8)), .cells 0 1 [[.msl 1 v_215 0 xs_216.length]]]⟩) (fun (_ : List Int) => some 0) v_215 he_225 ?_ ?_
  intro i226 b226 hi226
  obtain rfl := Option.some.inj hi226
  dsimp only at hf219 ⊢
  cases hf219
  refine tt ?_
  refine wn __217 F fun F => ?_
  exact bk ih219 ho219 b226
  intro af226 m226 s226 v_221 o226 hf226 ho226 ih226
  obtain ⟨m_222, p_224⟩ := s226
  dsimp only [image_Encode_L29] at hf226 ⊢
  refine fi hf226 F (fun hf226 _ F => ?_) (fun hf226 _ F => ?_)
  refine bx hf226 F fun x_227 hf226 hx_227 F => ?_
  refine ln F fun F => ?_
  have R := And.intro (show ([[.int .i64 (x_220.fdiv 16777216)], [.int .i64 (x_220.fdiv 65536)], [.int .i64 (x_220.fdiv 256)], [.int .i64 x_220]] : List (List C))[p_224]? = some [.int .i64 x_227] from q_map (f := eI) hx_227) R
  refine nd hf226 F fun hf226 F => ?_
  cases hf226
  refine tt ?_
  repeat (first | (with_reducible intro _) | (with_reducible refine and_i ?_ ?_; exact ss))
  refine wn p_224 F fun F => ?_
  exact bk ih226 ho226 (v_221 + 1)
  cases hf226
  refine tt ?_
  exact xt ho226 af226 v_221
  cases hf219
  refine tt ?_
  exact xt ho219 af219 v_215
  intro af179 m179 s179 v_175 o179 hf179 ho179 ih179
  obtain ⟨xs_176, x_177⟩ := s179
  dsimp only [image_Encode_L23] at hf179 ⊢
  refine fl hf179 F (fun hf179 _ F => ?_) (fun hf179 _ F => ?_)
  refine bx hf179 F fun x_180 hf179 hx_180 F => ?_
  refine tt ?_
  repeat (first | (with_reducible intro _) | (with_reducible refine and_i ?_ ?_; exact ss))
  refine iS Tryz.func16 ?_
  simp only [Tryz.f16]
  refine tt ?_
  repeat (first | (with_reducible intro _) | (with_reducible refine and_i ?_ ?_; exact ss))
  refine iS Tryz.func15 ?_
  simp only [Tryz.f15]
  refine bi hf179 fun e_184 hf179 he_184 => ?_
  refine tt ?_
  repeat (first | (with_reducible intro _) | (with_reducible refine and_i ?_ ?_; exact ss))
  refine lE (fun (s__ : (List Int) × Nat) (a__ : Nat) => match s__, a__ with | (xs_182, __183), v_181 => ⟨[(0, .one (.ref 2 0 0 0)), (6, .one (.slf ([(x_180.Kind.length : Int)].map eI))), (7, .one (.int .i64 1)), (8, .one (.int .i64 (__183 : Int)))], [.cells 0 7 [[.sl (m.Lattice.Names.map eS), .sl (m.Lattice.Below.map (eA2 eI)), .sl (m.Sites.map e_api_Site), .sl (m.Vars.map e_api_Var), .sl (m.Blocks.map e_api_Block), .sl (m.Tasks.map e_api_Task), .sl (m.Code.map (eL e_api_Ins))]], .cells v_181 1 (xs_182.map (eK .u8)), .cells 0 1 [[.msl 1 v_181 0 xs_182.length]], .cells 0 3 [[.str x_180.Name, .str x_180.Kind, .int .i64 x_180.Label]]]⟩) (fun (e__ : List Int) (b__ : Nat) => match e__, b__ with | e_184, b185 => ⟨[], [.cells 0 7 [[.sl (m.Lattice.Names.map eS), .sl (m.Lattice.Below.map (eA2 eI)), .sl (m.Sites.map e_api_Site), .sl (m.Vars.map e_api_Var), .sl (m.Blocks.map e_api_Block), .sl (m.Tasks.map e_api_Task), .sl (m.Code.map (eL e_api_Ins))]], .cells b185 1 (e_184.map (eK .u8)), .cells 0 1 [[.msl 1 b185 0 e_184.length]], .cells 0 3 [[.str x_180.Name, .str x_180.Kind, .int .i64 x_180.Label]]]⟩) (fun (_ : List Int) => some 0) v_175 he_184 ?_ ?_
  intro i185 b185 hi185
  obtain rfl := Option.some.inj hi185
  dsimp only at hf179 ⊢
  refine nd hf179 F fun hf179 F => ?_
  refine tt ?_
  repeat (first | (with_reducible intro _) | (with_reducible refine and_i ?_ ?_; exact ss))
  refine iS Tryz.func15 ?_
  simp only [Tryz.f15]
  refine bi hf179 fun e_201 hf179 he_201 => ?_
  refine tt ?_
  repeat (first | (with_reducible intro _) | (with_reducible refine and_i ?_ ?_; exact ss))
  refine lE (fun (s__ : (List Int) × Nat) (a__ : Nat) => match s__, a__ with | (xs_199, __200), v_198 => ⟨[(0, .one (.ref 2 0 0 0)), (6, .one (.slf ([x_180.Label].map eI))), (7, .one (.int .i64 1)), (8, .one (.int .i64 (__200 : Int)))], [.cells 0 7 [[.sl (m.Lattice.Names.map eS), .sl (m.Lattice.Below.map (eA2 eI)), .sl (m.Sites.map e_api_Site), .sl (m.Vars.map e_api_Var), .sl (m.Blocks.map e_api_Block), .sl (m.Tasks.map e_api_Task), .sl (m.Code.map (eL e_api_Ins))]], .cells v_198 1 (xs_199.map (eK .u8)), .cells 0 1 [[.msl 1 v_198 0 xs_199.length]], .cells 0 3 [[.str x_180.Name, .str x_180.Kind, .int .i64 x_180.Label]]]⟩) (fun (e__ : List Int) (b__ : Nat) => match e__, b__ with | e_201, b202 => ⟨[], [.cells 0 7 [[.sl (m.Lattice.Names.map eS), .sl (m.Lattice.Below.map (eA2 eI)), .sl (m.Sites.map e_api_Site), .sl (m.Vars.map e_api_Var), .sl (m.Blocks.map e_api_Block), .sl (m.Tasks.map e_api_Task), .sl (m.Code.map (eL e_api_Ins))]], .cells b202 1 (e_201.map (eK .u8)), .cells 0 1 [[.msl 1 b202 0 e_201.length]], .cells 0 3 [[.str x_180.Name, .str x_180.Kind, .int .i64 x_180.Label]]]⟩) (fun (_ : List Int) => some 0) (b185 + 1) he_201 ?_ ?_
  intro i202 b202 hi202
  obtain rfl := Option.some.inj hi202
  dsimp only at hf179 ⊢
  cases hf179
  refine tt ?_
  refine wn x_177 F fun F => ?_
  exact bk ih179 ho179 b202
  intro af202 m202 s202 v_198 o202 hf202 ho202 ih202
  obtain ⟨xs_199, __200⟩ := s202
  dsimp only [image_Encode_L26] at hf202 ⊢
  refine fi hf202 F (fun hf202 _ F => ?_) (fun hf202 _ F => ?_)
  refine bx hf202 F fun x_203 hf202 hx_203 F => ?_
  refine ln F fun F => ?_
  have R := And.intro (show ([[.int .i64 x_180.Label]] : List (List C))[__200]? = some [.int .i64 x_203] from q_map (f := eI) hx_203) R
  refine tt ?_
  repeat (first | (with_reducible intro _) | (with_reducible refine and_i ?_ ?_; exact ss))
  refine iS Tryz.func40 ?_
  simp only [Tryz.f40]
  refine tt ?_
  repeat (first | (with_reducible intro _) | (with_reducible refine and_i ?_ ?_; exact ss))
  refine iS Tryz.func42 ?_
  simp only [Tryz.f42]
  refine bi hf202 fun e_208 hf202 he_208 => ?_
  refine tt ?_
  repeat (first | (with_reducible intro _) | (with_reducible refine and_i ?_ ?_; exact ss))
  refine lE (fun (s__ : (List Int) × Nat) (a__ : Nat) => match s__, a__ with | (m_205, p_207), v_204 => ⟨[(0, .one (.msl 1 v_204 0 m_205.length)), (7, .one (.slf ([(x_203.fdiv 16777216), (x_203.fdiv 65536), (x_203.fdiv 256), x_203].map eI))), (8, .one (.int .i64 4)), (9, .one (.int .i64 (p_207 : Int)))], [.cells 0 7 [[.sl (m.Lattice.Names.map eS), .sl (m.Lattice.Below.map (eA2 eI)), .sl (m.Sites.map e_api_Site), .sl (m.Vars.map e_api_Var), .sl (m.Blocks.map e_api_Block), .sl (m.Tasks.map e_api_Task), .sl (m.Code.map (eL e_api_Ins))]], .cells v_204 1 (m_205.map (eK .u8)), .cells 0 1 [[.msl 1 v_198 0 xs_199.length]], .cells 0 3 [[.str x_180.Name, .str x_180.Kind, .int .i64 x_180.Label]]]⟩) (fun (e__ : List Int) (b__ : Nat) => match e__, b__ with | e_208, b209 => ⟨[(0, .one (.msl 1 b209 0 e_208.length))], [.cells 0 7 [[.sl (m.Lattice.Names.map eS), .sl (m.Lattice.Below.map (eA2 eI)), .sl (m.Sites.map e_api_Site), .sl (m.Vars.map e_api_Var), .sl (m.Blocks.map e_api_Block), .sl (m.Tasks.map e_api_Task), .sl (m.Code.map (eL e_api_Ins))]], .cells b209 1 (e_208.map (eK .u8)), .cells 0 1 [[.msl 1 v_198 0 xs_199.length]], .cells 0 3 [[.str x_180.Name, .str x_180.Kind, .int .i64 x_180.Label]]]⟩) (fun (_ : List Int) => some 0) v_198 he_208 ?_ ?_
  intro i209 b209 hi209
  obtain rfl := Option.some.inj hi209
  dsimp only at hf202 ⊢
  cases hf202
  refine tt ?_
  refine wn __200 F fun F => ?_
  exact bk ih202 ho202 b209
  intro af209 m209 s209 v_204 o209 hf209 ho209 ih209
  obtain ⟨m_205, p_207⟩ := s209
  dsimp only [image_Encode_L27] at hf209 ⊢
  refine fi hf209 F (fun hf209 _ F => ?_) (fun hf209 _ F => ?_)
  refine bx hf209 F fun x_210 hf209 hx_210 F => ?_
  refine ln F fun F => ?_
  have R := And.intro (show ([[.int .i64 (x_203.fdiv 16777216)], [.int .i64 (x_203.fdiv 65536)], [.int .i64 (x_203.fdiv 256)], [.int .i64 x_203]] : List (List C))[p_207]? = some [.int .i64 x_210] from q_map (f := eI) hx_210) R
  refine nd hf209 F fun hf209 F => ?_
  cases hf209
  refine tt ?_
  repeat (first | (with_reducible intro _) | (with_reducible refine and_i ?_ ?_; exact ss))
  refine wn p_207 F fun F => ?_
  exact bk ih209 ho209 (v_204 + 1)
  cases hf209
  refine tt ?_
  exact xt ho209 af209 v_204
  cases hf202
  refine tt ?_
  exact xt ho202 af202 v_198
  intro af185 m185 s185 v_181 o185 hf185 ho185 ih185
  obtain ⟨xs_182, __183⟩ := s185
  dsimp only [image_Encode_L24] at hf185 ⊢
  refine fi hf185 F (fun hf185 _ F => ?_) (fun hf185 _ F => ?_)
  refine bx hf185 F fun x_186 hf185 hx_186 F => ?_
  refine ln F fun F => ?_
  have R := And.intro (show ([[.int .i64 (x_180.Kind.length : Int)]] : List (List C))[__183]? = some [.int .i64 x_186] from q_map (f := eI) hx_186) R
  refine tt ?_
  repeat (first | (with_reducible intro _) | (with_reducible refine and_i ?_ ?_; exact ss))
  refine iS Tryz.func40 ?_
  simp only [Tryz.f40]
  refine tt ?_
  repeat (first | (with_reducible intro _) | (with_reducible refine and_i ?_ ?_; exact ss))
  refine iS Tryz.func42 ?_
  simp only [Tryz.f42]
  refine bi hf185 fun e_191 hf185 he_191 => ?_
  refine tt ?_
  repeat (first | (with_reducible intro _) | (with_reducible refine and_i ?_ ?_; exact ss))
  refine lE (fun (s__ : (List Int) × Nat) (a__ : Nat) => match s__, a__ with | (m_188, p_190), v_187 => ⟨[(0, .one (.msl 1 v_187 0 m_188.length)), (7, .one (.slf ([(x_186.fdiv 16777216), (x_186.fdiv 65536), (x_186.fdiv 256), x_186].map eI))), (8, .one (.int .i64 4)), (9, .one (.int .i64 (p_190 : Int)))], [.cells 0 7 [[.sl (m.Lattice.Names.map eS), .sl (m.Lattice.Below.map (eA2 eI)), .sl (m.Sites.map e_api_Site), .sl (m.Vars.map e_api_Var), .sl (m.Blocks.map e_api_Block), .sl (m.Tasks.map e_api_Task), .sl (m.Code.map (eL e_api_Ins))]], .cells v_187 1 (m_188.map (eK .u8)), .cells 0 1 [[.msl 1 v_181 0 xs_182.length]], .cells 0 3 [[.str x_180.Name, .str x_180.Kind, .int .i64 x_180.Label]]]⟩) (fun (e__ : List Int) (b__ : Nat) => match e__, b__ with | e_191, b192 => ⟨[(0, .one (.msl 1 b192 0 e_191.length))], [.cells 0 7 [[.sl (m.Lattice.Names.map eS), .sl (m.Lattice.Below.map (eA2 eI)), .sl (m.Sites.map e_api_Site), .sl (m.Vars.map e_api_Var), .sl (m.Blocks.map e_api_Block), .sl (m.Tasks.map e_api_Task), .sl (m.Code.map (eL e_api_Ins))]], .cells b192 1 (e_191.map (eK .u8)), .cells 0 1 [[.msl 1 v_181 0 xs_182.length]], .cells 0 3 [[.str x_180.Name, .str x_180.Kind, .int .i64 x_180.Label]]]⟩) (fun (_ : List Int) => some 0) v_181 he_191 ?_ ?_
  intro i192 b192 hi192
  obtain rfl := Option.some.inj hi192
  dsimp only at hf185 ⊢
  cases hf185
  refine tt ?_
  refine wn __183 F fun F => ?_
  exact bk ih185 ho185 b192
  intro af192 m192 s192 v_187 o192 hf192 ho192 ih192
  obtain ⟨m_188, p_190⟩ := s192
  dsimp only [image_Encode_L25] at hf192 ⊢
  refine fi hf192 F (fun hf192 _ F => ?_) (fun hf192 _ F => ?_)
  refine bx hf192 F fun x_193 hf192 hx_193 F => ?_
  refine ln F fun F => ?_
  have R := And.intro (show ([[.int .i64 (x_186.fdiv 16777216)], [.int .i64 (x_186.fdiv 65536)], [.int .i64 (x_186.fdiv 256)], [.int .i64 x_186]] : List (List C))[p_190]? = some [.int .i64 x_193] from q_map (f := eI) hx_193) R
  refine nd hf192 F fun hf192 F => ?_
  cases hf192
  refine tt ?_
  repeat (first | (with_reducible intro _) | (with_reducible refine and_i ?_ ?_; exact ss))
  refine wn p_190 F fun F => ?_
  exact bk ih192 ho192 (v_187 + 1)
  cases hf192
  refine tt ?_
  exact xt ho192 af192 v_187
  cases hf185
  refine tt ?_
  exact xt ho185 af185 v_181
  cases hf179
  refine tt ?_
  exact xt ho179 af179 v_175
  intro af163 m163 s163 v_159 o163 hf163 ho163 ih163
  obtain ⟨xs_160, __161⟩ := s163
  dsimp only [image_Encode_L21] at hf163 ⊢
  refine fi hf163 F (fun hf163 _ F => ?_) (fun hf163 _ F => ?_)
  refine bx hf163 F fun x_164 hf163 hx_164 F => ?_
  refine ln F fun F => ?_
  have R := And.intro (show ([[.int .i64 (m.Blocks.length : Int)]] : List (List C))[__161]? = some [.int .i64 x_164] from q_map (f := eI) hx_164) R
  refine tt ?_
  repeat (first | (with_reducible intro _) | (with_reducible refine and_i ?_ ?_; exact ss))
  refine iS Tryz.func40 ?_
  simp only [Tryz.f40]
  refine tt ?_
  repeat (first | (with_reducible intro _) | (with_reducible refine and_i ?_ ?_; exact ss))
  refine iS Tryz.func42 ?_
  simp only [Tryz.f42]
  refine bi hf163 fun e_169 hf163 he_169 => ?_
  refine tt ?_
  repeat (first | (with_reducible intro _) | (with_reducible refine and_i ?_ ?_; exact ss))
  refine lE (fun (s__ : (List Int) × Nat) (a__ : Nat) => match s__, a__ with | (m_166, p_168), v_165 => ⟨[(0, .one (.msl 1 v_165 0 m_166.length)), (7, .one (.slf ([(x_164.fdiv 16777216), (x_164.fdiv 65536), (x_164.fdiv 256), x_164].map eI))), (8, .one (.int .i64 4)), (9, .one (.int .i64 (p_168 : Int)))], [.cells 0 7 [[.sl (m.Lattice.Names.map eS), .sl (m.Lattice.Below.map (eA2 eI)), .sl (m.Sites.map e_api_Site), .sl (m.Vars.map e_api_Var), .sl (m.Blocks.map e_api_Block), .sl (m.Tasks.map e_api_Task), .sl (m.Code.map (eL e_api_Ins))]], .cells v_165 1 (m_166.map (eK .u8)), .cells 0 1 [[.msl 1 v_159 0 xs_160.length]]]⟩) (fun (e__ : List Int) (b__ : Nat) => match e__, b__ with | e_169, b170 => ⟨[(0, .one (.msl 1 b170 0 e_169.length))], [.cells 0 7 [[.sl (m.Lattice.Names.map eS), .sl (m.Lattice.Below.map (eA2 eI)), .sl (m.Sites.map e_api_Site), .sl (m.Vars.map e_api_Var), .sl (m.Blocks.map e_api_Block), .sl (m.Tasks.map e_api_Task), .sl (m.Code.map (eL e_api_Ins))]], .cells b170 1 (e_169.map (eK .u8)), .cells 0 1 [[.msl 1 v_159 0 xs_160.length]]]⟩) (fun (_ : List Int) => some 0) v_159 he_169 ?_ ?_
  intro i170 b170 hi170
  obtain rfl := Option.some.inj hi170
  dsimp only at hf163 ⊢
  cases hf163
  refine tt ?_
  refine wn __161 F fun F => ?_
  exact bk ih163 ho163 b170
  intro af170 m170 s170 v_165 o170 hf170 ho170 ih170
  obtain ⟨m_166, p_168⟩ := s170
  dsimp only [image_Encode_L22] at hf170 ⊢
  refine fi hf170 F (fun hf170 _ F => ?_) (fun hf170 _ F => ?_)
  refine bx hf170 F fun x_171 hf170 hx_171 F => ?_
  refine ln F fun F => ?_
  have R := And.intro (show ([[.int .i64 (x_164.fdiv 16777216)], [.int .i64 (x_164.fdiv 65536)], [.int .i64 (x_164.fdiv 256)], [.int .i64 x_164]] : List (List C))[p_168]? = some [.int .i64 x_171] from q_map (f := eI) hx_171) R
  refine nd hf170 F fun hf170 F => ?_
  cases hf170
  refine tt ?_
  repeat (first | (with_reducible intro _) | (with_reducible refine and_i ?_ ?_; exact ss))
  refine wn p_168 F fun F => ?_
  exact bk ih170 ho170 (v_165 + 1)
  cases hf170
  refine tt ?_
  exact xt ho170 af170 v_165
  cases hf163
  refine tt ?_
  exact xt ho163 af163 v_159
  intro af140 m140 s140 v_136 o140 hf140 ho140 ih140
  obtain ⟨xs_137, x_138⟩ := s140
  dsimp only [image_Encode_L18] at hf140 ⊢
  refine fl hf140 F (fun hf140 _ F => ?_) (fun hf140 _ F => ?_)
  refine bx hf140 F fun x_141 hf140 hx_141 F => ?_
  refine tt ?_
  repeat (first | (with_reducible intro _) | (with_reducible refine and_i ?_ ?_; exact ss))
  refine iS Tryz.func15 ?_
  simp only [Tryz.f15]
  refine bi hf140 fun e_145 hf140 he_145 => ?_
  refine tt ?_
  repeat (first | (with_reducible intro _) | (with_reducible refine and_i ?_ ?_; exact ss))
  refine lE (fun (s__ : (List Int) × Nat) (a__ : Nat) => match s__, a__ with | (xs_143, __144), v_142 => ⟨[(0, .one (.ref 2 0 0 0)), (6, .one (.slf ([x_141.Type_.Kind, x_141.Type_.Low, x_141.Type_.Len, x_141.Mode, x_141.Label, x_141.Safe].map eI))), (7, .one (.int .i64 6)), (8, .one (.int .i64 (__144 : Int)))], [.cells 0 7 [[.sl (m.Lattice.Names.map eS), .sl (m.Lattice.Below.map (eA2 eI)), .sl (m.Sites.map e_api_Site), .sl (m.Vars.map e_api_Var), .sl (m.Blocks.map e_api_Block), .sl (m.Tasks.map e_api_Task), .sl (m.Code.map (eL e_api_Ins))]], .cells v_142 1 (xs_143.map (eK .u8)), .cells 0 1 [[.msl 1 v_142 0 xs_143.length]], .cells 0 7 [[.str x_141.Name, .int .i64 x_141.Type_.Kind, .int .i64 x_141.Type_.Low, .int .i64 x_141.Type_.Len, .int .i64 x_141.Mode, .int .i64 x_141.Label, .int .i64 x_141.Safe]]]⟩) (fun (e__ : List Int) (b__ : Nat) => match e__, b__ with | e_145, b146 => ⟨[], [.cells 0 7 [[.sl (m.Lattice.Names.map eS), .sl (m.Lattice.Below.map (eA2 eI)), .sl (m.Sites.map e_api_Site), .sl (m.Vars.map e_api_Var), .sl (m.Blocks.map e_api_Block), .sl (m.Tasks.map e_api_Task), .sl (m.Code.map (eL e_api_Ins))]], .cells b146 1 (e_145.map (eK .u8)), .cells 0 1 [[.msl 1 b146 0 e_145.length]], .cells 0 7 [[.str x_141.Name, .int .i64 x_141.Type_.Kind, .int .i64 x_141.Type_.Low, .int .i64 x_141.Type_.Len, .int .i64 x_141.Mode, .int .i64 x_141.Label, .int .i64 x_141.Safe]]]⟩) (fun (_ : List Int) => some 0) v_136 he_145 ?_ ?_
  intro i146 b146 hi146
  obtain rfl := Option.some.inj hi146
  dsimp only at hf140 ⊢
  cases hf140
  refine tt ?_
  refine wn x_138 F fun F => ?_
  exact bk ih140 ho140 b146
  intro af146 m146 s146 v_142 o146 hf146 ho146 ih146
  obtain ⟨xs_143, __144⟩ := s146
  dsimp only [image_Encode_L19] at hf146 ⊢
  refine fi hf146 F (fun hf146 _ F => ?_) (fun hf146 _ F => ?_)
  refine bx hf146 F fun x_147 hf146 hx_147 F => ?_
  refine ln F fun F => ?_
  have R := And.intro (show ([[.int .i64 x_141.Type_.Kind], [.int .i64 x_141.Type_.Low], [.int .i64 x_141.Type_.Len], [.int .i64 x_141.Mode], [.int .i64 x_141.Label], [.int .i64 x_141.Safe]] : List (List C))[__144]? = some [.int .i64 x_147] from q_map (f := eI) hx_147) R
  refine tt ?_
  repeat (first | (with_reducible intro _) | (with_reducible refine and_i ?_ ?_; exact ss))
  refine iS Tryz.func40 ?_
  simp only [Tryz.f40]
  refine tt ?_
  repeat (first | (with_reducible intro _) | (with_reducible refine and_i ?_ ?_; exact ss))
  refine iS Tryz.func42 ?_
  simp only [Tryz.f42]
  refine bi hf146 fun e_152 hf146 he_152 => ?_
  refine tt ?_
  repeat (first | (with_reducible intro _) | (with_reducible refine and_i ?_ ?_; exact ss))
  refine lE (fun (s__ : (List Int) × Nat) (a__ : Nat) => match s__, a__ with | (m_149, p_151), v_148 => ⟨[(0, .one (.msl 1 v_148 0 m_149.length)), (7, .one (.slf ([(x_147.fdiv 16777216), (x_147.fdiv 65536), (x_147.fdiv 256), x_147].map eI))), (8, .one (.int .i64 4)), (9, .one (.int .i64 (p_151 : Int)))], [.cells 0 7 [[.sl (m.Lattice.Names.map eS), .sl (m.Lattice.Below.map (eA2 eI)), .sl (m.Sites.map e_api_Site), .sl (m.Vars.map e_api_Var), .sl (m.Blocks.map e_api_Block), .sl (m.Tasks.map e_api_Task), .sl (m.Code.map (eL e_api_Ins))]], .cells v_148 1 (m_149.map (eK .u8)), .cells 0 1 [[.msl 1 v_142 0 xs_143.length]], .cells 0 7 [[.str x_141.Name, .int .i64 x_141.Type_.Kind, .int .i64 x_141.Type_.Low, .int .i64 x_141.Type_.Len, .int .i64 x_141.Mode, .int .i64 x_141.Label, .int .i64 x_141.Safe]]]⟩) (fun (e__ : List Int) (b__ : Nat) => match e__, b__ with | e_152, b153 => ⟨[(0, .one (.msl 1 b153 0 e_152.length))], [.cells 0 7 [[.sl (m.Lattice.Names.map eS), .sl (m.Lattice.Below.map (eA2 eI)), .sl (m.Sites.map e_api_Site), .sl (m.Vars.map e_api_Var), .sl (m.Blocks.map e_api_Block), .sl (m.Tasks.map e_api_Task), .sl (m.Code.map (eL e_api_Ins))]], .cells b153 1 (e_152.map (eK .u8)), .cells 0 1 [[.msl 1 v_142 0 xs_143.length]], .cells 0 7 [[.str x_141.Name, .int .i64 x_141.Type_.Kind, .int .i64 x_141.Type_.Low, .int .i64 x_141.Type_.Len, .int .i64 x_141.Mode, .int .i64 x_141.Label, .int .i64 x_141.Safe]]]⟩) (fun (_ : List Int) => some 0) v_142 he_152 ?_ ?_
  intro i153 b153 hi153
  obtain rfl := Option.some.inj hi153
  dsimp only at hf146 ⊢
  cases hf146
  refine tt ?_
  refine wn __144 F fun F => ?_
  exact bk ih146 ho146 b153
  intro af153 m153 s153 v_148 o153 hf153 ho153 ih153
  obtain ⟨m_149, p_151⟩ := s153
  dsimp only [image_Encode_L20] at hf153 ⊢
  refine fi hf153 F (fun hf153 _ F => ?_) (fun hf153 _ F => ?_)
  refine bx hf153 F fun x_154 hf153 hx_154 F => ?_
  refine ln F fun F => ?_
  have R := And.intro (show ([[.int .i64 (x_147.fdiv 16777216)], [.int .i64 (x_147.fdiv 65536)], [.int .i64 (x_147.fdiv 256)], [.int .i64 x_147]] : List (List C))[p_151]? = some [.int .i64 x_154] from q_map (f := eI) hx_154) R
  refine nd hf153 F fun hf153 F => ?_
  cases hf153
  refine tt ?_
  repeat (first | (with_reducible intro _) | (with_reducible refine and_i ?_ ?_; exact ss))
  refine wn p_151 F fun F => ?_
  exact bk ih153 ho153 (v_148 + 1)
  cases hf153
  refine tt ?_
  exact xt ho153 af153 v_148
  cases hf146
  refine tt ?_
  exact xt ho146 af146 v_142
  cases hf140
  refine tt ?_
  exact xt ho140 af140 v_136
  intro af124 m124 s124 v_120 o124 hf124 ho124 ih124
  obtain ⟨xs_121, __122⟩ := s124
  dsimp only [image_Encode_L16] at hf124 ⊢
  refine fi hf124 F (fun hf124 _ F => ?_) (fun hf124 _ F => ?_)
  refine bx hf124 F fun x_125 hf124 hx_125 F => ?_
  refine ln F fun F => ?_
  have R := And.intro (show ([[.int .i64 (m.Vars.length : Int)]] : List (List C))[__122]? = some [.int .i64 x_125] from q_map (f := eI) hx_125) R
  refine tt ?_
  repeat (first | (with_reducible intro _) | (with_reducible refine and_i ?_ ?_; exact ss))
  refine iS Tryz.func40 ?_
  simp only [Tryz.f40]
  refine tt ?_
  repeat (first | (with_reducible intro _) | (with_reducible refine and_i ?_ ?_; exact ss))
  refine iS Tryz.func42 ?_
  simp only [Tryz.f42]
  refine bi hf124 fun e_130 hf124 he_130 => ?_
  refine tt ?_
  repeat (first | (with_reducible intro _) | (with_reducible refine and_i ?_ ?_; exact ss))
  refine lE (fun (s__ : (List Int) × Nat) (a__ : Nat) => match s__, a__ with | (m_127, p_129), v_126 => ⟨[(0, .one (.msl 1 v_126 0 m_127.length)), (7, .one (.slf ([(x_125.fdiv 16777216), (x_125.fdiv 65536), (x_125.fdiv 256), x_125].map eI))), (8, .one (.int .i64 4)), (9, .one (.int .i64 (p_129 : Int)))], [.cells 0 7 [[.sl (m.Lattice.Names.map eS), .sl (m.Lattice.Below.map (eA2 eI)), .sl (m.Sites.map e_api_Site), .sl (m.Vars.map e_api_Var), .sl (m.Blocks.map e_api_Block), .sl (m.Tasks.map e_api_Task), .sl (m.Code.map (eL e_api_Ins))]], .cells v_126 1 (m_127.map (eK .u8)), .cells 0 1 [[.msl 1 v_120 0 xs_121.length]]]⟩) (fun (e__ : List Int) (b__ : Nat) => match e__, b__ with | e_130, b131 => ⟨[(0, .one (.msl 1 b131 0 e_130.length))], [.cells 0 7 [[.sl (m.Lattice.Names.map eS), .sl (m.Lattice.Below.map (eA2 eI)), .sl (m.Sites.map e_api_Site), .sl (m.Vars.map e_api_Var), .sl (m.Blocks.map e_api_Block), .sl (m.Tasks.map e_api_Task), .sl (m.Code.map (eL e_api_Ins))]], .cells b131 1 (e_130.map (eK .u8)), .cells 0 1 [[.msl 1 v_120 0 xs_121.length]]]⟩) (fun (_ : List Int) => some 0) v_120 he_130 ?_ ?_
  intro i131 b131 hi131
  obtain rfl := Option.some.inj hi131
  dsimp only at hf124 ⊢
  cases hf124
  refine tt ?_
  refine wn __122 F fun F => ?_
  exact bk ih124 ho124 b131
  intro af131 m131 s131 v_126 o131 hf131 ho131 ih131
  obtain ⟨m_127, p_129⟩ := s131
  dsimp only [image_Encode_L17] at hf131 ⊢
  refine fi hf131 F (fun hf131 _ F => ?_) (fun hf131 _ F => ?_)
  refine bx hf131 F fun x_132 hf131 hx_132 F => ?_
  refine ln F fun F => ?_
  have R := And.intro (show ([[.int .i64 (x_125.fdiv 16777216)], [.int .i64 (x_125.fdiv 65536)], [.int .i64 (x_125.fdiv 256)], [.int .i64 x_125]] : List (List C))[p_129]? = some [.int .i64 x_132] from q_map (f := eI) hx_132) R
  refine nd hf131 F fun hf131 F => ?_
  cases hf131
  refine tt ?_
  repeat (first | (with_reducible intro _) | (with_reducible refine and_i ?_ ?_; exact ss))
  refine wn p_129 F fun F => ?_
  exact bk ih131 ho131 (v_126 + 1)
  cases hf131
  refine tt ?_
  exact xt ho131 af131 v_126
  cases hf124
  refine tt ?_
  exact xt ho124 af124 v_120
  intro af101 m101 s101 v_97 o101 hf101 ho101 ih101
  obtain ⟨xs_98, x_99⟩ := s101
  dsimp only [image_Encode_L13] at hf101 ⊢
  refine fl hf101 F (fun hf101 _ F => ?_) (fun hf101 _ F => ?_)
  refine bx hf101 F fun x_102 hf101 hx_102 F => ?_
  refine tt ?_
  repeat (first | (with_reducible intro _) | (with_reducible refine and_i ?_ ?_; exact ss))
  refine iS Tryz.func15 ?_
  simp only [Tryz.f15]
  refine bi hf101 fun e_106 hf101 he_106 => ?_
  refine tt ?_
  repeat (first | (with_reducible intro _) | (with_reducible refine and_i ?_ ?_; exact ss))
  refine lE (fun (s__ : (List Int) × Nat) (a__ : Nat) => match s__, a__ with | (xs_104, __105), v_103 => ⟨[(0, .one (.ref 2 0 0 0)), (6, .one (.slf ([x_102.From, x_102.To].map eI))), (7, .one (.int .i64 2)), (8, .one (.int .i64 (__105 : Int)))], [.cells 0 7 [[.sl (m.Lattice.Names.map eS), .sl (m.Lattice.Below.map (eA2 eI)), .sl (m.Sites.map e_api_Site), .sl (m.Vars.map e_api_Var), .sl (m.Blocks.map e_api_Block), .sl (m.Tasks.map e_api_Task), .sl (m.Code.map (eL e_api_Ins))]], .cells v_103 1 (xs_104.map (eK .u8)), .cells 0 1 [[.msl 1 v_103 0 xs_104.length]], .cells 0 3 [[.str x_102.Name, .int .i64 x_102.From, .int .i64 x_102.To]]]⟩) (fun (e__ : List Int) (b__ : Nat) => match e__, b__ with | e_106, b107 => ⟨[], [.cells 0 7 [[.sl (m.Lattice.Names.map eS), .sl (m.Lattice.Below.map (eA2 eI)), .sl (m.Sites.map e_api_Site), .sl (m.Vars.map e_api_Var), .sl (m.Blocks.map e_api_Block), .sl (m.Tasks.map e_api_Task), .sl (m.Code.map (eL e_api_Ins))]], .cells b107 1 (e_106.map (eK .u8)), .cells 0 1 [[.msl 1 b107 0 e_106.length]], .cells 0 3 [[.str x_102.Name, .int .i64 x_102.From, .int .i64 x_102.To]]]⟩) (fun (_ : List Int) => some 0) v_97 he_106 ?_ ?_
  intro i107 b107 hi107
  obtain rfl := Option.some.inj hi107
  dsimp only at hf101 ⊢
  cases hf101
  refine tt ?_
  refine wn x_99 F fun F => ?_
  exact bk ih101 ho101 b107
  intro af107 m107 s107 v_103 o107 hf107 ho107 ih107
  obtain ⟨xs_104, __105⟩ := s107
  dsimp only [image_Encode_L14] at hf107 ⊢
  refine fi hf107 F (fun hf107 _ F => ?_) (fun hf107 _ F => ?_)
  refine bx hf107 F fun x_108 hf107 hx_108 F => ?_
  refine ln F fun F => ?_
  have R := And.intro (show ([[.int .i64 x_102.From], [.int .i64 x_102.To]] : List (List C))[__105]? = some [.int .i64 x_108] from q_map (f := eI) hx_108) R
  refine tt ?_
  repeat (first | (with_reducible intro _) | (with_reducible refine and_i ?_ ?_; exact ss))
  refine iS Tryz.func40 ?_
  simp only [Tryz.f40]
  refine tt ?_
  repeat (first | (with_reducible intro _) | (with_reducible refine and_i ?_ ?_; exact ss))
  refine iS Tryz.func42 ?_
  simp only [Tryz.f42]
  refine bi hf107 fun e_113 hf107 he_113 => ?_
  refine tt ?_
  repeat (first | (with_reducible intro _) | (with_reducible refine and_i ?_ ?_; exact ss))
  refine lE (fun (s__ : (List Int) × Nat) (a__ : Nat) => match s__, a__ with | (m_110, p_112), v_109 => ⟨[(0, .one (.msl 1 v_109 0 m_110.length)), (7, .one (.slf ([(x_108.fdiv 16777216), (x_108.fdiv 65536), (x_108.fdiv 256), x_108].map eI))), (8, .one (.int .i64 4)), (9, .one (.int .i64 (p_112 : Int)))], [.cells 0 7 [[.sl (m.Lattice.Names.map eS), .sl (m.Lattice.Below.map (eA2 eI)), .sl (m.Sites.map e_api_Site), .sl (m.Vars.map e_api_Var), .sl (m.Blocks.map e_api_Block), .sl (m.Tasks.map e_api_Task), .sl (m.Code.map (eL e_api_Ins))]], .cells v_109 1 (m_110.map (eK .u8)), .cells 0 1 [[.msl 1 v_103 0 xs_104.length]], .cells 0 3 [[.str x_102.Name, .int .i64 x_102.From, .int .i64 x_102.To]]]⟩) (fun (e__ : List Int) (b__ : Nat) => match e__, b__ with | e_113, b114 => ⟨[(0, .one (.msl 1 b114 0 e_113.length))], [.cells 0 7 [[.sl (m.Lattice.Names.map eS), .sl (m.Lattice.Below.map (eA2 eI)), .sl (m.Sites.map e_api_Site), .sl (m.Vars.map e_api_Var), .sl (m.Blocks.map e_api_Block), .sl (m.Tasks.map e_api_Task), .sl (m.Code.map (eL e_api_Ins))]], .cells b114 1 (e_113.map (eK .u8)), .cells 0 1 [[.msl 1 v_103 0 xs_104.length]], .cells 0 3 [[.str x_102.Name, .int .i64 x_102.From, .int .i64 x_102.To]]]⟩) (fun (_ : List Int) => some 0) v_103 he_113 ?_ ?_
  intro i114 b114 hi114
  obtain rfl := Option.some.inj hi114
  dsimp only at hf107 ⊢
  cases hf107
  refine tt ?_
  refine wn __105 F fun F => ?_
  exact bk ih107 ho107 b114
  intro af114 m114 s114 v_109 o114 hf114 ho114 ih114
  obtain ⟨m_110, p_112⟩ := s114
  dsimp only [image_Encode_L15] at hf114 ⊢
  refine fi hf114 F (fun hf114 _ F => ?_) (fun hf114 _ F => ?_)
  refine bx hf114 F fun x_115 hf114 hx_115 F => ?_
  refine ln F fun F => ?_
  have R := And.intro (show ([[.int .i64 (x_108.fdiv 16777216)], [.int .i64 (x_108.fdiv 65536)], [.int .i64 (x_108.fdiv 256)], [.int .i64 x_108]] : List (List C))[p_112]? = some [.int .i64 x_115] from q_map (f := eI) hx_115) R
  refine nd hf114 F fun hf114 F => ?_
  cases hf114
  refine tt ?_
  repeat (first | (with_reducible intro _) | (with_reducible refine and_i ?_ ?_; exact ss))
  refine wn p_112 F fun F => ?_
  exact bk ih114 ho114 (v_109 + 1)
  cases hf114
  refine tt ?_
  exact xt ho114 af114 v_109
  cases hf107
  refine tt ?_
  exact xt ho107 af107 v_103
  cases hf101
  refine tt ?_
  exact xt ho101 af101 v_97
  intro af85 m85 s85 v_81 o85 hf85 ho85 ih85
  obtain ⟨xs_82, __83⟩ := s85
  dsimp only [image_Encode_L11] at hf85 ⊢
  refine fi hf85 F (fun hf85 _ F => ?_) (fun hf85 _ F => ?_)
  refine bx hf85 F fun x_86 hf85 hx_86 F => ?_
  refine ln F fun F => ?_
  have R := And.intro (show ([[.int .i64 (m.Sites.length : Int)]] : List (List C))[__83]? = some [.int .i64 x_86] from q_map (f := eI) hx_86) R
  refine tt ?_
  repeat (first | (with_reducible intro _) | (with_reducible refine and_i ?_ ?_; exact ss))
  refine iS Tryz.func40 ?_
  simp only [Tryz.f40]
  refine tt ?_
  repeat (first | (with_reducible intro _) | (with_reducible refine and_i ?_ ?_; exact ss))
  refine iS Tryz.func42 ?_
  simp only [Tryz.f42]
  refine bi hf85 fun e_91 hf85 he_91 => ?_
  refine tt ?_
  repeat (first | (with_reducible intro _) | (with_reducible refine and_i ?_ ?_; exact ss))
  refine lE (fun (s__ : (List Int) × Nat) (a__ : Nat) => match s__, a__ with | (m_88, p_90), v_87 => ⟨[(0, .one (.msl 1 v_87 0 m_88.length)), (7, .one (.slf ([(x_86.fdiv 16777216), (x_86.fdiv 65536), (x_86.fdiv 256), x_86].map eI))), (8, .one (.int .i64 4)), (9, .one (.int .i64 (p_90 : Int)))], [.cells 0 7 [[.sl (m.Lattice.Names.map eS), .sl (m.Lattice.Below.map (eA2 eI)), .sl (m.Sites.map e_api_Site), .sl (m.Vars.map e_api_Var), .sl (m.Blocks.map e_api_Block), .sl (m.Tasks.map e_api_Task), .sl (m.Code.map (eL e_api_Ins))]], .cells v_87 1 (m_88.map (eK .u8)), .cells 0 1 [[.msl 1 v_81 0 xs_82.length]]]⟩) (fun (e__ : List Int) (b__ : Nat) => match e__, b__ with | e_91, b92 => ⟨[(0, .one (.msl 1 b92 0 e_91.length))], [.cells 0 7 [[.sl (m.Lattice.Names.map eS), .sl (m.Lattice.Below.map (eA2 eI)), .sl (m.Sites.map e_api_Site), .sl (m.Vars.map e_api_Var), .sl (m.Blocks.map e_api_Block), .sl (m.Tasks.map e_api_Task), .sl (m.Code.map (eL e_api_Ins))]], .cells b92 1 (e_91.map (eK .u8)), .cells 0 1 [[.msl 1 v_81 0 xs_82.length]]]⟩) (fun (_ : List Int) => some 0) v_81 he_91 ?_ ?_
  intro i92 b92 hi92
  obtain rfl := Option.some.inj hi92
  dsimp only at hf85 ⊢
  cases hf85
  refine tt ?_
  refine wn __83 F fun F => ?_
  exact bk ih85 ho85 b92
  intro af92 m92 s92 v_87 o92 hf92 ho92 ih92
  obtain ⟨m_88, p_90⟩ := s92
  dsimp only [image_Encode_L12] at hf92 ⊢
  refine fi hf92 F (fun hf92 _ F => ?_) (fun hf92 _ F => ?_)
  refine bx hf92 F fun x_93 hf92 hx_93 F => ?_
  refine ln F fun F => ?_
  have R := And.intro (show ([[.int .i64 (x_86.fdiv 16777216)], [.int .i64 (x_86.fdiv 65536)], [.int .i64 (x_86.fdiv 256)], [.int .i64 x_86]] : List (List C))[p_90]? = some [.int .i64 x_93] from q_map (f := eI) hx_93) R
  refine nd hf92 F fun hf92 F => ?_
  cases hf92
  refine tt ?_
  repeat (first | (with_reducible intro _) | (with_reducible refine and_i ?_ ?_; exact ss))
  refine wn p_90 F fun F => ?_
  exact bk ih92 ho92 (v_87 + 1)
  cases hf92
  refine tt ?_
  exact xt ho92 af92 v_87
  cases hf85
  refine tt ?_
  exact xt ho85 af85 v_81
  intro af62 m62 s62 v_58 o62 hf62 ho62 ih62
  obtain ⟨xs_59, x_60⟩ := s62
  dsimp only [image_Encode_L8] at hf62 ⊢
  refine fl hf62 F (fun hf62 _ F => ?_) (fun hf62 _ F => ?_)
  refine bx hf62 F fun x_63 hf62 hx_63 F => ?_
  refine tt ?_
  repeat (first | (with_reducible intro _) | (with_reducible refine and_i ?_ ?_; exact ss))
  refine iS Tryz.func15 ?_
  simp only [Tryz.f15]
  refine bi hf62 fun e_67 hf62 he_67 => ?_
  refine tt ?_
  repeat (first | (with_reducible intro _) | (with_reducible refine and_i ?_ ?_; exact ss))
  refine lE (fun (s__ : (List Int) × Nat) (a__ : Nat) => match s__, a__ with | (xs_65, __66), v_64 => ⟨[(0, .one (.ref 2 0 0 0)), (6, .one (.sl ([x_63.a0, x_63.a1].map eI))), (7, .one (.int .i64 2)), (8, .one (.int .i64 (__66 : Int)))], [.cells 0 7 [[.sl (m.Lattice.Names.map eS), .sl (m.Lattice.Below.map (eA2 eI)), .sl (m.Sites.map e_api_Site), .sl (m.Vars.map e_api_Var), .sl (m.Blocks.map e_api_Block), .sl (m.Tasks.map e_api_Task), .sl (m.Code.map (eL e_api_Ins))]], .cells v_64 1 (xs_65.map (eK .u8)), .cells 0 1 [[.msl 1 v_64 0 xs_65.length]], .dead]⟩) (fun (e__ : List Int) (b__ : Nat) => match e__, b__ with | e_67, b68 => ⟨[], [.cells 0 7 [[.sl (m.Lattice.Names.map eS), .sl (m.Lattice.Below.map (eA2 eI)), .sl (m.Sites.map e_api_Site), .sl (m.Vars.map e_api_Var), .sl (m.Blocks.map e_api_Block), .sl (m.Tasks.map e_api_Task), .sl (m.Code.map (eL e_api_Ins))]], .cells b68 1 (e_67.map (eK .u8)), .cells 0 1 [[.msl 1 b68 0 e_67.length]], .dead]⟩) (fun (_ : List Int) => some 0) v_58 he_67 ?_ ?_
  intro i68 b68 hi68
  obtain rfl := Option.some.inj hi68
  dsimp only at hf62 ⊢
  cases hf62
  refine tt ?_
  refine wn x_60 F fun F => ?_
  exact bk ih62 ho62 b68
  intro af68 m68 s68 v_64 o68 hf68 ho68 ih68
  obtain ⟨xs_65, __66⟩ := s68
  dsimp only [image_Encode_L9] at hf68 ⊢
  refine fi hf68 F (fun hf68 _ F => ?_) (fun hf68 _ F => ?_)
  refine bx hf68 F fun x_69 hf68 hx_69 F => ?_
  refine ln F fun F => ?_
  have R := And.intro (show ([[.int .i64 x_63.a0], [.int .i64 x_63.a1]] : List (List C))[__66]? = some [.int .i64 x_69] from q_map (f := eI) hx_69) R
  refine tt ?_
  repeat (first | (with_reducible intro _) | (with_reducible refine and_i ?_ ?_; exact ss))
  refine iS Tryz.func40 ?_
  simp only [Tryz.f40]
  refine tt ?_
  repeat (first | (with_reducible intro _) | (with_reducible refine and_i ?_ ?_; exact ss))
  refine iS Tryz.func42 ?_
  simp only [Tryz.f42]
  refine bi hf68 fun e_74 hf68 he_74 => ?_
  refine tt ?_
  repeat (first | (with_reducible intro _) | (with_reducible refine and_i ?_ ?_; exact ss))
  refine lE (fun (s__ : (List Int) × Nat) (a__ : Nat) => match s__, a__ with | (m_71, p_73), v_70 => ⟨[(0, .one (.msl 1 v_70 0 m_71.length)), (7, .one (.slf ([(x_69.fdiv 16777216), (x_69.fdiv 65536), (x_69.fdiv 256), x_69].map eI))), (8, .one (.int .i64 4)), (9, .one (.int .i64 (p_73 : Int)))], [.cells 0 7 [[.sl (m.Lattice.Names.map eS), .sl (m.Lattice.Below.map (eA2 eI)), .sl (m.Sites.map e_api_Site), .sl (m.Vars.map e_api_Var), .sl (m.Blocks.map e_api_Block), .sl (m.Tasks.map e_api_Task), .sl (m.Code.map (eL e_api_Ins))]], .cells v_70 1 (m_71.map (eK .u8)), .cells 0 1 [[.msl 1 v_64 0 xs_65.length]], .dead]⟩) (fun (e__ : List Int) (b__ : Nat) => match e__, b__ with | e_74, b75 => ⟨[(0, .one (.msl 1 b75 0 e_74.length))], [.cells 0 7 [[.sl (m.Lattice.Names.map eS), .sl (m.Lattice.Below.map (eA2 eI)), .sl (m.Sites.map e_api_Site), .sl (m.Vars.map e_api_Var), .sl (m.Blocks.map e_api_Block), .sl (m.Tasks.map e_api_Task), .sl (m.Code.map (eL e_api_Ins))]], .cells b75 1 (e_74.map (eK .u8)), .cells 0 1 [[.msl 1 v_64 0 xs_65.length]], .dead]⟩) (fun (_ : List Int) => some 0) v_64 he_74 ?_ ?_
  intro i75 b75 hi75
  obtain rfl := Option.some.inj hi75
  dsimp only at hf68 ⊢
  cases hf68
  refine tt ?_
  refine wn __66 F fun F => ?_
  exact bk ih68 ho68 b75
  intro af75 m75 s75 v_70 o75 hf75 ho75 ih75
  obtain ⟨m_71, p_73⟩ := s75
  dsimp only [image_Encode_L10] at hf75 ⊢
  refine fi hf75 F (fun hf75 _ F => ?_) (fun hf75 _ F => ?_)
  refine bx hf75 F fun x_76 hf75 hx_76 F => ?_
  refine ln F fun F => ?_
  have R := And.intro (show ([[.int .i64 (x_69.fdiv 16777216)], [.int .i64 (x_69.fdiv 65536)], [.int .i64 (x_69.fdiv 256)], [.int .i64 x_69]] : List (List C))[p_73]? = some [.int .i64 x_76] from q_map (f := eI) hx_76) R
  refine nd hf75 F fun hf75 F => ?_
  cases hf75
  refine tt ?_
  repeat (first | (with_reducible intro _) | (with_reducible refine and_i ?_ ?_; exact ss))
  refine wn p_73 F fun F => ?_
  exact bk ih75 ho75 (v_70 + 1)
  cases hf75
  refine tt ?_
  exact xt ho75 af75 v_70
  cases hf68
  refine tt ?_
  exact xt ho68 af68 v_64
  cases hf62
  refine tt ?_
  exact xt ho62 af62 v_58
  intro af46 m46 s46 v_42 o46 hf46 ho46 ih46
  obtain ⟨xs_43, __44⟩ := s46
  dsimp only [image_Encode_L6] at hf46 ⊢
  refine fi hf46 F (fun hf46 _ F => ?_) (fun hf46 _ F => ?_)
  refine bx hf46 F fun x_47 hf46 hx_47 F => ?_
  refine ln F fun F => ?_
  have R := And.intro (show ([[.int .i64 (m.Lattice.Below.length : Int)]] : List (List C))[__44]? = some [.int .i64 x_47] from q_map (f := eI) hx_47) R
  refine tt ?_
  repeat (first | (with_reducible intro _) | (with_reducible refine and_i ?_ ?_; exact ss))
  refine iS Tryz.func40 ?_
  simp only [Tryz.f40]
  refine tt ?_
  repeat (first | (with_reducible intro _) | (with_reducible refine and_i ?_ ?_; exact ss))
  refine iS Tryz.func42 ?_
  simp only [Tryz.f42]
  refine bi hf46 fun e_52 hf46 he_52 => ?_
  refine tt ?_
  repeat (first | (with_reducible intro _) | (with_reducible refine and_i ?_ ?_; exact ss))
  refine lE (fun (s__ : (List Int) × Nat) (a__ : Nat) => match s__, a__ with | (m_49, p_51), v_48 => ⟨[(0, .one (.msl 1 v_48 0 m_49.length)), (7, .one (.slf ([(x_47.fdiv 16777216), (x_47.fdiv 65536), (x_47.fdiv 256), x_47].map eI))), (8, .one (.int .i64 4)), (9, .one (.int .i64 (p_51 : Int)))], [.cells 0 7 [[.sl (m.Lattice.Names.map eS), .sl (m.Lattice.Below.map (eA2 eI)), .sl (m.Sites.map e_api_Site), .sl (m.Vars.map e_api_Var), .sl (m.Blocks.map e_api_Block), .sl (m.Tasks.map e_api_Task), .sl (m.Code.map (eL e_api_Ins))]], .cells v_48 1 (m_49.map (eK .u8)), .cells 0 1 [[.msl 1 v_42 0 xs_43.length]]]⟩) (fun (e__ : List Int) (b__ : Nat) => match e__, b__ with | e_52, b53 => ⟨[(0, .one (.msl 1 b53 0 e_52.length))], [.cells 0 7 [[.sl (m.Lattice.Names.map eS), .sl (m.Lattice.Below.map (eA2 eI)), .sl (m.Sites.map e_api_Site), .sl (m.Vars.map e_api_Var), .sl (m.Blocks.map e_api_Block), .sl (m.Tasks.map e_api_Task), .sl (m.Code.map (eL e_api_Ins))]], .cells b53 1 (e_52.map (eK .u8)), .cells 0 1 [[.msl 1 v_42 0 xs_43.length]]]⟩) (fun (_ : List Int) => some 0) v_42 he_52 ?_ ?_
  intro i53 b53 hi53
  obtain rfl := Option.some.inj hi53
  dsimp only at hf46 ⊢
  cases hf46
  refine tt ?_
  refine wn __44 F fun F => ?_
  exact bk ih46 ho46 b53
  intro af53 m53 s53 v_48 o53 hf53 ho53 ih53
  obtain ⟨m_49, p_51⟩ := s53
  dsimp only [image_Encode_L7] at hf53 ⊢
  refine fi hf53 F (fun hf53 _ F => ?_) (fun hf53 _ F => ?_)
  refine bx hf53 F fun x_54 hf53 hx_54 F => ?_
  refine ln F fun F => ?_
  have R := And.intro (show ([[.int .i64 (x_47.fdiv 16777216)], [.int .i64 (x_47.fdiv 65536)], [.int .i64 (x_47.fdiv 256)], [.int .i64 x_47]] : List (List C))[p_51]? = some [.int .i64 x_54] from q_map (f := eI) hx_54) R
  refine nd hf53 F fun hf53 F => ?_
  cases hf53
  refine tt ?_
  repeat (first | (with_reducible intro _) | (with_reducible refine and_i ?_ ?_; exact ss))
  refine wn p_51 F fun F => ?_
  exact bk ih53 ho53 (v_48 + 1)
  cases hf53
  refine tt ?_
  exact xt ho53 af53 v_48
  cases hf46
  refine tt ?_
  exact xt ho46 af46 v_42
  intro af22 m22 s22 v_18 o22 hf22 ho22 ih22
  obtain ⟨xs_19, x_20⟩ := s22
  dsimp only [image_Encode_L3] at hf22 ⊢
  refine fl hf22 F (fun hf22 _ F => ?_) (fun hf22 _ F => ?_)
  refine bx hf22 F fun x_23 hf22 hx_23 F => ?_
  refine tt ?_
  repeat (first | (with_reducible intro _) | (with_reducible refine and_i ?_ ?_; exact ss))
  refine iS Tryz.func16 ?_
  simp only [Tryz.f16]
  refine tt ?_
  repeat (first | (with_reducible intro _) | (with_reducible refine and_i ?_ ?_; exact ss))
  refine iS Tryz.func15 ?_
  simp only [Tryz.f15]
  refine bi hf22 fun e_27 hf22 he_27 => ?_
  refine tt ?_
  repeat (first | (with_reducible intro _) | (with_reducible refine and_i ?_ ?_; exact ss))
  refine lE (fun (s__ : (List Int) × Nat) (a__ : Nat) => match s__, a__ with | (xs_25, __26), v_24 => ⟨[(0, .one (.ref 2 0 0 0)), (6, .one (.slf ([(x_23.length : Int)].map eI))), (7, .one (.int .i64 1)), (8, .one (.int .i64 (__26 : Int)))], [.cells 0 7 [[.sl (m.Lattice.Names.map eS), .sl (m.Lattice.Below.map (eA2 eI)), .sl (m.Sites.map e_api_Site), .sl (m.Vars.map e_api_Var), .sl (m.Blocks.map e_api_Block), .sl (m.Tasks.map e_api_Task), .sl (m.Code.map (eL e_api_Ins))]], .cells v_24 1 (xs_25.map (eK .u8)), .cells 0 1 [[.msl 1 v_24 0 xs_25.length]]]⟩) (fun (e__ : List Int) (b__ : Nat) => match e__, b__ with | e_27, b28 => ⟨[], [.cells 0 7 [[.sl (m.Lattice.Names.map eS), .sl (m.Lattice.Below.map (eA2 eI)), .sl (m.Sites.map e_api_Site), .sl (m.Vars.map e_api_Var), .sl (m.Blocks.map e_api_Block), .sl (m.Tasks.map e_api_Task), .sl (m.Code.map (eL e_api_Ins))]], .cells b28 1 (e_27.map (eK .u8)), .cells 0 1 [[.msl 1 b28 0 e_27.length]]]⟩) (fun (_ : List Int) => some 0) v_18 he_27 ?_ ?_
  intro i28 b28 hi28
  obtain rfl := Option.some.inj hi28
  dsimp only at hf22 ⊢
  refine nd hf22 F fun hf22 F => ?_
  cases hf22
  refine tt ?_
  repeat (first | (with_reducible intro _) | (with_reducible refine and_i ?_ ?_; exact ss))
  refine wn x_20 F fun F => ?_
  exact bk ih22 ho22 (b28 + 1)
  intro af28 m28 s28 v_24 o28 hf28 ho28 ih28
  obtain ⟨xs_25, __26⟩ := s28
  dsimp only [image_Encode_L4] at hf28 ⊢
  refine fi hf28 F (fun hf28 _ F => ?_) (fun hf28 _ F => ?_)
  refine bx hf28 F fun x_29 hf28 hx_29 F => ?_
  refine ln F fun F => ?_
  have R := And.intro (show ([[.int .i64 (x_23.length : Int)]] : List (List C))[__26]? = some [.int .i64 x_29] from q_map (f := eI) hx_29) R
  refine tt ?_
  repeat (first | (with_reducible intro _) | (with_reducible refine and_i ?_ ?_; exact ss))
  refine iS Tryz.func40 ?_
  simp only [Tryz.f40]
  refine tt ?_
  repeat (first | (with_reducible intro _) | (with_reducible refine and_i ?_ ?_; exact ss))
  refine iS Tryz.func42 ?_
  simp only [Tryz.f42]
  refine bi hf28 fun e_34 hf28 he_34 => ?_
  refine tt ?_
  repeat (first | (with_reducible intro _) | (with_reducible refine and_i ?_ ?_; exact ss))
  refine lE (fun (s__ : (List Int) × Nat) (a__ : Nat) => match s__, a__ with | (m_31, p_33), v_30 => ⟨[(0, .one (.msl 1 v_30 0 m_31.length)), (7, .one (.slf ([(x_29.fdiv 16777216), (x_29.fdiv 65536), (x_29.fdiv 256), x_29].map eI))), (8, .one (.int .i64 4)), (9, .one (.int .i64 (p_33 : Int)))], [.cells 0 7 [[.sl (m.Lattice.Names.map eS), .sl (m.Lattice.Below.map (eA2 eI)), .sl (m.Sites.map e_api_Site), .sl (m.Vars.map e_api_Var), .sl (m.Blocks.map e_api_Block), .sl (m.Tasks.map e_api_Task), .sl (m.Code.map (eL e_api_Ins))]], .cells v_30 1 (m_31.map (eK .u8)), .cells 0 1 [[.msl 1 v_24 0 xs_25.length]]]⟩) (fun (e__ : List Int) (b__ : Nat) => match e__, b__ with | e_34, b35 => ⟨[(0, .one (.msl 1 b35 0 e_34.length))], [.cells 0 7 [[.sl (m.Lattice.Names.map eS), .sl (m.Lattice.Below.map (eA2 eI)), .sl (m.Sites.map e_api_Site), .sl (m.Vars.map e_api_Var), .sl (m.Blocks.map e_api_Block), .sl (m.Tasks.map e_api_Task), .sl (m.Code.map (eL e_api_Ins))]], .cells b35 1 (e_34.map (eK .u8)), .cells 0 1 [[.msl 1 v_24 0 xs_25.length]]]⟩) (fun (_ : List Int) => some 0) v_24 he_34 ?_ ?_
  intro i35 b35 hi35
  obtain rfl := Option.some.inj hi35
  dsimp only at hf28 ⊢
  cases hf28
  refine tt ?_
  refine wn __26 F fun F => ?_
  exact bk ih28 ho28 b35
  intro af35 m35 s35 v_30 o35 hf35 ho35 ih35
  obtain ⟨m_31, p_33⟩ := s35
  dsimp only [image_Encode_L5] at hf35 ⊢
  refine fi hf35 F (fun hf35 _ F => ?_) (fun hf35 _ F => ?_)
  refine bx hf35 F fun x_36 hf35 hx_36 F => ?_
  refine ln F fun F => ?_
  have R := And.intro (show ([[.int .i64 (x_29.fdiv 16777216)], [.int .i64 (x_29.fdiv 65536)], [.int .i64 (x_29.fdiv 256)], [.int .i64 x_29]] : List (List C))[p_33]? = some [.int .i64 x_36] from q_map (f := eI) hx_36) R
  refine nd hf35 F fun hf35 F => ?_
  cases hf35
  refine tt ?_
  repeat (first | (with_reducible intro _) | (with_reducible refine and_i ?_ ?_; exact ss))
  refine wn p_33 F fun F => ?_
  exact bk ih35 ho35 (v_30 + 1)
  cases hf35
  refine tt ?_
  exact xt ho35 af35 v_30
  cases hf28
  refine tt ?_
  exact xt ho28 af28 v_24
  cases hf22
  refine tt ?_
  exact xt ho22 af22 v_18
  intro af6 m6 s6 v_2 o6 hf6 ho6 ih6
  obtain ⟨xs_3, __4⟩ := s6
  dsimp only [image_Encode_L1] at hf6 ⊢
  refine fi hf6 F (fun hf6 _ F => ?_) (fun hf6 _ F => ?_)
  refine bx hf6 F fun x_7 hf6 hx_7 F => ?_
  refine ln F fun F => ?_
  have R := And.intro (show ([[.int .i64 (m.Lattice.Names.length : Int)]] : List (List C))[__4]? = some [.int .i64 x_7] from q_map (f := eI) hx_7) R
  refine tt ?_
  repeat (first | (with_reducible intro _) | (with_reducible refine and_i ?_ ?_; exact ss))
  refine iS Tryz.func40 ?_
  simp only [Tryz.f40]
  refine tt ?_
  repeat (first | (with_reducible intro _) | (with_reducible refine and_i ?_ ?_; exact ss))
  refine iS Tryz.func42 ?_
  simp only [Tryz.f42]
  refine bi hf6 fun e_12 hf6 he_12 => ?_
  refine tt ?_
  repeat (first | (with_reducible intro _) | (with_reducible refine and_i ?_ ?_; exact ss))
  refine lE (fun (s__ : (List Int) × Nat) (a__ : Nat) => match s__, a__ with | (m_9, p_11), v_8 => ⟨[(0, .one (.msl 1 v_8 0 m_9.length)), (7, .one (.slf ([(x_7.fdiv 16777216), (x_7.fdiv 65536), (x_7.fdiv 256), x_7].map eI))), (8, .one (.int .i64 4)), (9, .one (.int .i64 (p_11 : Int)))], [.cells 0 7 [[.sl (m.Lattice.Names.map eS), .sl (m.Lattice.Below.map (eA2 eI)), .sl (m.Sites.map e_api_Site), .sl (m.Vars.map e_api_Var), .sl (m.Blocks.map e_api_Block), .sl (m.Tasks.map e_api_Task), .sl (m.Code.map (eL e_api_Ins))]], .cells v_8 1 (m_9.map (eK .u8)), .cells 0 1 [[.msl 1 v_2 0 xs_3.length]]]⟩) (fun (e__ : List Int) (b__ : Nat) => match e__, b__ with | e_12, b13 => ⟨[(0, .one (.msl 1 b13 0 e_12.length))], [.cells 0 7 [[.sl (m.Lattice.Names.map eS), .sl (m.Lattice.Below.map (eA2 eI)), .sl (m.Sites.map e_api_Site), .sl (m.Vars.map e_api_Var), .sl (m.Blocks.map e_api_Block), .sl (m.Tasks.map e_api_Task), .sl (m.Code.map (eL e_api_Ins))]], .cells b13 1 (e_12.map (eK .u8)), .cells 0 1 [[.msl 1 v_2 0 xs_3.length]]]⟩) (fun (_ : List Int) => some 0) v_2 he_12 ?_ ?_
  intro i13 b13 hi13
  obtain rfl := Option.some.inj hi13
  dsimp only at hf6 ⊢
  cases hf6
  refine tt ?_
  refine wn __4 F fun F => ?_
  exact bk ih6 ho6 b13
  intro af13 m13 s13 v_8 o13 hf13 ho13 ih13
  obtain ⟨m_9, p_11⟩ := s13
  dsimp only [image_Encode_L2] at hf13 ⊢
  refine fi hf13 F (fun hf13 _ F => ?_) (fun hf13 _ F => ?_)
  refine bx hf13 F fun x_14 hf13 hx_14 F => ?_
  refine ln F fun F => ?_
  have R := And.intro (show ([[.int .i64 (x_7.fdiv 16777216)], [.int .i64 (x_7.fdiv 65536)], [.int .i64 (x_7.fdiv 256)], [.int .i64 x_7]] : List (List C))[p_11]? = some [.int .i64 x_14] from q_map (f := eI) hx_14) R
  refine nd hf13 F fun hf13 F => ?_
  cases hf13
  refine tt ?_
  repeat (first | (with_reducible intro _) | (with_reducible refine and_i ?_ ?_; exact ss))
  refine wn p_11 F fun F => ?_
  exact bk ih13 ho13 (v_8 + 1)
  cases hf13
  refine tt ?_
  exact xt ho13 af13 v_8
  cases hf6
  refine tt ?_
  exact xt ho6 af6 v_2
  cases h; exact fin
end Go.Lz
