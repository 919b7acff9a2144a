/- V17w -/
import Derived.Test.YtakkdadfikcpoaaDoorV17
namespace Go.Lz
set_option linter.unusedVariables false
set_option linter.unusedSimpArgs false
open Go.Proofs
attribute [-go_sem] q_cond g_b gd_b
set_option maxRecDepth 100000
set_option maxHeartbeats 4000000
noncomputable section
def code_Decode (s : Str) : Option ((List api_Ins) × Int) :=
  (code_Read s).bind fun r_1 => if r_1.2.2 = true then (if r_1.2.1 = (s.length : Int) then (some (r_1.1, 0)) else (some ([], 8))) else (some ([], 8))

def lex_Digits_L1 : (Int × (List Int)) → Option ((Int × (List Int)) ⊕ (List Int))
  | (n_1, b_2) => if 0 < n_1 then (if b_2.isEmpty = true then (some (.inl ((w64 (n_1.tdiv 10)), [(IntKind.u8.wrap (w64 (48 + (n_1.tmod 10))))]))) else (need ((1 + b_2.length) * 1 ≤ 140737488355328) (some (.inl ((w64 (n_1.tdiv 10)), ([(IntKind.u8.wrap (w64 (48 + (n_1.tmod 10))))] ++ b_2)))))) else (some (.inr (b_2)))
def lex_Digits (n : Int) : Option Str :=
  (loop (lex_Digits_L1) ((w64 (n.tdiv 10)), [(IntKind.u8.wrap (w64 (48 + (n.tmod 10))))])).bind (fun e_3 => some (iBytes e_3))
def code_number (n : Int) : Option Str :=
  if 0 ≤ n then ((lex_Digits n).bind fun r_1 => some r_1) else (if (w64 (0 - n)) < 0 then ((lex_Digits (w64 (0 - (w64 (n.tdiv 10))))).bind fun r_2 => need (r_2.length + 1 ≤ 281474976710656) ((lex_Digits (w64 (0 - (n.tmod 10)))).bind fun r_4 => need (r_2.length + r_4.length + 1 ≤ 281474976710656) (some ((([45] : Str) ++ r_2) ++ r_4)))) else ((lex_Digits (w64 (0 - n))).bind fun r_6 => need (r_6.length + 1 ≤ 281474976710656) (some (([45] : Str) ++ r_6))))
def code_Show (i : api_Ins) : Option Str :=
  (strings_Fields ([63, 32, 80, 85, 83, 72, 32, 76, 79, 65, 68, 32, 76, 79, 65, 68, 88, 32, 83, 84, 79, 82, 69, 32, 83, 84, 79, 82, 69, 88, 32, 79, 80, 32, 79, 85, 84, 32, 67, 65, 76, 76, 32, 68, 69, 67, 76, 32, 71, 85, 65, 82, 68, 32, 73, 70, 32, 69, 76, 83, 69, 32, 76, 79, 79, 80, 32, 87, 72, 73, 76, 69, 32, 70, 79, 82, 32, 69, 78, 68] : Str)).bind fun r_1 => if i.Op < 1 then ((r_1[0]?).bind fun x_2 => some x_2) else (if (r_1.length : Int) ≤ i.Op then ((r_1[0]?).bind fun x_3 => some x_3) else ((idx r_1 i.Op).bind fun x_4 => (code_names i.Op).bind fun r_5 => if (w64 (andI .i64 r_5 1)) = 0 then (if (w64 (andI .i64 r_5 2)) = 0 then (if (w64 (andI .i64 r_5 4)) = 0 then (some x_4) else ((code_number i.Label).bind fun r_6 => need (r_6.length + 2 ≤ 281474976710656) (need (x_4.length + r_6.length + 2 ≤ 281474976710656) (some (x_4 ++ (([32, 64] : Str) ++ r_6)))))) else ((code_number i.B_).bind fun r_9 => need (r_9.length + 1 ≤ 281474976710656) (need (x_4.length + r_9.length + 1 ≤ 281474976710656) (if (w64 (andI .i64 r_5 4)) = 0 then (some (x_4 ++ (([32] : Str) ++ r_9))) else ((code_number i.Label).bind fun r_12 => need (r_12.length + 2 ≤ 281474976710656) (need (x_4.length + r_9.length + r_12.length + 3 ≤ 281474976710656) (some ((x_4 ++ (([32] : Str) ++ r_9)) ++ (([32, 64] : Str) ++ r_12))))))))) else ((code_number i.A).bind fun r_15 => need (r_15.length + 1 ≤ 281474976710656) (need (x_4.length + r_15.length + 1 ≤ 281474976710656) (if (w64 (andI .i64 r_5 2)) = 0 then (if (w64 (andI .i64 r_5 4)) = 0 then (some (x_4 ++ (([32] : Str) ++ r_15))) else ((code_number i.Label).bind fun r_18 => need (r_18.length + 2 ≤ 281474976710656) (need (x_4.length + r_15.length + r_18.length + 3 ≤ 281474976710656) (some ((x_4 ++ (([32] : Str) ++ r_15)) ++ (([32, 64] : Str) ++ r_18)))))) else ((code_number i.B_).bind fun r_21 => need (r_21.length + 1 ≤ 281474976710656) (need (x_4.length + r_15.length + r_21.length + 2 ≤ 281474976710656) (if (w64 (andI .i64 r_5 4)) = 0 then (some ((x_4 ++ (([32] : Str) ++ r_15)) ++ (([32] : Str) ++ r_21))) else ((code_number i.Label).bind fun r_24 => need (r_24.length + 2 ≤ 281474976710656) (need (x_4.length + r_15.length + r_21.length + r_24.length + 4 ≤ 281474976710656) (some (((x_4 ++ (([32] : Str) ++ r_15)) ++ (([32] : Str) ++ r_21)) ++ (([32, 64] : Str) ++ r_24)))))))))))))
def lazarettolaw17_awake : Option Bool :=
  (code_Encode [(⟨1, 5, 2, 0⟩ : api_Ins)]).bind fun r_1 => (code_Decode r_1).bind fun r_2 => need (r_1.length + 1 ≤ 281474976710656) ((code_Decode (r_1 ++ ([120] : Str))).bind fun r_4 => if r_1 = ([0, 0, 0, 1, 1, 0, 2, 0, 0, 0, 5] : Str) then (if r_2.2 = 0 then (if (r_2.1.length : Int) = 1 then ((r_2.1[0]?).bind fun x_5 => if x_5.Op = 1 ∧ x_5.A = 5 ∧ x_5.B_ = 2 ∧ x_5.Label = 0 then (if r_4.2 = 8 then ((code_Show (⟨1, 5, 2, 0⟩ : api_Ins)).bind fun r_6 => if r_6 = ([80, 85, 83, 72, 32, 53, 32, 50] : Str) then ((code_Check [(⟨0, 0, 0, 0⟩ : api_Ins)]).bind fun r_7 => if r_7 = 8 then ((code_Show (⟨10, 0, 0, 2⟩ : api_Ins)).bind fun r_8 => some (decide (r_8 = ([71, 85, 65, 82, 68, 32, 64, 50] : Str)))) else (some false)) else (some false)) else (some false)) else (some false)) else (some false)) else (some false)) else (some false))
end
theorem code_Decode_ok {s : Str} {r : (List api_Ins) × Int} (h : code_Decode s = some r) :
    Pu Tryd.prog 13 [.one (.str s)] (.tup [.one (.sl (r.1.map e_api_Ins)), .one (.int .i64 r.2)]) := by
  have F := trivial; have R := trivial
  refine pA Tryd.func13 ?_
  simp only [Tryd.f13]
  unfold code_Decode at h
  refine bi h fun r_1 h hr_1 => ?_
  refine tt ?_
  repeat (first | (with_reducible intro _) | (with_reducible refine and_i ?_ ?_; exact ss))
  refine cS (code_Read_ok hr_1) ?_
  refine tt ?_
  refine fv h F (fun h _ F => ?_) (fun h _ F => ?_)
  refine tt ?_
  repeat (first | (with_reducible intro _) | (with_reducible refine and_i ?_ ?_; exact ss))
  refine fi h F (fun h _ F => ?_) (fun h _ F => ?_)
  cases h; exact fin
  cases h; exact fin
  cases h; exact fin

theorem lex_Digits_ok {n : Int} {r : Str} (h : lex_Digits n = some r) :
    Pu Tryd.prog 37 [.one (.int .i64 n)] (.one (.str r)) := by
  have F := trivial; have R := trivial
  refine pA Tryd.func37 ?_
  simp only [Tryd.f37]
  unfold lex_Digits at h
  refine bi h fun e_3 h he_3 => ?_
  refine tt ?_
  repeat (first | (with_reducible intro _) | (with_reducible refine and_i ?_ ?_; exact ss))
  refine plain_L 3 _ (by simp [go_sem]; rfl) ?_
  refine lE (fun (s__ : Int × (List Int)) (a__ : Unit) => match s__, a__ with | (n_1, b_2), _ => ⟨[(0, .one (.int .i64 n_1)), (3, .one (.sl (b_2.map (eK .u8))))], []⟩) (fun (e__ : List Int) (b__ : Unit) => match e__, b__ with | e_3, _ => ⟨[(3, .one (.sl (e_3.map (eK .u8))))], []⟩) (fun (_ : List Int) => some 0) () he_3 ?_ ?_
  intro i4 b4 hi4
  obtain rfl := Option.some.inj hi4
  obtain ⟨⟩ := b4
  dsimp only at h ⊢
  cases h; exact fin
  intro af4 m4 s4 a4 o4 hf4 ho4 ih4
  obtain ⟨n_1, b_2⟩ := s4
  obtain ⟨⟩ := a4
  dsimp only [lex_Digits_L1] at hf4 ⊢
  refine fi hf4 F (fun hf4 _ F => ?_) (fun hf4 _ F => ?_)
  refine tt ?_
  repeat (first | (with_reducible intro _) | (with_reducible refine and_i ?_ ?_; exact ss))
  refine fv hf4 F (fun hf4 _ F => ?_) (fun hf4 _ F => ?_)
  cases hf4
  refine tt ?_
  repeat (first | (with_reducible intro _) | (with_reducible refine and_i ?_ ?_; exact ss))
  refine plain_P 3 _ (by simp [go_sem]; rfl) ?_
  exact bk ih4 ho4 ()
  refine nd hf4 F fun hf4 F => ?_
  cases hf4
  refine tt ?_
  repeat (first | (with_reducible intro _) | (with_reducible refine and_i ?_ ?_; exact ss))
  refine fz_P 3 0 ?_
  exact bk ih4 ho4 ()
  cases hf4
  refine tt ?_
  exact xt ho4 af4 ()
theorem code_number_ok {n : Int} {r : Str} (h : code_number n = some r) :
    Pu Tryd.prog 29 [.one (.int .i64 n)] (.one (.str r)) := by
  have F := trivial; have R := trivial
  refine pA Tryd.func29 ?_
  simp only [Tryd.f29]
  unfold code_number at h
  refine fi h F (fun h _ F => ?_) (fun h _ F => ?_)
  refine bi h fun r_1 h hr_1 => ?_
  refine tt ?_
  repeat (first | (with_reducible intro _) | (with_reducible refine and_i ?_ ?_; exact ss))
  refine cS (lex_Digits_ok hr_1) ?_
  cases h; exact fin
  refine tt ?_
  refine fi h F (fun h _ F => ?_) (fun h _ F => ?_)
  refine bi h fun r_2 h hr_2 => ?_
  refine tt ?_
  repeat (first | (with_reducible intro _) | (with_reducible refine and_i ?_ ?_; exact ss))
  refine cS (lex_Digits_ok hr_2) ?_
  refine nd h F fun h F => ?_
  refine bi h fun r_4 h hr_4 => ?_
  refine tt ?_
  repeat (first | (with_reducible intro _) | (with_reducible refine and_i ?_ ?_; exact ss))
  refine cS (lex_Digits_ok hr_4) ?_
  refine nd h F fun h F => ?_
  cases h; exact fin
  refine bi h fun r_6 h hr_6 => ?_
  refine tt ?_
  repeat (first | (with_reducible intro _) | (with_reducible refine and_i ?_ ?_; exact ss))
  refine cS (lex_Digits_ok hr_6) ?_
  refine nd h F fun h F => ?_
  cases h; exact fin
theorem code_Show_ok {i : api_Ins} {r : Str} (h : code_Show i = some r) :
    Pu Tryd.prog 16 [.agg (e_api_Ins i)] (.one (.str r)) := by
  have F := trivial; have R := trivial
  refine pA Tryd.func16 ?_
  simp only [Tryd.f16]
  unfold code_Show at h
  refine bi h fun r_1 h hr_1 => ?_
  refine tt ?_
  repeat (first | (with_reducible intro _) | (with_reducible refine and_i ?_ ?_; exact ss))
  refine cS (strings_Fields_ok hr_1) ?_
  refine fi h F (fun h _ F => ?_) (fun h _ F => ?_)
  refine bx h F fun x_2 h hx_2 F => ?_
  cases h; exact fin
  refine tt ?_
  repeat (first | (with_reducible intro _) | (with_reducible refine and_i ?_ ?_; exact ss))
  refine fi h F (fun h _ F => ?_) (fun h _ F => ?_)
  refine bx h F fun x_3 h hx_3 F => ?_
  cases h; exact fin
  refine by_ h F fun x_4 h hx_4 F => ?_
  refine bi h fun r_5 h hr_5 => ?_
  refine tt ?_
  repeat (first | (with_reducible intro _) | (with_reducible refine and_i ?_ ?_; exact ss))
  refine cS (code_names_ok hr_5) ?_
  refine fi h F (fun h _ F => ?_) (fun h _ F => ?_)
  refine tt ?_
  refine fi h F (fun h _ F => ?_) (fun h _ F => ?_)
  refine fi h F (fun h _ F => ?_) (fun h _ F => ?_)
  cases h; exact fin
  refine bi h fun r_6 h hr_6 => ?_
  refine tt ?_
  repeat (first | (with_reducible intro _) | (with_reducible refine and_i ?_ ?_; exact ss))
  refine cS (code_number_ok hr_6) ?_
  refine nd h F fun h F => ?_
  refine nd h F fun h F => ?_
  cases h; exact fin
  refine bi h fun r_9 h hr_9 => ?_
  refine tt ?_
  repeat (first | (with_reducible intro _) | (with_reducible refine and_i ?_ ?_; exact ss))
  refine cS (code_number_ok hr_9) ?_
  refine nd h F fun h F => ?_
  refine nd h F fun h F => ?_
  refine tt ?_
  repeat (first | (with_reducible intro _) | (with_reducible refine and_i ?_ ?_; exact ss))
  refine fi h F (fun h _ F => ?_) (fun h _ F => ?_)
  cases h; exact fin
  refine bi h fun r_12 h hr_12 => ?_
  refine tt ?_
  repeat (first | (with_reducible intro _) | (with_reducible refine and_i ?_ ?_; exact ss))
  refine cS (code_number_ok hr_12) ?_
  refine nd h F fun h F => ?_
  refine nd h F fun h F => ?_
  cases h; exact fin
  refine bi h fun r_15 h hr_15 => ?_
  refine tt ?_
  repeat (first | (with_reducible intro _) | (with_reducible refine and_i ?_ ?_; exact ss))
  refine cS (code_number_ok hr_15) ?_
  refine nd h F fun h F => ?_
  refine nd h F fun h F => ?_
  refine tt ?_
  repeat (first | (with_reducible intro _) | (with_reducible refine and_i ?_ ?_; exact ss))
  refine fi h F (fun h _ F => ?_) (fun h _ F => ?_)
  refine fi h F (fun h _ F => ?_) (fun h _ F => ?_)
  cases h; exact fin
  refine bi h fun r_18 h hr_18 => ?_
  refine tt ?_
  repeat (first | (with_reducible intro _) | (with_reducible refine and_i ?_ ?_; exact ss))
  refine cS (code_number_ok hr_18) ?_
  refine nd h F fun h F => ?_
  refine nd h F fun h F => ?_
  cases h; exact fin
  refine bi h fun r_21 h hr_21 => ?_
  refine tt ?_
  repeat (first | (with_reducible intro _) | (with_reducible refine and_i ?_ ?_; exact ss))
  refine cS (code_number_ok hr_21) ?_
  refine nd h F fun h F => ?_
  refine nd h F fun h F => ?_
  refine tt ?_
  repeat (first | (with_reducible intro _) | (with_reducible refine and_i ?_ ?_; exact ss))
  refine fi h F (fun h _ F => ?_) (fun h _ F => ?_)
  cases h; exact fin
  refine bi h fun r_24 h hr_24 => ?_
  refine tt ?_
  repeat (first | (with_reducible intro _) | (with_reducible refine and_i ?_ ?_; exact ss))
  refine cS (code_number_ok hr_24) ?_
  refine nd h F fun h F => ?_
  refine nd h F fun h F => ?_
  cases h; exact fin
theorem lazarettolaw17_awake_ok {r : Bool} (h : lazarettolaw17_awake = some r) :
    Pu Tryd.prog 8 [] (.one (.bool r)) := by
  have F := trivial; have R := trivial
  refine pA Tryd.func8 ?_
  simp only [Tryd.f8]
  unfold lazarettolaw17_awake at h
  refine bi h fun r_1 h hr_1 => ?_
  refine tt ?_
  repeat (first | (with_reducible intro _) | (with_reducible refine and_i ?_ ?_; exact ss))
  refine cS (code_Encode_ok hr_1) ?_
  refine bi h fun r_2 h hr_2 => ?_
  refine tt ?_
  repeat (first | (with_reducible intro _) | (with_reducible refine and_i ?_ ?_; exact ss))
  refine cS (code_Decode_ok hr_2) ?_
  refine nd h F fun h F => ?_
  refine bi h fun r_4 h hr_4 => ?_
  refine tt ?_
  repeat (first | (with_reducible intro _) | (with_reducible refine and_i ?_ ?_; exact ss))
  refine cS (code_Decode_ok hr_4) ?_
  refine tt ?_
  repeat (first | (with_reducible intro _) | (with_reducible refine and_i ?_ ?_; exact ss))
  refine fi h F (fun h _ F => ?_) (fun h _ F => ?_)
  refine tt ?_
  repeat (first | (with_reducible intro _) | (with_reducible refine and_i ?_ ?_; exact ss))
  refine fi h F (fun h _ F => ?_) (fun h _ F => ?_)
  refine tt ?_
  repeat (first | (with_reducible intro _) | (with_reducible refine and_i ?_ ?_; exact ss))
  refine fi h F (fun h _ F => ?_) (fun h _ F => ?_)
  refine bx h F fun x_5 h hx_5 F => ?_
  refine tt ?_
  repeat (first | (with_reducible intro _) | (with_reducible refine and_i ?_ ?_; exact ss))
  refine fi h F (fun h _ F => ?_) (fun h _ F => ?_)
  refine tt ?_
  repeat (first | (with_reducible intro _) | (with_reducible refine and_i ?_ ?_; exact ss))
  refine fi h F (fun h _ F => ?_) (fun h _ F => ?_)
  refine bi h fun r_6 h hr_6 => ?_
  refine tt ?_
  repeat (first | (with_reducible intro _) | (with_reducible refine and_i ?_ ?_; exact ss))
  refine cD (code_Show_ok hr_6) ?_
  refine tt ?_
  repeat (first | (with_reducible intro _) | (with_reducible refine and_i ?_ ?_; exact ss))
  refine fi h F (fun h _ F => ?_) (fun h _ F => ?_)
  refine bi h fun r_7 h hr_7 => ?_
  refine tt ?_
  repeat (first | (with_reducible intro _) | (with_reducible refine and_i ?_ ?_; exact ss))
  refine cD (code_Check_ok hr_7) ?_
  refine tt ?_
  repeat (first | (with_reducible intro _) | (with_reducible refine and_i ?_ ?_; exact ss))
  refine fi h F (fun h _ F => ?_) (fun h _ F => ?_)
  refine bi h fun r_8 h hr_8 => ?_
  refine tt ?_
  repeat (first | (with_reducible intro _) | (with_reducible refine and_i ?_ ?_; exact ss))
  refine cD (code_Show_ok hr_8) ?_
  cases h; exact fin
  cases h; exact fin
  cases h; exact fin
  cases h; exact fin
  cases h; exact fin
  cases h; exact fin
  cases h; exact fin
  cases h; exact fin
end Go.Lz
