/- V17r -/
import Derived.Test.YtakkdadfikcpoaaDoorV17w
namespace Go.Lz
set_option linter.unusedVariables false
set_option linter.unusedSimpArgs false
open Go.Proofs
attribute [-go_sem] q_cond g_b gd_b
set_option maxRecDepth 100000
set_option maxHeartbeats 4000000
noncomputable section
def lazarettoref17_names (op : Int) : Option (Bool × Bool × Bool) :=
  if op = 1 then (some (true, true, false)) else (if op = 7 then (some (true, true, false)) else (if op = 2 then (some (true, false, false)) else (if op = 4 then (some (true, false, false)) else (if op = 8 then (some (true, false, false)) else (if op = 9 then (some (true, false, false)) else (if op = 3 then (some (true, false, true)) else (if op = 5 then (some (true, false, true)) else (if op = 6 then (some (true, true, true)) else (if op = 15 then (some (true, true, true)) else (if op = 10 then (some (false, false, true)) else (if op = 11 then (some (false, false, true)) else (if op = 14 then (some (false, false, true)) else (some (false, false, false))))))))))))))
def lazarettoref17_one (i : api_Ins) : Option Bool :=
  (lazarettoref17_names i.Op).bind fun r_1 => if r_1.1 = true then (if r_1.2.1 = true then (if r_1.2.2 = true then (if 1 ≤ i.Op then (if i.Op ≤ 16 then (if (-2147483648) ≤ i.A then (if i.A ≤ 2147483647 then (if 0 ≤ i.B_ then (if i.B_ ≤ 255 then (if 0 ≤ i.Label then (some (decide (i.Label ≤ 7))) else (some false)) else (some false)) else (some false)) else (some false)) else (some false)) else (some false)) else (some false)) else (if i.Label = 0 then (if 1 ≤ i.Op then (if i.Op ≤ 16 then (if (-2147483648) ≤ i.A then (if i.A ≤ 2147483647 then (if 0 ≤ i.B_ then (if i.B_ ≤ 255 then (if 0 ≤ i.Label then (some (decide (i.Label ≤ 7))) else (some false)) else (some false)) else (some false)) else (some false)) else (some false)) else (some false)) else (some false)) else (some false))) else (if i.B_ = 0 then (if r_1.2.2 = true then (if 1 ≤ i.Op then (if i.Op ≤ 16 then (if (-2147483648) ≤ i.A then (if i.A ≤ 2147483647 then (if 0 ≤ i.B_ then (if i.B_ ≤ 255 then (if 0 ≤ i.Label then (some (decide (i.Label ≤ 7))) else (some false)) else (some false)) else (some false)) else (some false)) else (some false)) else (some false)) else (some false)) else (if i.Label = 0 then (if 1 ≤ i.Op then (if i.Op ≤ 16 then (if (-2147483648) ≤ i.A then (if i.A ≤ 2147483647 then (if 0 ≤ i.B_ then (if i.B_ ≤ 255 then (if 0 ≤ i.Label then (some (decide (i.Label ≤ 7))) else (some false)) else (some false)) else (some false)) else (some false)) else (some false)) else (some false)) else (some false)) else (some false))) else (some false))) else (if i.A = 0 then (if r_1.2.1 = true then (if r_1.2.2 = true then (if 1 ≤ i.Op then (if i.Op ≤ 16 then (if (-2147483648) ≤ i.A then (if i.A ≤ 2147483647 then (if 0 ≤ i.B_ then (if i.B_ ≤ 255 then (if 0 ≤ i.Label then (some (decide (i.Label ≤ 7))) else (some false)) else (some false)) else (some false)) else (some false)) else (some false)) else (some false)) else (some false)) else (if i.Label = 0 then (if 1 ≤ i.Op then (if i.Op ≤ 16 then (if (-2147483648) ≤ i.A then (if i.A ≤ 2147483647 then (if 0 ≤ i.B_ then (if i.B_ ≤ 255 then (if 0 ≤ i.Label then (some (decide (i.Label ≤ 7))) else (some false)) else (some false)) else (some false)) else (some false)) else (some false)) else (some false)) else (some false)) else (some false))) else (if i.B_ = 0 then (if r_1.2.2 = true then (if 1 ≤ i.Op then (if i.Op ≤ 16 then (if (-2147483648) ≤ i.A then (if i.A ≤ 2147483647 then (if 0 ≤ i.B_ then (if i.B_ ≤ 255 then (if 0 ≤ i.Label then (some (decide (i.Label ≤ 7))) else (some false)) else (some false)) else (some false)) else (some false)) else (some false)) else (some false)) else (some false)) else (if i.Label = 0 then (if 1 ≤ i.Op then (if i.Op ≤ 16 then (if (-2147483648) ≤ i.A then (if i.A ≤ 2147483647 then (if 0 ≤ i.B_ then (if i.B_ ≤ 255 then (if 0 ≤ i.Label then (some (decide (i.Label ≤ 7))) else (some false)) else (some false)) else (some false)) else (some false)) else (some false)) else (some false)) else (some false)) else (some false))) else (some false))) else (some false))
def lazarettoref17_Check_L1 (l : List api_Ins) : Nat → Option ((Nat) ⊕ (Int ⊕ Unit))
  | i_1 => if (i_1 : Int) < (l.length : Int) then ((l[i_1]?).bind fun x_4 => (lazarettoref17_one x_4).bind fun r_5 => if r_5 = true then (some (.inl (i_1 + 1))) else (some (.inr (.inl (8))))) else (some (.inr (.inr (()))))
def lazarettoref17_Check (l : List api_Ins) : Option Int :=
  if 32768 < (l.length : Int) then (some 3) else ((loop (lazarettoref17_Check_L1 l) 0).bind (fun e__ => match e__ with | (.inl e_6) => some e_6 | (.inr ()) => some 0))
def lazarettoref17_Four (n : Int) : Option (List Int) :=
  some [(IntKind.u8.wrap ((IntKind.u32.wrap n).fdiv 16777216)), (IntKind.u8.wrap ((IntKind.u32.wrap n).fdiv 65536)), (IntKind.u8.wrap ((IntKind.u32.wrap n).fdiv 256)), (IntKind.u8.wrap (IntKind.u32.wrap n))]
def lazarettoref17_Encode_L1 (l : List api_Ins) : ((List Int) × Nat) → Option (((List Int) × Nat) ⊕ (List Int))
  | (b_3, i_5) => if (i_5 : Int) < (l.length : Int) then ((l[i_5]?).bind fun x_8 => need ((b_3.length + 3) * 1 ≤ 140737488355328) (need ((b_3.length + 3 + 4) * 1 ≤ 140737488355328) (some (.inl (((b_3 ++ [(IntKind.u8.wrap x_8.Op), (IntKind.u8.wrap x_8.Label), (IntKind.u8.wrap x_8.B_)]) ++ [(IntKind.u8.wrap ((IntKind.u32.wrap x_8.A).fdiv 16777216)), (IntKind.u8.wrap ((IntKind.u32.wrap x_8.A).fdiv 65536)), (IntKind.u8.wrap ((IntKind.u32.wrap x_8.A).fdiv 256)), (IntKind.u8.wrap (IntKind.u32.wrap x_8.A))]), (i_5 + 1)))))) else (some (.inr (b_3)))
def lazarettoref17_Encode (l : List api_Ins) : Option Str :=
  (lazarettoref17_Check l).bind fun r_1 => if r_1 = 0 then ((loop (lazarettoref17_Encode_L1 l) ([(IntKind.u8.wrap ((IntKind.u32.wrap (l.length : Int)).fdiv 16777216)), (IntKind.u8.wrap ((IntKind.u32.wrap (l.length : Int)).fdiv 65536)), (IntKind.u8.wrap ((IntKind.u32.wrap (l.length : Int)).fdiv 256)), (IntKind.u8.wrap (IntKind.u32.wrap (l.length : Int)))], 0)).bind (fun e_6 => some (iBytes e_6))) else (some [])
def lazarettolaw17_CodeChecks (l : List api_Ins) : Option Bool :=
  if 40000 < (l.length : Int) then ((lazarettolaw17_awake).bind fun r_1 => some r_1) else ((code_Check l).bind fun r_2 => (lazarettoref17_Check l).bind fun r_3 => if r_2 = r_3 then ((code_Encode l).bind fun r_4 => (lazarettoref17_Encode l).bind fun r_5 => if r_4 = r_5 then ((lazarettolaw17_awake).bind fun r_6 => some r_6) else (some false)) else (some false))
def lazarettoref17_Back (s : Str) : Option Int :=
  (s[0]?).bind fun c_1 => (s[1]?).bind fun c_2 => (s[2]?).bind fun c_3 => (s[3]?).bind fun c_4 => some (w64 (IntKind.i32.wrap (IntKind.u32.wrap (orI .u32 (IntKind.u32.wrap (orI .u32 (IntKind.u32.wrap (orI .u32 (IntKind.u32.wrap ((IntKind.u32.wrap (c_1.toNat : Int)) * 16777216)) (IntKind.u32.wrap ((IntKind.u32.wrap (c_2.toNat : Int)) * 65536)))) (IntKind.u32.wrap ((IntKind.u32.wrap (c_3.toNat : Int)) * 256)))) (IntKind.u32.wrap (c_4.toNat : Int))))))
def lazarettoref17_Read_L1 (s : Str) (r_1 : Int) : ((List api_Ins) × Nat) → Option (((List api_Ins) × Nat) ⊕ (List api_Ins))
  | (l_3, i_5) => if (i_5 : Int) < r_1 then (need (0 ≤ (w64 (4 + (w64 (7 * (i_5 : Int))))) ∧ (w64 (4 + (w64 (7 * (i_5 : Int))))) ≤ (s.length : Int) ∧ (s.length : Int) ≤ s.length) (((s.drop (w64 (4 + (w64 (7 * (i_5 : Int))))).toNat)[0]?).bind fun c_9 => ((s.drop (w64 (4 + (w64 (7 * (i_5 : Int))))).toNat)[1]?).bind fun c_10 => ((s.drop (w64 (4 + (w64 (7 * (i_5 : Int))))).toNat)[2]?).bind fun c_11 => need (0 ≤ 3 ∧ 3 ≤ ((s.drop (w64 (4 + (w64 (7 * (i_5 : Int))))).toNat).length : Int) ∧ ((s.drop (w64 (4 + (w64 (7 * (i_5 : Int))))).toNat).length : Int) ≤ (s.drop (w64 (4 + (w64 (7 * (i_5 : Int))))).toNat).length) ((lazarettoref17_Back ((s.drop (w64 (4 + (w64 (7 * (i_5 : Int))))).toNat).drop 3)).bind fun r_13 => need ((l_3.length + 1) * 32 ≤ 140737488355328) (some (.inl ((l_3 ++ [(⟨(w64 (c_9.toNat : Int)), r_13, (w64 (c_11.toNat : Int)), (w64 (c_10.toNat : Int))⟩ : api_Ins)]), (i_5 + 1))))))) else (some (.inr (l_3)))
def lazarettoref17_Read (s : Str) : Option ((List api_Ins) × Int × Int) :=
  if (s.length : Int) < 4 then (some ([], 0, 8)) else ((lazarettoref17_Back s).bind fun r_1 => if r_1 < 0 then (some ([], 0, 8)) else (if 32768 < r_1 then (some ([], 0, 8)) else (if (s.length : Int) < (w64 (4 + (w64 (7 * r_1)))) then (some ([], 0, 8)) else ((loop (lazarettoref17_Read_L1 s r_1) ([], 0)).bind (fun e_6 => (lazarettoref17_Check e_6).bind fun r_16 => if r_16 = 0 then (some (e_6, (w64 (4 + (w64 (7 * r_1)))), 0)) else (some ([], 0, 8)))))))
def lazarettoref17_Decode (s : Str) : Option ((List api_Ins) × Int) :=
  (lazarettoref17_Read s).bind fun r_1 => if r_1.2.2 = 0 then (if r_1.2.1 = (s.length : Int) then (some (r_1.1, 0)) else (some ([], 8))) else (some ([], 8))
def lazarettoref17_Same_L1 (a : List api_Ins) (b : List api_Ins) : Nat → Option ((Nat) ⊕ (Bool ⊕ Unit))
  | i_1 => if (i_1 : Int) < (a.length : Int) then ((a[i_1]?).bind fun x_4 => (b[i_1]?).bind fun x_5 => if x_4.Op = x_5.Op ∧ x_4.A = x_5.A ∧ x_4.B_ = x_5.B_ ∧ x_4.Label = x_5.Label then (some (.inl (i_1 + 1))) else (some (.inr (.inl (false))))) else (some (.inr (.inr (()))))
def lazarettoref17_Same (a : List api_Ins) (b : List api_Ins) : Option Bool :=
  if (a.length : Int) = (b.length : Int) then ((loop (lazarettoref17_Same_L1 a b) 0).bind (fun e__ => match e__ with | (.inl e_6) => some e_6 | (.inr ()) => some true)) else (some false)
def lazarettolaw17_CodeDecodes (s : Str) : Option Bool :=
  if 300000 < (s.length : Int) then ((lazarettolaw17_awake).bind fun r_1 => some r_1) else ((code_Decode s).bind fun r_2 => (lazarettoref17_Decode s).bind fun r_3 => (lazarettoref17_Same r_2.1 r_3.1).bind fun r_4 => if r_4 = true then (if r_2.2 = r_3.2 then ((lazarettolaw17_awake).bind fun r_5 => some r_5) else (some false)) else (some false))
def lazarettolaw17_CodeBack (l : List api_Ins) : Option Bool :=
  if 2000 < (l.length : Int) then ((lazarettolaw17_awake).bind fun r_1 => some r_1) else ((code_Check l).bind fun r_2 => if r_2 = 0 then ((code_Encode l).bind fun r_3 => (code_Decode r_3).bind fun r_4 => if r_4.2 = 0 then ((lazarettoref17_Same l r_4.1).bind fun r_5 => if r_5 = true then ((lazarettolaw17_awake).bind fun r_6 => some r_6) else (some false)) else (some false)) else ((lazarettolaw17_awake).bind fun r_7 => some r_7))
def lazarettolaw17_CodeOnly (s : Str) : Option Bool :=
  if 300000 < (s.length : Int) then ((lazarettolaw17_awake).bind fun r_1 => some r_1) else ((code_Decode s).bind fun r_2 => if r_2.2 = 0 then ((code_Encode r_2.1).bind fun r_3 => if r_3 = s then ((code_Check r_2.1).bind fun r_4 => if r_4 = 0 then ((lazarettolaw17_awake).bind fun r_5 => some r_5) else (some false)) else (some false)) else (if (r_2.1.length : Int) = 0 then ((lazarettolaw17_awake).bind fun r_6 => some r_6) else (some false)))
def lazarettoref05_Digits_L1 : (Int × Str) → Option ((Int × Str) ⊕ (Int × Str))
  | (n_1, s_2) => if 10 ≤ n_1 then (need (0 ≤ (n_1.tmod 10) ∧ (n_1.tmod 10) ≤ (w64 ((n_1.tmod 10) + 1)) ∧ (w64 ((n_1.tmod 10) + 1)) ≤ 10) (need (((([48, 49, 50, 51, 52, 53, 54, 55, 56, 57] : Str).take (w64 ((n_1.tmod 10) + 1)).toNat).drop (n_1.tmod 10).toNat).length + s_2.length ≤ 281474976710656) (some (.inl ((w64 (n_1.tdiv 10)), (((([48, 49, 50, 51, 52, 53, 54, 55, 56, 57] : Str).take (w64 ((n_1.tmod 10) + 1)).toNat).drop (n_1.tmod 10).toNat) ++ s_2)))))) else (some (.inr ((n_1, s_2))))
def lazarettoref05_Digits (n : Int) : Option Str :=
  (loop (lazarettoref05_Digits_L1) (n, [])).bind (fun (n_7, s_8) => need (0 ≤ n_7 ∧ n_7 ≤ (w64 (n_7 + 1)) ∧ (w64 (n_7 + 1)) ≤ 10) (need (((([48, 49, 50, 51, 52, 53, 54, 55, 56, 57] : Str).take (w64 (n_7 + 1)).toNat).drop n_7.toNat).length + s_8.length ≤ 281474976710656) (some (((([48, 49, 50, 51, 52, 53, 54, 55, 56, 57] : Str).take (w64 (n_7 + 1)).toNat).drop n_7.toNat) ++ s_8))))
def lazarettoref17_signed (n : Int) : Option Str :=
  if 0 ≤ n then ((lazarettoref05_Digits n).bind fun r_1 => some r_1) else (if n = (-9223372036854775808) then (some ([45, 57, 50, 50, 51, 51, 55, 50, 48, 51, 54, 56, 53, 52, 55, 55, 53, 56, 48, 56] : Str)) else ((lazarettoref05_Digits (w64 (0 - n))).bind fun r_2 => need (r_2.length + 1 ≤ 281474976710656) (some (([45] : Str) ++ r_2))))
def lazarettoref17_Show (i : api_Ins) : Option Str :=
  if i.Op < 1 then (some ([63] : Str)) else (if 16 < i.Op then (some ([63] : Str)) else ((lazarettoref17_names i.Op).bind fun r_1 => (idx [[], ([80, 85, 83, 72] : Str), ([76, 79, 65, 68] : Str), ([76, 79, 65, 68, 88] : Str), ([83, 84, 79, 82, 69] : Str), ([83, 84, 79, 82, 69, 88] : Str), ([79, 80] : Str), ([79, 85, 84] : Str), ([67, 65, 76, 76] : Str), ([68, 69, 67, 76] : Str), ([71, 85, 65, 82, 68] : Str), ([73, 70] : Str), ([69, 76, 83, 69] : Str), ([76, 79, 79, 80] : Str), ([87, 72, 73, 76, 69] : Str), ([70, 79, 82] : Str), ([69, 78, 68] : Str)] i.Op).bind fun x_2 => if r_1.1 = true then ((lazarettoref17_signed i.A).bind fun r_3 => need (r_3.length + 1 ≤ 281474976710656) (need (x_2.length + r_3.length + 1 ≤ 281474976710656) (if r_1.2.1 = true then ((lazarettoref17_signed i.B_).bind fun r_6 => need (r_6.length + 1 ≤ 281474976710656) (need (x_2.length + r_3.length + r_6.length + 2 ≤ 281474976710656) (if r_1.2.2 = true then ((lazarettoref17_signed i.Label).bind fun r_9 => need (r_9.length + 2 ≤ 281474976710656) (need (x_2.length + r_3.length + r_6.length + r_9.length + 4 ≤ 281474976710656) (some (((x_2 ++ (([32] : Str) ++ r_3)) ++ (([32] : Str) ++ r_6)) ++ (([32, 64] : Str) ++ r_9))))) else (some ((x_2 ++ (([32] : Str) ++ r_3)) ++ (([32] : Str) ++ r_6)))))) else (if r_1.2.2 = true then ((lazarettoref17_signed i.Label).bind fun r_12 => need (r_12.length + 2 ≤ 281474976710656) (need (x_2.length + r_3.length + r_12.length + 3 ≤ 281474976710656) (some ((x_2 ++ (([32] : Str) ++ r_3)) ++ (([32, 64] : Str) ++ r_12))))) else (some (x_2 ++ (([32] : Str) ++ r_3))))))) else (if r_1.2.1 = true then ((lazarettoref17_signed i.B_).bind fun r_15 => need (r_15.length + 1 ≤ 281474976710656) (need (x_2.length + r_15.length + 1 ≤ 281474976710656) (if r_1.2.2 = true then ((lazarettoref17_signed i.Label).bind fun r_18 => need (r_18.length + 2 ≤ 281474976710656) (need (x_2.length + r_15.length + r_18.length + 3 ≤ 281474976710656) (some ((x_2 ++ (([32] : Str) ++ r_15)) ++ (([32, 64] : Str) ++ r_18))))) else (some (x_2 ++ (([32] : Str) ++ r_15)))))) else (if r_1.2.2 = true then ((lazarettoref17_signed i.Label).bind fun r_21 => need (r_21.length + 2 ≤ 281474976710656) (need (x_2.length + r_21.length + 2 ≤ 281474976710656) (some (x_2 ++ (([32, 64] : Str) ++ r_21))))) else (some x_2)))))
def lazarettolaw17_CodeShows (i : api_Ins) : Option Bool :=
  (code_Show i).bind fun r_1 => (lazarettoref17_Show i).bind fun r_2 => if r_1 = r_2 then ((lazarettolaw17_awake).bind fun r_3 => some r_3) else (some false)
end
theorem lazarettoref17_names_ok {op : Int} {r : Bool × Bool × Bool} (h : lazarettoref17_names op = some r) :
    Pu Tryd.prog 30 [.one (.int .i64 op)] (.tup [.one (.bool r.1), .one (.bool r.2.1), .one (.bool r.2.2)]) := by
  have F := trivial; have R := trivial
  refine pA Tryd.func30 ?_
  simp only [Tryd.f30]
  unfold lazarettoref17_names at h
  refine fi h F (fun h _ F => ?_) (fun h _ F => ?_)
  cases h; exact fin
  refine tt ?_
  refine fi h F (fun h _ F => ?_) (fun h _ F => ?_)
  cases h; exact fin
  refine fi h F (fun h _ F => ?_) (fun h _ F => ?_)
  cases h; exact fin
  refine fi h F (fun h _ F => ?_) (fun h _ F => ?_)
  cases h; exact fin
  refine fi h F (fun h _ F => ?_) (fun h _ F => ?_)
  cases h; exact fin
  refine tt ?_
  refine fi h F (fun h _ F => ?_) (fun h _ F => ?_)
  cases h; exact fin
  refine fi h F (fun h _ F => ?_) (fun h _ F => ?_)
  cases h; exact fin
  refine fi h F (fun h _ F => ?_) (fun h _ F => ?_)
  cases h; exact fin
  refine fi h F (fun h _ F => ?_) (fun h _ F => ?_)
  cases h; exact fin
  refine tt ?_
  refine fi h F (fun h _ F => ?_) (fun h _ F => ?_)
  cases h; exact fin
  refine fi h F (fun h _ F => ?_) (fun h _ F => ?_)
  cases h; exact fin
  refine fi h F (fun h _ F => ?_) (fun h _ F => ?_)
  cases h; exact fin
  refine fi h F (fun h _ F => ?_) (fun h _ F => ?_)
  cases h; exact fin
  cases h; exact fin
theorem lazarettoref17_one_ok {i : api_Ins} {r : Bool} (h : lazarettoref17_one i = some r) :
    Pu Tryd.prog 21 [.agg (e_api_Ins i)] (.one (.bool r)) := by
  have F := trivial; have R := trivial
  refine pA Tryd.func21 ?_
  simp only [Tryd.f21]
  unfold lazarettoref17_one at h
  refine bi h fun r_1 h hr_1 => ?_
  refine tt ?_
  repeat (first | (with_reducible intro _) | (with_reducible refine and_i ?_ ?_; exact ss))
  refine cS (lazarettoref17_names_ok hr_1) ?_
  refine tt ?_
  refine fv h F (fun h _ F => ?_) (fun h _ F => ?_)
  refine fv h F (fun h _ F => ?_) (fun h _ F => ?_)
  refine tt ?_
  refine fv h F (fun h _ F => ?_) (fun h _ F => ?_)
  refine fi h F (fun h _ F => ?_) (fun h _ F => ?_)
  refine tt ?_
  refine fi h F (fun h _ F => ?_) (fun h _ F => ?_)
  refine fi h F (fun h _ F => ?_) (fun h _ F => ?_)
  refine tt ?_
  refine fi h F (fun h _ F => ?_) (fun h _ F => ?_)
  refine fi h F (fun h _ F => ?_) (fun h _ F => ?_)
  refine tt ?_
  refine fi h F (fun h _ F => ?_) (fun h _ F => ?_)
  refine fi h F (fun h _ F => ?_) (fun h _ F => ?_)
  cases h; exact fin
  cases h; exact fin
  cases h; exact fin
  cases h; exact fin
  cases h; exact fin
  cases h; exact fin
  cases h; exact fin
  cases h; exact fin
  refine fi h F (fun h _ F => ?_) (fun h _ F => ?_)
  refine tt ?_
  refine fi h F (fun h _ F => ?_) (fun h _ F => ?_)
  refine fi h F (fun h _ F => ?_) (fun h _ F => ?_)
  refine tt ?_
  refine fi h F (fun h _ F => ?_) (fun h _ F => ?_)
  refine fi h F (fun h _ F => ?_) (fun h _ F => ?_)
  refine tt ?_
  refine fi h F (fun h _ F => ?_) (fun h _ F => ?_)
  refine fi h F (fun h _ F => ?_) (fun h _ F => ?_)
  refine tt ?_
  refine fi h F (fun h _ F => ?_) (fun h _ F => ?_)
  cases h; exact fin
  cases h; exact fin
  cases h; exact fin
  cases h; exact fin
  cases h; exact fin
  cases h; exact fin
  cases h; exact fin
  cases h; exact fin
  cases h; exact fin
  refine tt ?_
  refine fi h F (fun h _ F => ?_) (fun h _ F => ?_)
  refine fv h F (fun h _ F => ?_) (fun h _ F => ?_)
  refine tt ?_
  refine fi h F (fun h _ F => ?_) (fun h _ F => ?_)
  refine fi h F (fun h _ F => ?_) (fun h _ F => ?_)
  refine tt ?_
  refine fi h F (fun h _ F => ?_) (fun h _ F => ?_)
  refine fi h F (fun h _ F => ?_) (fun h _ F => ?_)
  refine tt ?_
  refine fi h F (fun h _ F => ?_) (fun h _ F => ?_)
  refine fi h F (fun h _ F => ?_) (fun h _ F => ?_)
  refine tt ?_
  refine fi h F (fun h _ F => ?_) (fun h _ F => ?_)
  cases h; exact fin
  cases h; exact fin
  cases h; exact fin
  cases h; exact fin
  cases h; exact fin
  cases h; exact fin
  cases h; exact fin
  cases h; exact fin
  refine tt ?_
  refine fi h F (fun h _ F => ?_) (fun h _ F => ?_)
  refine fi h F (fun h _ F => ?_) (fun h _ F => ?_)
  refine tt ?_
  refine fi h F (fun h _ F => ?_) (fun h _ F => ?_)
  refine fi h F (fun h _ F => ?_) (fun h _ F => ?_)
  refine tt ?_
  refine fi h F (fun h _ F => ?_) (fun h _ F => ?_)
  refine fi h F (fun h _ F => ?_) (fun h _ F => ?_)
  refine tt ?_
  refine fi h F (fun h _ F => ?_) (fun h _ F => ?_)
  refine fi h F (fun h _ F => ?_) (fun h _ F => ?_)
  cases h; exact fin
  cases h; exact fin
  cases h; exact fin
  cases h; exact fin
  cases h; exact fin
  cases h; exact fin
  cases h; exact fin
  cases h; exact fin
  cases h; exact fin
  cases h; exact fin
  refine fi h F (fun h _ F => ?_) (fun h _ F => ?_)
  refine tt ?_
  refine fv h F (fun h _ F => ?_) (fun h _ F => ?_)
  refine fv h F (fun h _ F => ?_) (fun h _ F => ?_)
  refine tt ?_
  refine fi h F (fun h _ F => ?_) (fun h _ F => ?_)
  refine fi h F (fun h _ F => ?_) (fun h _ F => ?_)
  refine tt ?_
  refine fi h F (fun h _ F => ?_) (fun h _ F => ?_)
  refine fi h F (fun h _ F => ?_) (fun h _ F => ?_)
  refine tt ?_
  refine fi h F (fun h _ F => ?_) (fun h _ F => ?_)
  refine fi h F (fun h _ F => ?_) (fun h _ F => ?_)
  refine tt ?_
  refine fi h F (fun h _ F => ?_) (fun h _ F => ?_)
  cases h; exact fin
  cases h; exact fin
  cases h; exact fin
  cases h; exact fin
  cases h; exact fin
  cases h; exact fin
  cases h; exact fin
  cases h; exact fin
  refine tt ?_
  refine fi h F (fun h _ F => ?_) (fun h _ F => ?_)
  refine fi h F (fun h _ F => ?_) (fun h _ F => ?_)
  refine tt ?_
  refine fi h F (fun h _ F => ?_) (fun h _ F => ?_)
  refine fi h F (fun h _ F => ?_) (fun h _ F => ?_)
  refine tt ?_
  refine fi h F (fun h _ F => ?_) (fun h _ F => ?_)
  refine fi h F (fun h _ F => ?_) (fun h _ F => ?_)
  refine tt ?_
  refine fi h F (fun h _ F => ?_) (fun h _ F => ?_)
  refine fi h F (fun h _ F => ?_) (fun h _ F => ?_)
  cases h; exact fin
  cases h; exact fin
  cases h; exact fin
  cases h; exact fin
  cases h; exact fin
  cases h; exact fin
  cases h; exact fin
  cases h; exact fin
  cases h; exact fin
  refine fi h F (fun h _ F => ?_) (fun h _ F => ?_)
  refine tt ?_
  refine fv h F (fun h _ F => ?_) (fun h _ F => ?_)
  refine fi h F (fun h _ F => ?_) (fun h _ F => ?_)
  refine tt ?_
  refine fi h F (fun h _ F => ?_) (fun h _ F => ?_)
  refine fi h F (fun h _ F => ?_) (fun h _ F => ?_)
  refine tt ?_
  refine fi h F (fun h _ F => ?_) (fun h _ F => ?_)
  refine fi h F (fun h _ F => ?_) (fun h _ F => ?_)
  refine tt ?_
  refine fi h F (fun h _ F => ?_) (fun h _ F => ?_)
  refine fi h F (fun h _ F => ?_) (fun h _ F => ?_)
  cases h; exact fin
  cases h; exact fin
  cases h; exact fin
  cases h; exact fin
  cases h; exact fin
  cases h; exact fin
  cases h; exact fin
  cases h; exact fin
  refine fi h F (fun h _ F => ?_) (fun h _ F => ?_)
  refine tt ?_
  refine fi h F (fun h _ F => ?_) (fun h _ F => ?_)
  refine fi h F (fun h _ F => ?_) (fun h _ F => ?_)
  refine tt ?_
  refine fi h F (fun h _ F => ?_) (fun h _ F => ?_)
  refine fi h F (fun h _ F => ?_) (fun h _ F => ?_)
  refine tt ?_
  refine fi h F (fun h _ F => ?_) (fun h _ F => ?_)
  refine fi h F (fun h _ F => ?_) (fun h _ F => ?_)
  refine tt ?_
  refine fi h F (fun h _ F => ?_) (fun h _ F => ?_)
  cases h; exact fin
  cases h; exact fin
  cases h; exact fin
  cases h; exact fin
  cases h; exact fin
  cases h; exact fin
  cases h; exact fin
  cases h; exact fin
  cases h; exact fin
  cases h; exact fin
  cases h; exact fin
theorem lazarettoref17_Check_ok {l : List api_Ins} {r : Int} (h : lazarettoref17_Check l = some r) :
    Pu Tryd.prog 10 [.one (.sl (l.map e_api_Ins))] (.one (.int .i64 r)) := by
  have F := trivial; have R := trivial
  refine pA Tryd.func10 ?_
  simp only [Tryd.f10]
  unfold lazarettoref17_Check at h
  refine tt ?_
  repeat (first | (with_reducible intro _) | (with_reducible refine and_i ?_ ?_; exact ss))
  refine fi h F (fun h _ F => ?_) (fun h _ F => ?_)
  cases h; exact fin
  refine bi h fun e_2 h he_2 => ?_
  refine tt ?_
  refine lE (fun (s__ : Nat) (a__ : Unit) => match s__, a__ with | i_1, _ => ⟨[(0, .one (.sl (l.map e_api_Ins))), (3, .one (.int .i64 (i_1 : Int)))], []⟩) (fun (e__ : Int ⊕ Unit) (b__ : Unit) => match e__, b__ with | (.inl e_6), _ => ⟨[], []⟩ | (.inr ()), _ => ⟨[], []⟩) (fun (e__ : Int ⊕ Unit) => match e__ with | (.inl _) => none | (.inr _) => some 0) () he_2 ?_ ?_
  intro i3 b3 hi3
  rcases e_2 with e_case | ⟨⟩
  cases hi3
  obtain rfl := Option.some.inj hi3
  obtain ⟨⟩ := b3
  dsimp only at h ⊢
  cases h; exact fin
  intro af3 m3 i_1 a3 o3 hf3 ho3 ih3
  obtain ⟨⟩ := a3
  dsimp only [lazarettoref17_Check_L1] at hf3 ⊢
  refine tt ?_
  repeat (first | (with_reducible intro _) | (with_reducible refine and_i ?_ ?_; exact ss))
  refine fl hf3 F (fun hf3 _ F => ?_) (fun hf3 _ F => ?_)
  refine bx hf3 F fun x_4 hf3 hx_4 F => ?_
  refine bi hf3 fun r_5 hf3 hr_5 => ?_
  refine tt ?_
  repeat (first | (with_reducible intro _) | (with_reducible refine and_i ?_ ?_; exact ss))
  refine cS (lazarettoref17_one_ok hr_5) ?_
  refine fv hf3 F (fun hf3 _ F => ?_) (fun hf3 _ F => ?_)
  cases hf3
  refine tt ?_
  refine wn i_1 F fun F => ?_
  exact bk ih3 ho3 ()
  cases hf3
  obtain rfl := sr ho3
  try dsimp only at h
  cases h
  exact fin
  cases hf3
  refine tt ?_
  exact xt ho3 af3 ()
theorem lazarettoref17_Four_ok {n : Int} {r : List Int} (h : lazarettoref17_Four n = some r) :
    Pu Tryd.prog 24 [.one (.int .i64 n)] (.one (.sl (r.map (eK .u8)))) := by
  have F := trivial; have R := trivial
  refine pA Tryd.func24 ?_
  simp only [Tryd.f24]
  unfold lazarettoref17_Four at h
  cases h; exact fin
theorem lazarettoref17_Encode_ok {l : List api_Ins} {r : Str} (h : lazarettoref17_Encode l = some r) :
    Pu Tryd.prog 12 [.one (.sl (l.map e_api_Ins))] (.one (.str r)) := by
  have F := trivial; have R := trivial
  refine pA Tryd.func12 ?_
  simp only [Tryd.f12]
  unfold lazarettoref17_Encode at h
  refine bi h fun r_1 h hr_1 => ?_
  refine tt ?_
  repeat (first | (with_reducible intro _) | (with_reducible refine and_i ?_ ?_; exact ss))
  refine cS (lazarettoref17_Check_ok hr_1) ?_
  refine fi h F (fun h _ F => ?_) (fun h _ F => ?_)
  refine tt ?_
  repeat (first | (with_reducible intro _) | (with_reducible refine and_i ?_ ?_; exact ss))
  refine iS Tryd.func24 ?_
  simp only [Tryd.f24]
  refine bi h fun e_6 h he_6 => ?_
  refine tt ?_
  repeat (first | (with_reducible intro _) | (with_reducible refine and_i ?_ ?_; exact ss))
  refine lE (fun (s__ : (List Int) × Nat) (a__ : Nat) => match s__, a__ with | (b_3, i_5), v_2 => ⟨[(0, .one (.sl (l.map e_api_Ins))), (3, .one (.msl 0 v_2 0 b_3.length)), (4, .one (.int .i64 (i_5 : Int)))], [.cells v_2 1 (b_3.map (eK .u8))]⟩) (fun (e__ : List Int) (b__ : Nat) => match e__, b__ with | e_6, b7 => ⟨[(3, .one (.msl 0 b7 0 e_6.length))], [.cells b7 1 (e_6.map (eK .u8))]⟩) (fun (_ : List Int) => some 0) 0 he_6 ?_ ?_
  intro i7 b7 hi7
  obtain rfl := Option.some.inj hi7
  dsimp only at h ⊢
  cases h; exact fin
  intro af7 m7 s7 v_2 o7 hf7 ho7 ih7
  obtain ⟨b_3, i_5⟩ := s7
  dsimp only [lazarettoref17_Encode_L1] at hf7 ⊢
  refine tt ?_
  repeat (first | (with_reducible intro _) | (with_reducible refine and_i ?_ ?_; exact ss))
  refine fl hf7 F (fun hf7 _ F => ?_) (fun hf7 _ F => ?_)
  refine bx hf7 F fun x_8 hf7 hx_8 F => ?_
  refine nd hf7 F fun hf7 F => ?_
  refine tt ?_
  repeat (first | (with_reducible intro _) | (with_reducible refine and_i ?_ ?_; exact ss))
  refine iS Tryd.func24 ?_
  simp only [Tryd.f24]
  refine nd hf7 F fun hf7 F => ?_
  cases hf7
  refine tt ?_
  repeat (first | (with_reducible intro _) | (with_reducible refine and_i ?_ ?_; exact ss))
  refine wn i_5 F fun F => ?_
  exact bk ih7 ho7 ((v_2 + 1) + 1)
  cases hf7
  refine tt ?_
  exact xt ho7 af7 v_2
  cases h; exact fin
theorem lazarettolaw17_CodeChecks_ok {l : List api_Ins} {r : Bool} (h : lazarettolaw17_CodeChecks l = some r) :
    Pu Tryd.prog 3 [.one (.sl (l.map e_api_Ins))] (.one (.bool r)) := by
  have F := trivial; have R := trivial
  refine pA Tryd.func3 ?_
  simp only [Tryd.f3]
  unfold lazarettolaw17_CodeChecks at h
  refine tt ?_
  repeat (first | (with_reducible intro _) | (with_reducible refine and_i ?_ ?_; exact ss))
  refine fi h F (fun h _ F => ?_) (fun h _ F => ?_)
  refine bi h fun r_1 h hr_1 => ?_
  refine tt ?_
  repeat (first | (with_reducible intro _) | (with_reducible refine and_i ?_ ?_; exact ss))
  refine cS (lazarettolaw17_awake_ok hr_1) ?_
  cases h; exact fin
  refine bi h fun r_2 h hr_2 => ?_
  refine tt ?_
  repeat (first | (with_reducible intro _) | (with_reducible refine and_i ?_ ?_; exact ss))
  refine cS (code_Check_ok hr_2) ?_
  refine bi h fun r_3 h hr_3 => ?_
  refine tt ?_
  repeat (first | (with_reducible intro _) | (with_reducible refine and_i ?_ ?_; exact ss))
  refine cS (lazarettoref17_Check_ok hr_3) ?_
  refine fi h F (fun h _ F => ?_) (fun h _ F => ?_)
  refine bi h fun r_4 h hr_4 => ?_
  refine tt ?_
  repeat (first | (with_reducible intro _) | (with_reducible refine and_i ?_ ?_; exact ss))
  refine cS (code_Encode_ok hr_4) ?_
  refine bi h fun r_5 h hr_5 => ?_
  refine tt ?_
  repeat (first | (with_reducible intro _) | (with_reducible refine and_i ?_ ?_; exact ss))
  refine cS (lazarettoref17_Encode_ok hr_5) ?_
  refine fi h F (fun h _ F => ?_) (fun h _ F => ?_)
  refine bi h fun r_6 h hr_6 => ?_
  refine tt ?_
  repeat (first | (with_reducible intro _) | (with_reducible refine and_i ?_ ?_; exact ss))
  refine cS (lazarettolaw17_awake_ok hr_6) ?_
  cases h; exact fin
  cases h; exact fin
  cases h; exact fin
theorem lazarettoref17_Back_ok {s : Str} {r : Int} (h : lazarettoref17_Back s = some r) :
    Pu Tryd.prog 34 [.one (.str s)] (.one (.int .i64 r)) := by
  have F := trivial; have R := trivial
  refine pA Tryd.func34 ?_
  simp only [Tryd.f34]
  unfold lazarettoref17_Back at h
  refine bx h F fun c_1 h hc_1 F => ?_
  refine bx h F fun c_2 h hc_2 F => ?_
  refine bx h F fun c_3 h hc_3 F => ?_
  refine bx h F fun c_4 h hc_4 F => ?_
  cases h; exact fin
theorem lazarettoref17_Read_ok {s : Str} {r : (List api_Ins) × Int × Int} (h : lazarettoref17_Read s = some r) :
    Pu Tryd.prog 26 [.one (.str s)] (.tup [.one (.sl (r.1.map e_api_Ins)), .one (.int .i64 r.2.1), .one (.int .i64 r.2.2)]) := by
  have F := trivial; have R := trivial
  refine pA Tryd.func26 ?_
  simp only [Tryd.f26]
  unfold lazarettoref17_Read at h
  refine tt ?_
  repeat (first | (with_reducible intro _) | (with_reducible refine and_i ?_ ?_; exact ss))
  refine fi h F (fun h _ F => ?_) (fun h _ F => ?_)
  cases h; exact fin
  refine bi h fun r_1 h hr_1 => ?_
  refine tt ?_
  repeat (first | (with_reducible intro _) | (with_reducible refine and_i ?_ ?_; exact ss))
  refine cS (lazarettoref17_Back_ok hr_1) ?_
  refine fi h F (fun h _ F => ?_) (fun h _ F => ?_)
  cases h; exact fin
  refine tt ?_
  refine fi h F (fun h _ F => ?_) (fun h _ F => ?_)
  cases h; exact fin
  refine tt ?_
  repeat (first | (with_reducible intro _) | (with_reducible refine and_i ?_ ?_; exact ss))
  refine fi h F (fun h _ F => ?_) (fun h _ F => ?_)
  cases h; exact fin
  refine bi h fun e_6 h he_6 => ?_
  refine tt ?_
  refine seed_L 6 4 (by simp [go_sem]) ?_
  refine lE (fun (s__ : (List api_Ins) × Nat) (a__ : Nat) => match s__, a__ with | (l_3, i_5), v_2 => ⟨[(0, .one (.str s)), (5, .one (.int .i64 r_1)), (6, .one (.msl 0 v_2 0 l_3.length)), (7, .one (.int .i64 (i_5 : Int)))], [.cells v_2 4 (l_3.map e_api_Ins)]⟩) (fun (e__ : List api_Ins) (b__ : Nat) => match e__, b__ with | e_6, b7 => ⟨[(5, .one (.int .i64 r_1)), (6, .one (.msl 0 b7 0 e_6.length))], [.cells b7 4 (e_6.map e_api_Ins)]⟩) (fun (_ : List api_Ins) => some 0) 0 he_6 ?_ ?_
  intro i7 b7 hi7
  obtain rfl := Option.some.inj hi7
  dsimp only at h ⊢
  refine bi h fun r_16 h hr_16 => ?_
  refine tt ?_
  repeat (first | (with_reducible intro _) | (with_reducible refine and_i ?_ ?_; exact ss))
  refine cS (lazarettoref17_Check_ok hr_16) ?_
  refine fi h F (fun h _ F => ?_) (fun h _ F => ?_)
  cases h; exact fin
  cases h; exact fin
  intro af7 m7 s7 v_2 o7 hf7 ho7 ih7
  obtain ⟨l_3, i_5⟩ := s7
  dsimp only [lazarettoref17_Read_L1] at hf7 ⊢
  refine fi hf7 F (fun hf7 _ F => ?_) (fun hf7 _ F => ?_)
  refine nd hf7 F fun hf7 F => ?_
  refine bx hf7 F fun c_9 hf7 hc_9 F => ?_
  refine ln F fun F => ?_
  refine bx hf7 F fun c_10 hf7 hc_10 F => ?_
  refine ln F fun F => ?_
  refine bx hf7 F fun c_11 hf7 hc_11 F => ?_
  refine ln F fun F => ?_
  refine nd hf7 F fun hf7 F => ?_
  refine bi hf7 fun r_13 hf7 hr_13 => ?_
  refine tt ?_
  repeat (first | (with_reducible intro _) | (with_reducible refine and_i ?_ ?_; exact ss))
  refine cD (lazarettoref17_Back_ok hr_13) ?_
  refine nd hf7 F fun hf7 F => ?_
  cases hf7
  refine tt ?_
  repeat (first | (with_reducible intro _) | (with_reducible refine and_i ?_ ?_; exact ss))
  refine wn i_5 F fun F => ?_
  exact bk ih7 ho7 (v_2 + 1)
  cases hf7
  refine tt ?_
  exact xt ho7 af7 v_2
theorem lazarettoref17_Decode_ok {s : Str} {r : (List api_Ins) × Int} (h : lazarettoref17_Decode s = some r) :
    Pu Tryd.prog 14 [.one (.str s)] (.tup [.one (.sl (r.1.map e_api_Ins)), .one (.int .i64 r.2)]) := by
  have F := trivial; have R := trivial
  refine pA Tryd.func14 ?_
  simp only [Tryd.f14]
  unfold lazarettoref17_Decode at h
  refine bi h fun r_1 h hr_1 => ?_
  refine tt ?_
  repeat (first | (with_reducible intro _) | (with_reducible refine and_i ?_ ?_; exact ss))
  refine cS (lazarettoref17_Read_ok hr_1) ?_
  refine tt ?_
  refine fi h F (fun h _ F => ?_) (fun h _ F => ?_)
  refine tt ?_
  repeat (first | (with_reducible intro _) | (with_reducible refine and_i ?_ ?_; exact ss))
  refine fi h F (fun h _ F => ?_) (fun h _ F => ?_)
  cases h; exact fin
  cases h; exact fin
  cases h; exact fin
theorem lazarettoref17_Same_ok {a : List api_Ins} {b : List api_Ins} {r : Bool} (h : lazarettoref17_Same a b = some r) :
    Pu Tryd.prog 15 [.one (.sl (a.map e_api_Ins)), .one (.sl (b.map e_api_Ins))] (.one (.bool r)) := by
  have F := trivial; have R := trivial
  refine pA Tryd.func15 ?_
  simp only [Tryd.f15]
  unfold lazarettoref17_Same at h
  refine tt ?_
  repeat (first | (with_reducible intro _) | (with_reducible refine and_i ?_ ?_; exact ss))
  refine fi h F (fun h _ F => ?_) (fun h _ F => ?_)
  refine bi h fun e_2 h he_2 => ?_
  refine tt ?_
  refine lE (fun (s__ : Nat) (a__ : Unit) => match s__, a__ with | i_1, _ => ⟨[(0, .one (.sl (a.map e_api_Ins))), (1, .one (.sl (b.map e_api_Ins))), (5, .one (.int .i64 (i_1 : Int)))], []⟩) (fun (e__ : Bool ⊕ Unit) (b__ : Unit) => match e__, b__ with | (.inl e_6), _ => ⟨[], []⟩ | (.inr ()), _ => ⟨[], []⟩) (fun (e__ : Bool ⊕ Unit) => match e__ with | (.inl _) => none | (.inr _) => some 0) () he_2 ?_ ?_
  intro i3 b3 hi3
  rcases e_2 with e_case | ⟨⟩
  cases hi3
  obtain rfl := Option.some.inj hi3
  obtain ⟨⟩ := b3
  dsimp only at h ⊢
  cases h; exact fin
  intro af3 m3 i_1 a3 o3 hf3 ho3 ih3
  obtain ⟨⟩ := a3
  dsimp only [lazarettoref17_Same_L1] at hf3 ⊢
  refine tt ?_
  repeat (first | (with_reducible intro _) | (with_reducible refine and_i ?_ ?_; exact ss))
  refine fl hf3 F (fun hf3 _ F => ?_) (fun hf3 _ F => ?_)
  refine bx hf3 F fun x_4 hf3 hx_4 F => ?_
  refine bx hf3 F fun x_5 hf3 hx_5 F => ?_
  refine tt ?_
  repeat (first | (with_reducible intro _) | (with_reducible refine and_i ?_ ?_; exact ss))
  refine fi hf3 F (fun hf3 _ F => ?_) (fun hf3 _ F => ?_)
  cases hf3
  refine tt ?_
  refine wn i_1 F fun F => ?_
  exact bk ih3 ho3 ()
  cases hf3
  obtain rfl := sr ho3
  try dsimp only at h
  cases h
  exact fin
  cases hf3
  refine tt ?_
  exact xt ho3 af3 ()
  cases h; exact fin
theorem lazarettolaw17_CodeDecodes_ok {s : Str} {r : Bool} (h : lazarettolaw17_CodeDecodes s = some r) :
    Pu Tryd.prog 4 [.one (.str s)] (.one (.bool r)) := by
  have F := trivial; have R := trivial
  refine pA Tryd.func4 ?_
  simp only [Tryd.f4]
  unfold lazarettolaw17_CodeDecodes at h
  refine tt ?_
  repeat (first | (with_reducible intro _) | (with_reducible refine and_i ?_ ?_; exact ss))
  refine fi h F (fun h _ F => ?_) (fun h _ F => ?_)
  refine bi h fun r_1 h hr_1 => ?_
  refine tt ?_
  repeat (first | (with_reducible intro _) | (with_reducible refine and_i ?_ ?_; exact ss))
  refine cS (lazarettolaw17_awake_ok hr_1) ?_
  cases h; exact fin
  refine bi h fun r_2 h hr_2 => ?_
  refine tt ?_
  repeat (first | (with_reducible intro _) | (with_reducible refine and_i ?_ ?_; exact ss))
  refine cS (code_Decode_ok hr_2) ?_
  refine bi h fun r_3 h hr_3 => ?_
  refine tt ?_
  repeat (first | (with_reducible intro _) | (with_reducible refine and_i ?_ ?_; exact ss))
  refine cS (lazarettoref17_Decode_ok hr_3) ?_
  refine bi h fun r_4 h hr_4 => ?_
  refine tt ?_
  repeat (first | (with_reducible intro _) | (with_reducible refine and_i ?_ ?_; exact ss))
  refine cS (lazarettoref17_Same_ok hr_4) ?_
  refine fv h F (fun h _ F => ?_) (fun h _ F => ?_)
  refine fi h F (fun h _ F => ?_) (fun h _ F => ?_)
  refine bi h fun r_5 h hr_5 => ?_
  refine tt ?_
  repeat (first | (with_reducible intro _) | (with_reducible refine and_i ?_ ?_; exact ss))
  refine cS (lazarettolaw17_awake_ok hr_5) ?_
  cases h; exact fin
  cases h; exact fin
  cases h; exact fin
theorem lazarettolaw17_CodeBack_ok {l : List api_Ins} {r : Bool} (h : lazarettolaw17_CodeBack l = some r) :
    Pu Tryd.prog 5 [.one (.sl (l.map e_api_Ins))] (.one (.bool r)) := by
  have F := trivial; have R := trivial
  refine pA Tryd.func5 ?_
  simp only [Tryd.f5]
  unfold lazarettolaw17_CodeBack at h
  refine tt ?_
  repeat (first | (with_reducible intro _) | (with_reducible refine and_i ?_ ?_; exact ss))
  refine fi h F (fun h _ F => ?_) (fun h _ F => ?_)
  refine bi h fun r_1 h hr_1 => ?_
  refine tt ?_
  repeat (first | (with_reducible intro _) | (with_reducible refine and_i ?_ ?_; exact ss))
  refine cS (lazarettolaw17_awake_ok hr_1) ?_
  cases h; exact fin
  refine bi h fun r_2 h hr_2 => ?_
  refine tt ?_
  repeat (first | (with_reducible intro _) | (with_reducible refine and_i ?_ ?_; exact ss))
  refine cS (code_Check_ok hr_2) ?_
  refine fi h F (fun h _ F => ?_) (fun h _ F => ?_)
  refine bi h fun r_3 h hr_3 => ?_
  refine tt ?_
  repeat (first | (with_reducible intro _) | (with_reducible refine and_i ?_ ?_; exact ss))
  refine cS (code_Encode_ok hr_3) ?_
  refine bi h fun r_4 h hr_4 => ?_
  refine tt ?_
  repeat (first | (with_reducible intro _) | (with_reducible refine and_i ?_ ?_; exact ss))
  refine cS (code_Decode_ok hr_4) ?_
  refine tt ?_
  refine fi h F (fun h _ F => ?_) (fun h _ F => ?_)
  refine bi h fun r_5 h hr_5 => ?_
  refine tt ?_
  repeat (first | (with_reducible intro _) | (with_reducible refine and_i ?_ ?_; exact ss))
  refine cS (lazarettoref17_Same_ok hr_5) ?_
  refine fv h F (fun h _ F => ?_) (fun h _ F => ?_)
  refine bi h fun r_6 h hr_6 => ?_
  refine tt ?_
  repeat (first | (with_reducible intro _) | (with_reducible refine and_i ?_ ?_; exact ss))
  refine cS (lazarettolaw17_awake_ok hr_6) ?_
  cases h; exact fin
  cases h; exact fin
  cases h; exact fin
  refine bi h fun r_7 h hr_7 => ?_
  refine tt ?_
  repeat (first | (with_reducible intro _) | (with_reducible refine and_i ?_ ?_; exact ss))
  refine cS (lazarettolaw17_awake_ok hr_7) ?_
  cases h; exact fin
theorem lazarettolaw17_CodeOnly_ok {s : Str} {r : Bool} (h : lazarettolaw17_CodeOnly s = some r) :
    Pu Tryd.prog 6 [.one (.str s)] (.one (.bool r)) := by
  have F := trivial; have R := trivial
  refine pA Tryd.func6 ?_
  simp only [Tryd.f6]
  unfold lazarettolaw17_CodeOnly at h
  refine tt ?_
  repeat (first | (with_reducible intro _) | (with_reducible refine and_i ?_ ?_; exact ss))
  refine fi h F (fun h _ F => ?_) (fun h _ F => ?_)
  refine bi h fun r_1 h hr_1 => ?_
  refine tt ?_
  repeat (first | (with_reducible intro _) | (with_reducible refine and_i ?_ ?_; exact ss))
  refine cS (lazarettolaw17_awake_ok hr_1) ?_
  cases h; exact fin
  refine bi h fun r_2 h hr_2 => ?_
  refine tt ?_
  repeat (first | (with_reducible intro _) | (with_reducible refine and_i ?_ ?_; exact ss))
  refine cS (code_Decode_ok hr_2) ?_
  refine tt ?_
  refine fi h F (fun h _ F => ?_) (fun h _ F => ?_)
  refine bi h fun r_3 h hr_3 => ?_
  refine tt ?_
  repeat (first | (with_reducible intro _) | (with_reducible refine and_i ?_ ?_; exact ss))
  refine cS (code_Encode_ok hr_3) ?_
  refine fi h F (fun h _ F => ?_) (fun h _ F => ?_)
  refine bi h fun r_4 h hr_4 => ?_
  refine tt ?_
  repeat (first | (with_reducible intro _) | (with_reducible refine and_i ?_ ?_; exact ss))
  refine cS (code_Check_ok hr_4) ?_
  refine fi h F (fun h _ F => ?_) (fun h _ F => ?_)
  refine bi h fun r_5 h hr_5 => ?_
  refine tt ?_
  repeat (first | (with_reducible intro _) | (with_reducible refine and_i ?_ ?_; exact ss))
  refine cS (lazarettolaw17_awake_ok hr_5) ?_
  cases h; exact fin
  cases h; exact fin
  cases h; exact fin
  refine tt ?_
  repeat (first | (with_reducible intro _) | (with_reducible refine and_i ?_ ?_; exact ss))
  refine fi h F (fun h _ F => ?_) (fun h _ F => ?_)
  refine bi h fun r_6 h hr_6 => ?_
  refine tt ?_
  repeat (first | (with_reducible intro _) | (with_reducible refine and_i ?_ ?_; exact ss))
  refine cS (lazarettolaw17_awake_ok hr_6) ?_
  cases h; exact fin
  cases h; exact fin
theorem lazarettoref05_Digits_ok {n : Int} {r : Str} (h : lazarettoref05_Digits n = some r) :
    Pu Tryd.prog 38 [.one (.int .i64 n)] (.one (.str r)) := by
  have F := trivial; have R := trivial
  refine pA Tryd.func38 ?_
  simp only [Tryd.f38]
  unfold lazarettoref05_Digits at h
  refine bi h fun e_3 h he_3 => ?_
  refine tt ?_
  refine lE (fun (s__ : Int × Str) (a__ : Unit) => match s__, a__ with | (n_1, s_2), _ => ⟨[(0, .one (.int .i64 n_1)), (3, .one (.str s_2))], []⟩) (fun (e__ : Int × Str) (b__ : Unit) => match e__, b__ with | (n_7, s_8), _ => ⟨[(0, .one (.int .i64 n_7)), (3, .one (.str s_8))], []⟩) (fun (_ : Int × Str) => some 0) () he_3 ?_ ?_
  intro i4 b4 hi4
  obtain rfl := Option.some.inj hi4
  obtain ⟨n_7, s_8⟩ := e_3
  obtain ⟨⟩ := b4
  dsimp only at h ⊢
  refine nd h F fun h F => ?_
  refine nd h F fun h F => ?_
  cases h; exact fin
  intro af4 m4 s4 a4 o4 hf4 ho4 ih4
  obtain ⟨n_1, s_2⟩ := s4
  obtain ⟨⟩ := a4
  dsimp only [lazarettoref05_Digits_L1] at hf4 ⊢
  refine fi hf4 F (fun hf4 _ F => ?_) (fun hf4 _ F => ?_)
  refine nd hf4 F fun hf4 F => ?_
  refine nd hf4 F fun hf4 F => ?_
  cases hf4
  refine tt ?_
  repeat (first | (with_reducible intro _) | (with_reducible refine and_i ?_ ?_; exact ss))
  exact bk ih4 ho4 ()
  cases hf4
  refine tt ?_
  exact xt ho4 af4 ()
theorem lazarettoref17_signed_ok {n : Int} {r : Str} (h : lazarettoref17_signed n = some r) :
    Pu Tryd.prog 31 [.one (.int .i64 n)] (.one (.str r)) := by
  have F := trivial; have R := trivial
  refine pA Tryd.func31 ?_
  simp only [Tryd.f31]
  unfold lazarettoref17_signed at h
  refine fi h F (fun h _ F => ?_) (fun h _ F => ?_)
  refine bi h fun r_1 h hr_1 => ?_
  refine tt ?_
  repeat (first | (with_reducible intro _) | (with_reducible refine and_i ?_ ?_; exact ss))
  refine cS (lazarettoref05_Digits_ok hr_1) ?_
  cases h; exact fin
  refine fi h F (fun h _ F => ?_) (fun h _ F => ?_)
  cases h; exact fin
  refine bi h fun r_2 h hr_2 => ?_
  refine tt ?_
  repeat (first | (with_reducible intro _) | (with_reducible refine and_i ?_ ?_; exact ss))
  refine cS (lazarettoref05_Digits_ok hr_2) ?_
  refine nd h F fun h F => ?_
  cases h; exact fin
theorem lazarettoref17_Show_ok {i : api_Ins} {r : Str} (h : lazarettoref17_Show i = some r) :
    Pu Tryd.prog 17 [.agg (e_api_Ins i)] (.one (.str r)) := by
  have F := trivial; have R := trivial
  refine pA Tryd.func17 ?_
  simp only [Tryd.f17]
  unfold lazarettoref17_Show at h
  refine fi h F (fun h _ F => ?_) (fun h _ F => ?_)
  cases h; exact fin
  refine tt ?_
  refine fi h F (fun h _ F => ?_) (fun h _ F => ?_)
  cases h; exact fin
  refine bi h fun r_1 h hr_1 => ?_
  refine tt ?_
  repeat (first | (with_reducible intro _) | (with_reducible refine and_i ?_ ?_; exact ss))
  refine cS (lazarettoref17_names_ok hr_1) ?_
  refine by_ h F fun x_2 h hx_2 F => ?_
  refine ln F fun F => ?_
  have R := And.intro (show ([[.str []], [.str ([80, 85, 83, 72] : Str)], [.str ([76, 79, 65, 68] : Str)], [.str ([76, 79, 65, 68, 88] : Str)], [.str ([83, 84, 79, 82, 69] : Str)], [.str ([83, 84, 79, 82, 69, 88] : Str)], [.str ([79, 80] : Str)], [.str ([79, 85, 84] : Str)], [.str ([67, 65, 76, 76] : Str)], [.str ([68, 69, 67, 76] : Str)], [.str ([71, 85, 65, 82, 68] : Str)], [.str ([73, 70] : Str)], [.str ([69, 76, 83, 69] : Str)], [.str ([76, 79, 79, 80] : Str)], [.str ([87, 72, 73, 76, 69] : Str)], [.str ([70, 79, 82] : Str)], [.str ([69, 78, 68] : Str)]] : List (List C))[i.Op.toNat]? = some [.str x_2] from q_map (f := eS) hx_2) R
  refine tt ?_
  repeat (first | (with_reducible intro _) | (with_reducible refine and_i ?_ ?_; exact ss))
  refine fv h F (fun h _ F => ?_) (fun h _ F => ?_)
  refine bi h fun r_3 h hr_3 => ?_
  refine tt ?_
  repeat (first | (with_reducible intro _) | (with_reducible refine and_i ?_ ?_; exact ss))
  refine cS (lazarettoref17_signed_ok hr_3) ?_
  refine nd h F fun h F => ?_
  refine nd h F fun h F => ?_
  refine tt ?_
  repeat (first | (with_reducible intro _) | (with_reducible refine and_i ?_ ?_; exact ss))
  refine fv h F (fun h _ F => ?_) (fun h _ F => ?_)
  refine bi h fun r_6 h hr_6 => ?_
  refine tt ?_
  repeat (first | (with_reducible intro _) | (with_reducible refine and_i ?_ ?_; exact ss))
  refine cS (lazarettoref17_signed_ok hr_6) ?_
  refine nd h F fun h F => ?_
  refine nd h F fun h F => ?_
  refine tt ?_
  repeat (first | (with_reducible intro _) | (with_reducible refine and_i ?_ ?_; exact ss))
  refine fv h F (fun h _ F => ?_) (fun h _ F => ?_)
  refine bi h fun r_9 h hr_9 => ?_
  refine tt ?_
  repeat (first | (with_reducible intro _) | (with_reducible refine and_i ?_ ?_; exact ss))
  refine cS (lazarettoref17_signed_ok hr_9) ?_
  refine nd h F fun h F => ?_
  refine nd h F fun h F => ?_
  cases h; exact fin
  cases h; exact fin
  refine fv h F (fun h _ F => ?_) (fun h _ F => ?_)
  refine bi h fun r_12 h hr_12 => ?_
  refine tt ?_
  repeat (first | (with_reducible intro _) | (with_reducible refine and_i ?_ ?_; exact ss))
  refine cS (lazarettoref17_signed_ok hr_12) ?_
  refine nd h F fun h F => ?_
  refine nd h F fun h F => ?_
  cases h; exact fin
  cases h; exact fin
  refine fv h F (fun h _ F => ?_) (fun h _ F => ?_)
  refine bi h fun r_15 h hr_15 => ?_
  refine tt ?_
  repeat (first | (with_reducible intro _) | (with_reducible refine and_i ?_ ?_; exact ss))
  refine cS (lazarettoref17_signed_ok hr_15) ?_
  refine nd h F fun h F => ?_
  refine nd h F fun h F => ?_
  refine tt ?_
  repeat (first | (with_reducible intro _) | (with_reducible refine and_i ?_ ?_; exact ss))
  refine fv h F (fun h _ F => ?_) (fun h _ F => ?_)
  refine bi h fun r_18 h hr_18 => ?_
  refine tt ?_
  repeat (first | (with_reducible intro _) | (with_reducible refine and_i ?_ ?_; exact ss))
  refine cS (lazarettoref17_signed_ok hr_18) ?_
  refine nd h F fun h F => ?_
  refine nd h F fun h F => ?_
  cases h; exact fin
  cases h; exact fin
  refine fv h F (fun h _ F => ?_) (fun h _ F => ?_)
  refine bi h fun r_21 h hr_21 => ?_
  refine tt ?_
  repeat (first | (with_reducible intro _) | (with_reducible refine and_i ?_ ?_; exact ss))
  refine cS (lazarettoref17_signed_ok hr_21) ?_
  refine nd h F fun h F => ?_
  refine nd h F fun h F => ?_
  cases h; exact fin
  cases h; exact fin
theorem lazarettolaw17_CodeShows_ok {i : api_Ins} {r : Bool} (h : lazarettolaw17_CodeShows i = some r) :
    Pu Tryd.prog 7 [.agg (e_api_Ins i)] (.one (.bool r)) := by
  have F := trivial; have R := trivial
  refine pA Tryd.func7 ?_
  simp only [Tryd.f7]
  unfold lazarettolaw17_CodeShows at h
  refine bi h fun r_1 h hr_1 => ?_
  refine tt ?_
  repeat (first | (with_reducible intro _) | (with_reducible refine and_i ?_ ?_; exact ss))
  refine cD (code_Show_ok hr_1) ?_
  refine bi h fun r_2 h hr_2 => ?_
  refine tt ?_
  repeat (first | (with_reducible intro _) | (with_reducible refine and_i ?_ ?_; exact ss))
  refine cD (lazarettoref17_Show_ok hr_2) ?_
  refine tt ?_
  repeat (first | (with_reducible intro _) | (with_reducible refine and_i ?_ ?_; exact ss))
  refine fi h F (fun h _ F => ?_) (fun h _ F => ?_)
  refine bi h fun r_3 h hr_3 => ?_
  refine tt ?_
  repeat (first | (with_reducible intro _) | (with_reducible refine and_i ?_ ?_; exact ss))
  refine cD (lazarettolaw17_awake_ok hr_3) ?_
  cases h; exact fin
  cases h; exact fin
end Go.Lz
