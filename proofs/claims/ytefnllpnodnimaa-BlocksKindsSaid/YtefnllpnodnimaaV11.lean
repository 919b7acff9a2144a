/- V11 -/
import Derived.Test.YtefnllpnodnimaaV04
namespace Go.Lz
set_option linter.unusedVariables false
set_option linter.unusedSimpArgs false
open Go.Proofs
attribute [-go_sem] q_cond g_b gd_b
set_option maxRecDepth 100000
set_option maxHeartbeats 4000000
noncomputable section
def lazarettoref09_Texts_L1 (a : List Str) (b : List Str) : Nat → Option ((Nat) ⊕ (Bool ⊕ Unit))
  | i_1 => if (i_1 : Int) < (a.length : Int) then ((a[i_1]?).bind fun x_4 => (b[i_1]?).bind fun x_5 => if x_4 = x_5 then (some (.inl (i_1 + 1))) else (some (.inr (.inl (false))))) else (some (.inr (.inr (()))))
def lazarettoref09_Texts (a : List Str) (b : List Str) : Option Bool :=
  if (a.length : Int) = (b.length : Int) then ((loop (lazarettoref09_Texts_L1 a b) 0).bind (fun e__ => match e__ with | (.inl e_6) => some e_6 | (.inr ()) => some true)) else (some false)
def blocks_Kinds : Option (List Str) :=
  some [([67, 84, 68] : Str), ([67, 84, 85] : Str), ([67, 84, 85, 68] : Str), ([70, 95, 84, 82, 73, 71] : Str), ([82, 83] : Str), ([82, 95, 84, 82, 73, 71] : Str), ([83, 82] : Str), ([84, 79, 70] : Str), ([84, 79, 78] : Str), ([84, 80] : Str)]
def lazarettoref11_Kinds : Option (List Str) :=
  some [([67, 84, 68] : Str), ([67, 84, 85] : Str), ([67, 84, 85, 68] : Str), ([70, 95, 84, 82, 73, 71] : Str), ([82, 83] : Str), ([82, 95, 84, 82, 73, 71] : Str), ([83, 82] : Str), ([84, 79, 70] : Str), ([84, 79, 78] : Str), ([84, 80] : Str)]
def blocks_bit (b : Bool) : Option Int :=
  if b = true then (some 1) else (some 0)
def blocks_since (now : Int) (from_ : Int) (most : Int) : Option Int :=
  if now ≤ from_ then (some 0) else (if most ≤ 0 then (some 0) else (if (IntKind.u64.wrap most) < (IntKind.u64.wrap ((IntKind.u64.wrap now) - (IntKind.u64.wrap from_))) then (some most) else (some (w64 (now - from_)))))
def blocks_ton (s : A4 Int) (in_ : List Int) (now : Int) : Option (A4 Int) :=
  (in_[0]?).bind fun x_1 => if x_1 = 0 then (some (⟨0, 0, s.a2, 0⟩ : A4 Int)) else (if s.a3 = 0 then ((in_[1]?).bind fun x_2 => (blocks_since now now x_2).bind fun r_3 => (blocks_bit (decide (x_2 ≤ r_3))).bind fun r_4 => some (⟨r_4, r_3, now, 1⟩ : A4 Int)) else ((in_[1]?).bind fun x_5 => (blocks_since now s.a2 x_5).bind fun r_6 => (blocks_bit (decide (x_5 ≤ r_6))).bind fun r_7 => some (⟨r_7, r_6, s.a2, 1⟩ : A4 Int)))
def blocks_run (s : A4 Int) (now : Int) (pt : Int) : Option (A4 Int) :=
  if s.a0 = 0 then (some s) else ((blocks_since now s.a2 pt).bind fun r_1 => if pt ≤ r_1 then (some (⟨0, r_1, s.a2, s.a3⟩ : A4 Int)) else (some (⟨s.a0, r_1, s.a2, s.a3⟩ : A4 Int)))
def blocks_tof (s : A4 Int) (in_ : List Int) (now : Int) : Option (A4 Int) :=
  (in_[0]?).bind fun x_1 => if x_1 = 1 then (some (⟨1, 0, s.a2, 1⟩ : A4 Int)) else (if s.a3 = 0 then ((in_[1]?).bind fun x_2 => (blocks_run (⟨s.a0, s.a1, s.a2, 0⟩ : A4 Int) now x_2).bind fun r_3 => some r_3) else ((in_[1]?).bind fun x_4 => (blocks_run (⟨s.a0, s.a1, now, 0⟩ : A4 Int) now x_4).bind fun r_5 => some r_5))
def blocks_up (n : Int) : Option Int :=
  if 32767 ≤ n then (some 32767) else (some (w64 (n + 1)))
def blocks_ctu (s : A4 Int) (in_ : List Int) (p2 : Int) : Option (A4 Int) :=
  (in_[1]?).bind fun x_1 => if x_1 = 1 then ((in_[2]?).bind fun x_2 => (blocks_bit (decide (x_2 ≤ 0))).bind fun r_3 => (in_[0]?).bind fun x_4 => some (⟨r_3, 0, s.a2, x_4⟩ : A4 Int)) else ((in_[0]?).bind fun x_5 => if x_5 = 1 then (if s.a3 = 0 then ((blocks_up s.a1).bind fun r_6 => (in_[2]?).bind fun x_7 => (blocks_bit (decide (x_7 ≤ r_6))).bind fun r_8 => some (⟨r_8, r_6, s.a2, x_5⟩ : A4 Int)) else ((in_[2]?).bind fun x_9 => (blocks_bit (decide (x_9 ≤ s.a1))).bind fun r_10 => some (⟨r_10, s.a1, s.a2, x_5⟩ : A4 Int))) else ((in_[2]?).bind fun x_11 => (blocks_bit (decide (x_11 ≤ s.a1))).bind fun r_12 => some (⟨r_12, s.a1, s.a2, x_5⟩ : A4 Int)))
def blocks_down (n : Int) : Option Int :=
  if n ≤ (-32768) then (some (-32768)) else (some (w64 (n - 1)))
def blocks_ctd (s : A4 Int) (in_ : List Int) (p2 : Int) : Option (A4 Int) :=
  (in_[1]?).bind fun x_1 => if x_1 = 1 then ((in_[2]?).bind fun x_2 => (blocks_bit (decide (x_2 ≤ 0))).bind fun r_3 => (in_[0]?).bind fun x_4 => some (⟨r_3, x_2, s.a2, x_4⟩ : A4 Int)) else ((in_[0]?).bind fun x_5 => if x_5 = 1 then (if s.a3 = 0 then ((blocks_down s.a1).bind fun r_6 => (blocks_bit (decide (r_6 ≤ 0))).bind fun r_7 => some (⟨r_7, r_6, s.a2, x_5⟩ : A4 Int)) else ((blocks_bit (decide (s.a1 ≤ 0))).bind fun r_8 => some (⟨r_8, s.a1, s.a2, x_5⟩ : A4 Int))) else ((blocks_bit (decide (s.a1 ≤ 0))).bind fun r_9 => some (⟨r_9, s.a1, s.a2, x_5⟩ : A4 Int)))
def blocks_ctud (s : A4 Int) (in_ : List Int) (p2 : Int) : Option (A4 Int) :=
  (in_[0]?).bind fun x_1 => if x_1 = 1 then ((in_[1]?).bind fun x_2 => if x_2 = 1 then ((in_[2]?).bind fun x_3 => if x_3 = 1 then ((in_[4]?).bind fun x_4 => some (⟨0, x_1, x_2, x_4⟩ : A4 Int)) else ((in_[3]?).bind fun x_5 => if x_5 = 1 then ((in_[4]?).bind fun x_6 => some (⟨x_6, x_1, x_2, x_6⟩ : A4 Int)) else (if ((decide (s.a1 = 0)) == (decide (s.a2 = 0))) = true then ((in_[4]?).bind fun x_7 => some (⟨s.a0, x_1, x_2, x_7⟩ : A4 Int)) else (if s.a1 = 0 then ((blocks_up s.a0).bind fun r_8 => (in_[4]?).bind fun x_9 => some (⟨r_8, x_1, x_2, x_9⟩ : A4 Int)) else ((blocks_down s.a0).bind fun r_10 => (in_[4]?).bind fun x_11 => some (⟨r_10, x_1, x_2, x_11⟩ : A4 Int)))))) else ((in_[2]?).bind fun x_12 => if x_12 = 1 then ((in_[4]?).bind fun x_13 => some (⟨0, x_1, x_2, x_13⟩ : A4 Int)) else ((in_[3]?).bind fun x_14 => if x_14 = 1 then ((in_[4]?).bind fun x_15 => some (⟨x_15, x_1, x_2, x_15⟩ : A4 Int)) else (if s.a1 = 0 then ((blocks_up s.a0).bind fun r_16 => (in_[4]?).bind fun x_17 => some (⟨r_16, x_1, x_2, x_17⟩ : A4 Int)) else ((in_[4]?).bind fun x_18 => some (⟨s.a0, x_1, x_2, x_18⟩ : A4 Int)))))) else ((in_[1]?).bind fun x_19 => if x_19 = 1 then ((in_[2]?).bind fun x_20 => if x_20 = 1 then ((in_[4]?).bind fun x_21 => some (⟨0, x_1, x_19, x_21⟩ : A4 Int)) else ((in_[3]?).bind fun x_22 => if x_22 = 1 then ((in_[4]?).bind fun x_23 => some (⟨x_23, x_1, x_19, x_23⟩ : A4 Int)) else (if s.a2 = 0 then ((blocks_down s.a0).bind fun r_24 => (in_[4]?).bind fun x_25 => some (⟨r_24, x_1, x_19, x_25⟩ : A4 Int)) else ((in_[4]?).bind fun x_26 => some (⟨s.a0, x_1, x_19, x_26⟩ : A4 Int))))) else ((in_[2]?).bind fun x_27 => if x_27 = 1 then ((in_[4]?).bind fun x_28 => some (⟨0, x_1, x_19, x_28⟩ : A4 Int)) else ((in_[3]?).bind fun x_29 => if x_29 = 1 then ((in_[4]?).bind fun x_30 => some (⟨x_30, x_1, x_19, x_30⟩ : A4 Int)) else ((in_[4]?).bind fun x_31 => some (⟨s.a0, x_1, x_19, x_31⟩ : A4 Int)))))
def blocks_sr (s : A4 Int) (in_ : List Int) (p2 : Int) : Option (A4 Int) :=
  (in_[0]?).bind fun x_1 => if x_1 = 1 then ((blocks_bit true).bind fun r_2 => some (⟨r_2, s.a1, s.a2, s.a3⟩ : A4 Int)) else (if s.a0 = 0 then ((blocks_bit false).bind fun r_3 => some (⟨r_3, s.a1, s.a2, s.a3⟩ : A4 Int)) else ((in_[1]?).bind fun x_4 => (blocks_bit (decide (x_4 = 0))).bind fun r_5 => some (⟨r_5, s.a1, s.a2, s.a3⟩ : A4 Int)))
def blocks_rs (s : A4 Int) (in_ : List Int) (p2 : Int) : Option (A4 Int) :=
  (in_[1]?).bind fun x_1 => if x_1 = 0 then ((in_[0]?).bind fun x_2 => if x_2 = 1 then ((blocks_bit true).bind fun r_3 => some (⟨r_3, s.a1, s.a2, s.a3⟩ : A4 Int)) else ((blocks_bit (!(decide (s.a0 = 0)))).bind fun r_4 => some (⟨r_4, s.a1, s.a2, s.a3⟩ : A4 Int))) else ((blocks_bit false).bind fun r_5 => some (⟨r_5, s.a1, s.a2, s.a3⟩ : A4 Int))
def blocks_of (name : Str) : Option blocks_kind :=
  if name = ([84, 79, 78] : Str) then (some (⟨[1, 4], [1, 4], (some 100)⟩ : blocks_kind)) else (if name = ([84, 79, 70] : Str) then (some (⟨[1, 4], [1, 4], (some 101)⟩ : blocks_kind)) else (if name = ([84, 80] : Str) then (some (⟨[1, 4], [1, 4], (some 102)⟩ : blocks_kind)) else (if name = ([67, 84, 85] : Str) then (some (⟨[1, 1, 2], [1, 2], (some 103)⟩ : blocks_kind)) else (if name = ([67, 84, 68] : Str) then (some (⟨[1, 1, 2], [1, 2], (some 104)⟩ : blocks_kind)) else (if name = ([67, 84, 85, 68] : Str) then (some (⟨[1, 1, 1, 1, 2], [1, 1, 2], (some 105)⟩ : blocks_kind)) else (if name = ([82, 95, 84, 82, 73, 71] : Str) then (some (⟨[1], [1], (some 106)⟩ : blocks_kind)) else (if name = ([70, 95, 84, 82, 73, 71] : Str) then (some (⟨[1], [1], (some 107)⟩ : blocks_kind)) else (if name = ([83, 82] : Str) then (some (⟨[1, 1], [1], (some 108)⟩ : blocks_kind)) else (if name = ([82, 83] : Str) then (some (⟨[1, 1], [1], (some 109)⟩ : blocks_kind)) else (some (⟨[], [], none⟩ : blocks_kind)))))))))))
def blocks_Inputs (name : Str) : Option (List Int) :=
  if name = ([84, 79, 78] : Str) then (some [1, 4]) else (if name = ([84, 79, 70] : Str) then (some [1, 4]) else (if name = ([84, 80] : Str) then (some [1, 4]) else (if name = ([67, 84, 85] : Str) then (some [1, 1, 2]) else (if name = ([67, 84, 68] : Str) then (some [1, 1, 2]) else (if name = ([67, 84, 85, 68] : Str) then (some [1, 1, 1, 1, 2]) else (if name = ([82, 95, 84, 82, 73, 71] : Str) then (some [1]) else (if name = ([70, 95, 84, 82, 73, 71] : Str) then (some [1]) else (if name = ([83, 82] : Str) then (some [1, 1]) else (if name = ([82, 83] : Str) then (some [1, 1]) else (some []))))))))))
def lazarettoref11_Inputs (kind : Str) : Option (List Int) :=
  if kind = ([84, 79, 78] : Str) then (some [1, 4]) else (if kind = ([84, 79, 70] : Str) then (some [1, 4]) else (if kind = ([84, 80] : Str) then (some [1, 4]) else (if kind = ([67, 84, 85] : Str) then (some [1, 1, 2]) else (if kind = ([67, 84, 68] : Str) then (some [1, 1, 2]) else (if kind = ([67, 84, 85, 68] : Str) then (some [1, 1, 1, 1, 2]) else (if kind = ([82, 95, 84, 82, 73, 71] : Str) then (some [1]) else (if kind = ([70, 95, 84, 82, 73, 71] : Str) then (some [1]) else (if kind = ([83, 82] : Str) then (some [1, 1]) else (if kind = ([82, 83] : Str) then (some [1, 1]) else (some []))))))))))
def blocks_Outputs (name : Str) : Option (List Int) :=
  if name = ([84, 79, 78] : Str) then (some [1, 4]) else (if name = ([84, 79, 70] : Str) then (some [1, 4]) else (if name = ([84, 80] : Str) then (some [1, 4]) else (if name = ([67, 84, 85] : Str) then (some [1, 2]) else (if name = ([67, 84, 68] : Str) then (some [1, 2]) else (if name = ([67, 84, 85, 68] : Str) then (some [1, 1, 2]) else (if name = ([82, 95, 84, 82, 73, 71] : Str) then (some [1]) else (if name = ([70, 95, 84, 82, 73, 71] : Str) then (some [1]) else (if name = ([83, 82] : Str) then (some [1]) else (if name = ([82, 83] : Str) then (some [1]) else (some []))))))))))
def lazarettoref11_Outputs (kind : Str) : Option (List Int) :=
  if kind = ([84, 79, 78] : Str) then (some [1, 4]) else (if kind = ([84, 79, 70] : Str) then (some [1, 4]) else (if kind = ([84, 80] : Str) then (some [1, 4]) else (if kind = ([67, 84, 85] : Str) then (some [1, 2]) else (if kind = ([67, 84, 68] : Str) then (some [1, 2]) else (if kind = ([67, 84, 85, 68] : Str) then (some [1, 1, 2]) else (if kind = ([82, 95, 84, 82, 73, 71] : Str) then (some [1]) else (if kind = ([70, 95, 84, 82, 73, 71] : Str) then (some [1]) else (if kind = ([83, 82] : Str) then (some [1]) else (if kind = ([82, 83] : Str) then (some [1]) else (some []))))))))))
def blocks_Out (name : Str) (s : A4 Int) (i : Int) : Option Int :=
  if name = ([84, 79, 78] : Str) then (if i < 0 then (some 0) else (if 2 ≤ i then (some 0) else (if name = ([67, 84, 85, 68] : Str) then ((blocks_bit (decide (s.a3 ≤ s.a0))).bind fun r_1 => (blocks_bit (decide (s.a0 ≤ 0))).bind fun r_2 => (blocks_of name).bind fun r_3 => (r_3.out[2]?).bind fun x_4 => (ints_Wrap x_4 s.a0).bind fun r_5 => if i = 0 then (some r_1) else (if i = 1 then (some r_2) else (if i = 2 then (some r_5) else none))) else (if i = 0 then ((blocks_bit (!(decide (s.a0 = 0)))).bind fun r_6 => some r_6) else ((blocks_of name).bind fun r_7 => (idx r_7.out i).bind fun x_8 => (ints_Wrap x_8 s.a1).bind fun r_9 => some r_9))))) else (if name = ([84, 79, 70] : Str) then (if i < 0 then (some 0) else (if 2 ≤ i then (some 0) else (if name = ([67, 84, 85, 68] : Str) then ((blocks_bit (decide (s.a3 ≤ s.a0))).bind fun r_10 => (blocks_bit (decide (s.a0 ≤ 0))).bind fun r_11 => (blocks_of name).bind fun r_12 => (r_12.out[2]?).bind fun x_13 => (ints_Wrap x_13 s.a0).bind fun r_14 => if i = 0 then (some r_10) else (if i = 1 then (some r_11) else (if i = 2 then (some r_14) else none))) else (if i = 0 then ((blocks_bit (!(decide (s.a0 = 0)))).bind fun r_15 => some r_15) else ((blocks_of name).bind fun r_16 => (idx r_16.out i).bind fun x_17 => (ints_Wrap x_17 s.a1).bind fun r_18 => some r_18))))) else (if name = ([84, 80] : Str) then (if i < 0 then (some 0) else (if 2 ≤ i then (some 0) else (if name = ([67, 84, 85, 68] : Str) then ((blocks_bit (decide (s.a3 ≤ s.a0))).bind fun r_19 => (blocks_bit (decide (s.a0 ≤ 0))).bind fun r_20 => (blocks_of name).bind fun r_21 => (r_21.out[2]?).bind fun x_22 => (ints_Wrap x_22 s.a0).bind fun r_23 => if i = 0 then (some r_19) else (if i = 1 then (some r_20) else (if i = 2 then (some r_23) else none))) else (if i = 0 then ((blocks_bit (!(decide (s.a0 = 0)))).bind fun r_24 => some r_24) else ((blocks_of name).bind fun r_25 => (idx r_25.out i).bind fun x_26 => (ints_Wrap x_26 s.a1).bind fun r_27 => some r_27))))) else (if name = ([67, 84, 85] : Str) then (if i < 0 then (some 0) else (if 2 ≤ i then (some 0) else (if name = ([67, 84, 85, 68] : Str) then ((blocks_bit (decide (s.a3 ≤ s.a0))).bind fun r_28 => (blocks_bit (decide (s.a0 ≤ 0))).bind fun r_29 => (blocks_of name).bind fun r_30 => (r_30.out[2]?).bind fun x_31 => (ints_Wrap x_31 s.a0).bind fun r_32 => if i = 0 then (some r_28) else (if i = 1 then (some r_29) else (if i = 2 then (some r_32) else none))) else (if i = 0 then ((blocks_bit (!(decide (s.a0 = 0)))).bind fun r_33 => some r_33) else ((blocks_of name).bind fun r_34 => (idx r_34.out i).bind fun x_35 => (ints_Wrap x_35 s.a1).bind fun r_36 => some r_36))))) else (if name = ([67, 84, 68] : Str) then (if i < 0 then (some 0) else (if 2 ≤ i then (some 0) else (if name = ([67, 84, 85, 68] : Str) then ((blocks_bit (decide (s.a3 ≤ s.a0))).bind fun r_37 => (blocks_bit (decide (s.a0 ≤ 0))).bind fun r_38 => (blocks_of name).bind fun r_39 => (r_39.out[2]?).bind fun x_40 => (ints_Wrap x_40 s.a0).bind fun r_41 => if i = 0 then (some r_37) else (if i = 1 then (some r_38) else (if i = 2 then (some r_41) else none))) else (if i = 0 then ((blocks_bit (!(decide (s.a0 = 0)))).bind fun r_42 => some r_42) else ((blocks_of name).bind fun r_43 => (idx r_43.out i).bind fun x_44 => (ints_Wrap x_44 s.a1).bind fun r_45 => some r_45))))) else (if name = ([67, 84, 85, 68] : Str) then (if i < 0 then (some 0) else (if 3 ≤ i then (some 0) else ((blocks_bit (decide (s.a3 ≤ s.a0))).bind fun r_46 => (blocks_bit (decide (s.a0 ≤ 0))).bind fun r_47 => (blocks_of name).bind fun r_48 => (r_48.out[2]?).bind fun x_49 => (ints_Wrap x_49 s.a0).bind fun r_50 => if i = 0 then (some r_46) else (if i = 1 then (some r_47) else (if i = 2 then (some r_50) else none))))) else (if name = ([82, 95, 84, 82, 73, 71] : Str) then (if i < 0 then (some 0) else (if 1 ≤ i then (some 0) else (if i = 0 then ((blocks_bit (!(decide (s.a0 = 0)))).bind fun r_51 => some r_51) else ((blocks_of name).bind fun r_52 => (idx r_52.out i).bind fun x_53 => (ints_Wrap x_53 s.a1).bind fun r_54 => some r_54)))) else (if name = ([70, 95, 84, 82, 73, 71] : Str) then (if i < 0 then (some 0) else (if 1 ≤ i then (some 0) else (if i = 0 then ((blocks_bit (!(decide (s.a0 = 0)))).bind fun r_55 => some r_55) else ((blocks_of name).bind fun r_56 => (idx r_56.out i).bind fun x_57 => (ints_Wrap x_57 s.a1).bind fun r_58 => some r_58)))) else (if name = ([83, 82] : Str) then (if i < 0 then (some 0) else (if 1 ≤ i then (some 0) else (if i = 0 then ((blocks_bit (!(decide (s.a0 = 0)))).bind fun r_59 => some r_59) else ((blocks_of name).bind fun r_60 => (idx r_60.out i).bind fun x_61 => (ints_Wrap x_61 s.a1).bind fun r_62 => some r_62)))) else (if name = ([82, 83] : Str) then (if i < 0 then (some 0) else (if 1 ≤ i then (some 0) else (if i = 0 then ((blocks_bit (!(decide (s.a0 = 0)))).bind fun r_63 => some r_63) else ((blocks_of name).bind fun r_64 => (idx r_64.out i).bind fun x_65 => (ints_Wrap x_65 s.a1).bind fun r_66 => some r_66)))) else (if i < 0 then (some 0) else (if 0 ≤ i then (some 0) else (if i = 0 then ((blocks_bit (!(decide (s.a0 = 0)))).bind fun r_67 => some r_67) else ((blocks_of name).bind fun r_68 => (idx r_68.out i).bind fun x_69 => (ints_Wrap x_69 s.a1).bind fun r_70 => some r_70)))))))))))))
def blocks_Step_L10 (in_ : List Int) : ((List Int) × Nat) → Option (((List Int) × Nat) ⊕ (List Int))
  | (l_98, x_99) => if (x_99 : Int) < (in_.length : Int) then ((in_[x_99]?).bind fun x_102 => ([1, 1][x_99]?).bind fun x_103 => (ints_Wrap x_103 x_102).bind fun r_104 => (l_98[x_99]?).bind fun x_105 => some (.inl ((l_98.set x_99 r_104), (x_99 + 1)))) else (some (.inr (l_98)))
def blocks_Step_L9 (in_ : List Int) : ((List Int) × Nat) → Option (((List Int) × Nat) ⊕ (List Int))
  | (l_87, x_88) => if (x_88 : Int) < (in_.length : Int) then ((in_[x_88]?).bind fun x_91 => ([1, 1][x_88]?).bind fun x_92 => (ints_Wrap x_92 x_91).bind fun r_93 => (l_87[x_88]?).bind fun x_94 => some (.inl ((l_87.set x_88 r_93), (x_88 + 1)))) else (some (.inr (l_87)))
def blocks_Step_L8 (in_ : List Int) : ((List Int) × Nat) → Option (((List Int) × Nat) ⊕ (List Int))
  | (l_77, x_78) => if (x_78 : Int) < (in_.length : Int) then ((in_[x_78]?).bind fun x_81 => ([1][x_78]?).bind fun x_82 => (ints_Wrap x_82 x_81).bind fun r_83 => (l_77[x_78]?).bind fun x_84 => some (.inl ((l_77.set x_78 r_83), (x_78 + 1)))) else (some (.inr (l_77)))
def blocks_Step_L7 (in_ : List Int) : ((List Int) × Nat) → Option (((List Int) × Nat) ⊕ (List Int))
  | (l_67, x_68) => if (x_68 : Int) < (in_.length : Int) then ((in_[x_68]?).bind fun x_71 => ([1][x_68]?).bind fun x_72 => (ints_Wrap x_72 x_71).bind fun r_73 => (l_67[x_68]?).bind fun x_74 => some (.inl ((l_67.set x_68 r_73), (x_68 + 1)))) else (some (.inr (l_67)))
def blocks_Step_L6 (in_ : List Int) : ((List Int) × Nat) → Option (((List Int) × Nat) ⊕ (List Int))
  | (l_56, x_57) => if (x_57 : Int) < (in_.length : Int) then ((in_[x_57]?).bind fun x_60 => ([1, 1, 1, 1, 2][x_57]?).bind fun x_61 => (ints_Wrap x_61 x_60).bind fun r_62 => (l_56[x_57]?).bind fun x_63 => some (.inl ((l_56.set x_57 r_62), (x_57 + 1)))) else (some (.inr (l_56)))
def blocks_Step_L5 (in_ : List Int) : ((List Int) × Nat) → Option (((List Int) × Nat) ⊕ (List Int))
  | (l_45, x_46) => if (x_46 : Int) < (in_.length : Int) then ((in_[x_46]?).bind fun x_49 => ([1, 1, 2][x_46]?).bind fun x_50 => (ints_Wrap x_50 x_49).bind fun r_51 => (l_45[x_46]?).bind fun x_52 => some (.inl ((l_45.set x_46 r_51), (x_46 + 1)))) else (some (.inr (l_45)))
def blocks_Step_L4 (in_ : List Int) : ((List Int) × Nat) → Option (((List Int) × Nat) ⊕ (List Int))
  | (l_34, x_35) => if (x_35 : Int) < (in_.length : Int) then ((in_[x_35]?).bind fun x_38 => ([1, 1, 2][x_35]?).bind fun x_39 => (ints_Wrap x_39 x_38).bind fun r_40 => (l_34[x_35]?).bind fun x_41 => some (.inl ((l_34.set x_35 r_40), (x_35 + 1)))) else (some (.inr (l_34)))
def blocks_Step_L3 (in_ : List Int) : ((List Int) × Nat) → Option (((List Int) × Nat) ⊕ (List Int))
  | (l_24, x_25) => if (x_25 : Int) < (in_.length : Int) then ((in_[x_25]?).bind fun x_28 => ([1, 4][x_25]?).bind fun x_29 => (ints_Wrap x_29 x_28).bind fun r_30 => (l_24[x_25]?).bind fun x_31 => some (.inl ((l_24.set x_25 r_30), (x_25 + 1)))) else (some (.inr (l_24)))
def blocks_Step_L2 (in_ : List Int) : ((List Int) × Nat) → Option (((List Int) × Nat) ⊕ (List Int))
  | (l_13, x_14) => if (x_14 : Int) < (in_.length : Int) then ((in_[x_14]?).bind fun x_17 => ([1, 4][x_14]?).bind fun x_18 => (ints_Wrap x_18 x_17).bind fun r_19 => (l_13[x_14]?).bind fun x_20 => some (.inl ((l_13.set x_14 r_19), (x_14 + 1)))) else (some (.inr (l_13)))
def blocks_Step_L1 (in_ : List Int) : ((List Int) × Nat) → Option (((List Int) × Nat) ⊕ (List Int))
  | (l_2, x_3) => if (x_3 : Int) < (in_.length : Int) then ((in_[x_3]?).bind fun x_6 => ([1, 4][x_3]?).bind fun x_7 => (ints_Wrap x_7 x_6).bind fun r_8 => (l_2[x_3]?).bind fun x_9 => some (.inl ((l_2.set x_3 r_8), (x_3 + 1)))) else (some (.inr (l_2)))
def blocks_Step (name : Str) (s : A4 Int) (in_ : List Int) (now : Int) : Option (A4 Int) :=
  if name = ([84, 79, 78] : Str) then (if (in_.length : Int) = 2 then (need (0 ≤ (in_.length : Int) ∧ 8 * (in_.length : Int) ≤ 140737488355328) ((loop (blocks_Step_L1 in_) ((List.replicate in_.length 0), 0)).bind (fun e_4 => (blocks_ton s e_4 now).bind fun r_11 => some r_11))) else (some s)) else (if name = ([84, 79, 70] : Str) then (if (in_.length : Int) = 2 then (need (0 ≤ (in_.length : Int) ∧ 8 * (in_.length : Int) ≤ 140737488355328) ((loop (blocks_Step_L2 in_) ((List.replicate in_.length 0), 0)).bind (fun e_15 => (blocks_tof s e_15 now).bind fun r_22 => some r_22))) else (some s)) else (if name = ([84, 80] : Str) then (if (in_.length : Int) = 2 then (need (0 ≤ (in_.length : Int) ∧ 8 * (in_.length : Int) ≤ 140737488355328) ((loop (blocks_Step_L3 in_) ((List.replicate in_.length 0), 0)).bind (fun e_26 => none))) else (some s)) else (if name = ([67, 84, 85] : Str) then (if (in_.length : Int) = 3 then (need (0 ≤ (in_.length : Int) ∧ 8 * (in_.length : Int) ≤ 140737488355328) ((loop (blocks_Step_L4 in_) ((List.replicate in_.length 0), 0)).bind (fun e_36 => (blocks_ctu s e_36 now).bind fun r_43 => some r_43))) else (some s)) else (if name = ([67, 84, 68] : Str) then (if (in_.length : Int) = 3 then (need (0 ≤ (in_.length : Int) ∧ 8 * (in_.length : Int) ≤ 140737488355328) ((loop (blocks_Step_L5 in_) ((List.replicate in_.length 0), 0)).bind (fun e_47 => (blocks_ctd s e_47 now).bind fun r_54 => some r_54))) else (some s)) else (if name = ([67, 84, 85, 68] : Str) then (if (in_.length : Int) = 5 then (need (0 ≤ (in_.length : Int) ∧ 8 * (in_.length : Int) ≤ 140737488355328) ((loop (blocks_Step_L6 in_) ((List.replicate in_.length 0), 0)).bind (fun e_58 => (blocks_ctud s e_58 now).bind fun r_65 => some r_65))) else (some s)) else (if name = ([82, 95, 84, 82, 73, 71] : Str) then (if (in_.length : Int) = 1 then (need (0 ≤ (in_.length : Int) ∧ 8 * (in_.length : Int) ≤ 140737488355328) ((loop (blocks_Step_L7 in_) ((List.replicate in_.length 0), 0)).bind (fun e_69 => none))) else (some s)) else (if name = ([70, 95, 84, 82, 73, 71] : Str) then (if (in_.length : Int) = 1 then (need (0 ≤ (in_.length : Int) ∧ 8 * (in_.length : Int) ≤ 140737488355328) ((loop (blocks_Step_L8 in_) ((List.replicate in_.length 0), 0)).bind (fun e_79 => none))) else (some s)) else (if name = ([83, 82] : Str) then (if (in_.length : Int) = 2 then (need (0 ≤ (in_.length : Int) ∧ 8 * (in_.length : Int) ≤ 140737488355328) ((loop (blocks_Step_L9 in_) ((List.replicate in_.length 0), 0)).bind (fun e_89 => (blocks_sr s e_89 now).bind fun r_96 => some r_96))) else (some s)) else (if name = ([82, 83] : Str) then (if (in_.length : Int) = 2 then (need (0 ≤ (in_.length : Int) ∧ 8 * (in_.length : Int) ≤ 140737488355328) ((loop (blocks_Step_L10 in_) ((List.replicate in_.length 0), 0)).bind (fun e_100 => (blocks_rs s e_100 now).bind fun r_107 => some r_107))) else (some s)) else (some s))))))))))
def lazarettolaw11_awake : Option Bool :=
  (blocks_Step ([84, 79, 78] : Str) (⟨0, 0, 0, 0⟩ : A4 Int) [1, 3] 5).bind fun r_1 => (blocks_Out ([84, 79, 78] : Str) r_1 0).bind fun r_2 => (blocks_Out ([84, 79, 78] : Str) r_1 1).bind fun r_3 => (blocks_Step ([84, 79, 78] : Str) r_1 [1, 3] 7).bind fun r_4 => (blocks_Out ([84, 79, 78] : Str) r_4 1).bind fun r_5 => (blocks_Step ([84, 79, 78] : Str) r_4 [1, 3] 8).bind fun r_6 => (blocks_Step ([67, 84, 85, 68] : Str) (⟨0, 0, 0, 0⟩ : A4 Int) [1, 0, 0, 0, 1] 0).bind fun r_7 => if r_2 = 0 then (if r_3 = 0 then (if r_5 = 2 then ((blocks_Out ([84, 79, 78] : Str) r_6 0).bind fun r_8 => if r_8 = 1 then ((blocks_Out ([84, 79, 78] : Str) r_6 1).bind fun r_9 => if r_9 = 3 then ((blocks_Out ([67, 84, 85, 68] : Str) r_7 0).bind fun r_10 => if r_10 = 1 then ((blocks_Kinds).bind fun r_11 => if (r_11.length : Int) = 10 then ((blocks_Inputs ([67, 84, 85, 68] : Str)).bind fun r_12 => if (r_12.length : Int) = 5 then ((blocks_Outputs ([88, 88] : Str)).bind fun r_13 => some (decide ((r_13.length : Int) = 0))) else (some false)) else (some false)) else (some false)) else (some false)) else (some false)) else (some false)) else (some false)) else (some false)
end
theorem lazarettoref09_Texts_ok {a : List Str} {b : List Str} {r : Bool} (h : lazarettoref09_Texts a b = some r) :
    Pu Try.prog 47 [.one (.sl (a.map eS)), .one (.sl (b.map eS))] (.one (.bool r)) := by
  have F := trivial; have R := trivial
  refine pA Try.func47 ?_
  simp only [Try.f47]
  unfold lazarettoref09_Texts at h
  refine tt ?_
  repeat (first | (with_reducible intro _) | refine ⟨ss, ?_⟩)
  refine fi h F (fun h _ F => ?_) (fun h _ F => ?_)
  refine bi h fun e_2 h he_2 => ?_
  refine tt ?_
  refine lE (fun (s__ : Nat) (a__ : Unit) => match s__, a__ with | i_1, _ => ⟨[(0, .one (.sl (a.map eS))), (1, .one (.sl (b.map eS))), (5, .one (.int .i64 (i_1 : Int)))], []⟩) (fun (e__ : Bool ⊕ Unit) (b__ : Unit) => match e__, b__ with | (.inl e_6), _ => ⟨[], []⟩ | (.inr ()), _ => ⟨[], []⟩) (fun (e__ : Bool ⊕ Unit) => match e__ with | (.inl _) => none | (.inr _) => some 0) () he_2 ?_ ?_
  intro i3 b3 hi3
  rcases e_2 with e_case | ⟨⟩
  cases hi3
  obtain rfl := Option.some.inj hi3
  obtain ⟨⟩ := b3
  dsimp only at h ⊢
  cases h; exact fin
  intro af3 m3 i_1 a3 o3 hf3 ho3 ih3
  obtain ⟨⟩ := a3
  dsimp only [lazarettoref09_Texts_L1] at hf3 ⊢
  refine tt ?_
  repeat (first | (with_reducible intro _) | refine ⟨ss, ?_⟩)
  refine fl hf3 F (fun hf3 _ F => ?_) (fun hf3 _ F => ?_)
  refine bx hf3 F fun x_4 hf3 hx_4 F => ?_
  refine bx hf3 F fun x_5 hf3 hx_5 F => ?_
  refine tt ?_
  repeat (first | (with_reducible intro _) | refine ⟨ss, ?_⟩)
  refine fi hf3 F (fun hf3 _ F => ?_) (fun hf3 _ F => ?_)
  cases hf3
  refine tt ?_
  refine wn i_1 F fun F => ?_
  exact bk ih3 ho3 ()
  cases hf3
  obtain rfl := sr ho3
  try dsimp only at h
  cases h
  exact fin
  cases hf3
  refine tt ?_
  exact xt ho3 af3 ()
  cases h; exact fin
theorem blocks_Kinds_ok {r : List Str} (h : blocks_Kinds = some r) :
    Pu Try.prog 48 [] (.one (.sl (r.map eS))) := by
  have F := trivial; have R := trivial
  refine pA Try.func48 ?_
  simp only [Try.f48]
  unfold blocks_Kinds at h
  cases h; exact fin
theorem lazarettoref11_Kinds_ok {r : List Str} (h : lazarettoref11_Kinds = some r) :
    Pu Try.prog 49 [] (.one (.sl (r.map eS))) := by
  have F := trivial; have R := trivial
  refine pA Try.func49 ?_
  simp only [Try.f49]
  unfold lazarettoref11_Kinds at h
  cases h; exact fin
theorem blocks_bit_ok {b : Bool} {r : Int} (h : blocks_bit b = some r) :
    Pu Try.prog 82 [.one (.bool b)] (.one (.int .i64 r)) := by
  have F := trivial; have R := trivial
  refine pA Try.func82 ?_
  simp only [Try.f82]
  unfold blocks_bit at h
  refine fv h F (fun h _ F => ?_) (fun h _ F => ?_)
  cases h; exact fin
  cases h; exact fin
theorem blocks_since_ok {now : Int} {from_ : Int} {most : Int} {r : Int} (h : blocks_since now from_ most = some r) :
    Pu Try.prog 130 [.one (.int .i64 now), .one (.int .i64 from_), .one (.int .i64 most)] (.one (.int .i64 r)) := by
  have F := trivial; have R := trivial
  refine pA Try.func130 ?_
  simp only [Try.f130]
  unfold blocks_since at h
  refine fi h F (fun h _ F => ?_) (fun h _ F => ?_)
  cases h; exact fin
  refine tt ?_
  refine fi h F (fun h _ F => ?_) (fun h _ F => ?_)
  cases h; exact fin
  refine tt ?_
  refine fi h F (fun h _ F => ?_) (fun h _ F => ?_)
  cases h; exact fin
  cases h; exact fin
theorem blocks_ton_ok {s : A4 Int} {in_ : List Int} {now : Int} {r : A4 Int} (h : blocks_ton s in_ now = some r) :
    Pu Try.prog 100 [.agg ((eA4 eI) s), .one (.sl (in_.map eI)), .one (.int .i64 now)] (.agg ((eA4 eI) r)) := by
  have F := trivial; have R := trivial
  refine pA Try.func100 ?_
  simp only [Try.f100]
  unfold blocks_ton at h
  refine bx h F fun x_1 h hx_1 F => ?_
  refine tt ?_
  repeat (first | (with_reducible intro _) | refine ⟨ss, ?_⟩)
  refine fi h F (fun h _ F => ?_) (fun h _ F => ?_)
  cases h; exact fin
  refine tt ?_
  repeat (first | (with_reducible intro _) | refine ⟨ss, ?_⟩)
  refine fi h F (fun h _ F => ?_) (fun h _ F => ?_)
  refine bx h F fun x_2 h hx_2 F => ?_
  refine bi h fun r_3 h hr_3 => ?_
  refine tt ?_
  repeat (first | (with_reducible intro _) | refine ⟨ss, ?_⟩)
  refine cD (blocks_since_ok hr_3) ?_
  refine bi h fun r_4 h hr_4 => ?_
  refine tt ?_
  repeat (first | (with_reducible intro _) | refine ⟨ss, ?_⟩)
  refine cD (blocks_bit_ok hr_4) ?_
  cases h; exact fin
  refine bx h F fun x_5 h hx_5 F => ?_
  refine bi h fun r_6 h hr_6 => ?_
  refine tt ?_
  repeat (first | (with_reducible intro _) | refine ⟨ss, ?_⟩)
  refine cD (blocks_since_ok hr_6) ?_
  refine bi h fun r_7 h hr_7 => ?_
  refine tt ?_
  repeat (first | (with_reducible intro _) | refine ⟨ss, ?_⟩)
  refine cD (blocks_bit_ok hr_7) ?_
  cases h; exact fin
theorem blocks_run_ok {s : A4 Int} {now : Int} {pt : Int} {r : A4 Int} (h : blocks_run s now pt = some r) :
    Pu Try.prog 131 [.agg ((eA4 eI) s), .one (.int .i64 now), .one (.int .i64 pt)] (.agg ((eA4 eI) r)) := by
  have F := trivial; have R := trivial
  refine pA Try.func131 ?_
  simp only [Try.f131]
  unfold blocks_run at h
  refine tt ?_
  repeat (first | (with_reducible intro _) | refine ⟨ss, ?_⟩)
  refine fi h F (fun h _ F => ?_) (fun h _ F => ?_)
  cases h; exact fin
  refine bi h fun r_1 h hr_1 => ?_
  refine tt ?_
  repeat (first | (with_reducible intro _) | refine ⟨ss, ?_⟩)
  refine cS (blocks_since_ok hr_1) ?_
  refine tt ?_
  repeat (first | (with_reducible intro _) | refine ⟨ss, ?_⟩)
  refine fi h F (fun h _ F => ?_) (fun h _ F => ?_)
  cases h; exact fin
  cases h; exact fin
theorem blocks_tof_ok {s : A4 Int} {in_ : List Int} {now : Int} {r : A4 Int} (h : blocks_tof s in_ now = some r) :
    Pu Try.prog 101 [.agg ((eA4 eI) s), .one (.sl (in_.map eI)), .one (.int .i64 now)] (.agg ((eA4 eI) r)) := by
  have F := trivial; have R := trivial
  refine pA Try.func101 ?_
  simp only [Try.f101]
  unfold blocks_tof at h
  refine bx h F fun x_1 h hx_1 F => ?_
  refine tt ?_
  repeat (first | (with_reducible intro _) | refine ⟨ss, ?_⟩)
  refine fi h F (fun h _ F => ?_) (fun h _ F => ?_)
  cases h; exact fin
  refine tt ?_
  repeat (first | (with_reducible intro _) | refine ⟨ss, ?_⟩)
  refine fi h F (fun h _ F => ?_) (fun h _ F => ?_)
  refine bx h F fun x_2 h hx_2 F => ?_
  refine bi h fun r_3 h hr_3 => ?_
  refine tt ?_
  repeat (first | (with_reducible intro _) | refine ⟨ss, ?_⟩)
  refine cD (blocks_run_ok hr_3) ?_
  cases h; exact fin
  refine bx h F fun x_4 h hx_4 F => ?_
  refine bi h fun r_5 h hr_5 => ?_
  refine tt ?_
  repeat (first | (with_reducible intro _) | refine ⟨ss, ?_⟩)
  refine cD (blocks_run_ok hr_5) ?_
  cases h; exact fin
theorem blocks_up_ok {n : Int} {r : Int} (h : blocks_up n = some r) :
    Pu Try.prog 132 [.one (.int .i64 n)] (.one (.int .i64 r)) := by
  have F := trivial; have R := trivial
  refine pA Try.func132 ?_
  simp only [Try.f132]
  unfold blocks_up at h
  refine fi h F (fun h _ F => ?_) (fun h _ F => ?_)
  cases h; exact fin
  cases h; exact fin
theorem blocks_ctu_ok {s : A4 Int} {in_ : List Int} {p2 : Int} {r : A4 Int} (h : blocks_ctu s in_ p2 = some r) :
    Pu Try.prog 103 [.agg ((eA4 eI) s), .one (.sl (in_.map eI)), .one (.int .i64 p2)] (.agg ((eA4 eI) r)) := by
  have F := trivial; have R := trivial
  refine pA Try.func103 ?_
  simp only [Try.f103]
  unfold blocks_ctu at h
  refine bx h F fun x_1 h hx_1 F => ?_
  refine tt ?_
  repeat (first | (with_reducible intro _) | refine ⟨ss, ?_⟩)
  refine fi h F (fun h _ F => ?_) (fun h _ F => ?_)
  refine bx h F fun x_2 h hx_2 F => ?_
  refine bi h fun r_3 h hr_3 => ?_
  refine tt ?_
  repeat (first | (with_reducible intro _) | refine ⟨ss, ?_⟩)
  refine cD (blocks_bit_ok hr_3) ?_
  refine bx h F fun x_4 h hx_4 F => ?_
  cases h; exact fin
  refine bx h F fun x_5 h hx_5 F => ?_
  refine tt ?_
  repeat (first | (with_reducible intro _) | refine ⟨ss, ?_⟩)
  refine fi h F (fun h _ F => ?_) (fun h _ F => ?_)
  refine tt ?_
  repeat (first | (with_reducible intro _) | refine ⟨ss, ?_⟩)
  refine fi h F (fun h _ F => ?_) (fun h _ F => ?_)
  refine bi h fun r_6 h hr_6 => ?_
  refine tt ?_
  repeat (first | (with_reducible intro _) | refine ⟨ss, ?_⟩)
  refine cS (blocks_up_ok hr_6) ?_
  refine bx h F fun x_7 h hx_7 F => ?_
  refine bi h fun r_8 h hr_8 => ?_
  refine tt ?_
  repeat (first | (with_reducible intro _) | refine ⟨ss, ?_⟩)
  refine cD (blocks_bit_ok hr_8) ?_
  cases h; exact fin
  refine bx h F fun x_9 h hx_9 F => ?_
  refine bi h fun r_10 h hr_10 => ?_
  refine tt ?_
  repeat (first | (with_reducible intro _) | refine ⟨ss, ?_⟩)
  refine cD (blocks_bit_ok hr_10) ?_
  cases h; exact fin
  refine bx h F fun x_11 h hx_11 F => ?_
  refine bi h fun r_12 h hr_12 => ?_
  refine tt ?_
  repeat (first | (with_reducible intro _) | refine ⟨ss, ?_⟩)
  refine cD (blocks_bit_ok hr_12) ?_
  cases h; exact fin
theorem blocks_down_ok {n : Int} {r : Int} (h : blocks_down n = some r) :
    Pu Try.prog 133 [.one (.int .i64 n)] (.one (.int .i64 r)) := by
  have F := trivial; have R := trivial
  refine pA Try.func133 ?_
  simp only [Try.f133]
  unfold blocks_down at h
  refine fi h F (fun h _ F => ?_) (fun h _ F => ?_)
  cases h; exact fin
  cases h; exact fin
theorem blocks_ctd_ok {s : A4 Int} {in_ : List Int} {p2 : Int} {r : A4 Int} (h : blocks_ctd s in_ p2 = some r) :
    Pu Try.prog 104 [.agg ((eA4 eI) s), .one (.sl (in_.map eI)), .one (.int .i64 p2)] (.agg ((eA4 eI) r)) := by
  have F := trivial; have R := trivial
  refine pA Try.func104 ?_
  simp only [Try.f104]
  unfold blocks_ctd at h
  refine bx h F fun x_1 h hx_1 F => ?_
  refine tt ?_
  repeat (first | (with_reducible intro _) | refine ⟨ss, ?_⟩)
  refine fi h F (fun h _ F => ?_) (fun h _ F => ?_)
  refine bx h F fun x_2 h hx_2 F => ?_
  refine bi h fun r_3 h hr_3 => ?_
  refine tt ?_
  repeat (first | (with_reducible intro _) | refine ⟨ss, ?_⟩)
  refine cD (blocks_bit_ok hr_3) ?_
  refine bx h F fun x_4 h hx_4 F => ?_
  cases h; exact fin
  refine bx h F fun x_5 h hx_5 F => ?_
  refine tt ?_
  repeat (first | (with_reducible intro _) | refine ⟨ss, ?_⟩)
  refine fi h F (fun h _ F => ?_) (fun h _ F => ?_)
  refine tt ?_
  repeat (first | (with_reducible intro _) | refine ⟨ss, ?_⟩)
  refine fi h F (fun h _ F => ?_) (fun h _ F => ?_)
  refine bi h fun r_6 h hr_6 => ?_
  refine tt ?_
  repeat (first | (with_reducible intro _) | refine ⟨ss, ?_⟩)
  refine cS (blocks_down_ok hr_6) ?_
  refine bi h fun r_7 h hr_7 => ?_
  refine tt ?_
  repeat (first | (with_reducible intro _) | refine ⟨ss, ?_⟩)
  refine cD (blocks_bit_ok hr_7) ?_
  cases h; exact fin
  refine bi h fun r_8 h hr_8 => ?_
  refine tt ?_
  repeat (first | (with_reducible intro _) | refine ⟨ss, ?_⟩)
  refine cD (blocks_bit_ok hr_8) ?_
  cases h; exact fin
  refine bi h fun r_9 h hr_9 => ?_
  refine tt ?_
  repeat (first | (with_reducible intro _) | refine ⟨ss, ?_⟩)
  refine cD (blocks_bit_ok hr_9) ?_
  cases h; exact fin
theorem blocks_ctud_ok {s : A4 Int} {in_ : List Int} {p2 : Int} {r : A4 Int} (h : blocks_ctud s in_ p2 = some r) :
    Pu Try.prog 105 [.agg ((eA4 eI) s), .one (.sl (in_.map eI)), .one (.int .i64 p2)] (.agg ((eA4 eI) r)) := by
  have F := trivial; have R := trivial
  refine pA Try.func105 ?_
  simp only [Try.f105]
  unfold blocks_ctud at h
  refine bx h F fun x_1 h hx_1 F => ?_
  refine tt ?_
  repeat (first | (with_reducible intro _) | refine ⟨ss, ?_⟩)
  refine fi h F (fun h _ F => ?_) (fun h _ F => ?_)
  refine bx h F fun x_2 h hx_2 F => ?_
  refine tt ?_
  repeat (first | (with_reducible intro _) | refine ⟨ss, ?_⟩)
  refine fi h F (fun h _ F => ?_) (fun h _ F => ?_)
  refine bx h F fun x_3 h hx_3 F => ?_
  refine tt ?_
  repeat (first | (with_reducible intro _) | refine ⟨ss, ?_⟩)
  refine fi h F (fun h _ F => ?_) (fun h _ F => ?_)
  refine bx h F fun x_4 h hx_4 F => ?_
  cases h; exact fin
  refine bx h F fun x_5 h hx_5 F => ?_
  refine tt ?_
  repeat (first | (with_reducible intro _) | refine ⟨ss, ?_⟩)
  refine fi h F (fun h _ F => ?_) (fun h _ F => ?_)
  refine bx h F fun x_6 h hx_6 F => ?_
  cases h; exact fin
  refine fv h F (fun h _ F => ?_) (fun h _ F => ?_)
  refine bx h F fun x_7 h hx_7 F => ?_
  cases h; exact fin
  refine tt ?_
  refine fi h F (fun h _ F => ?_) (fun h _ F => ?_)
  refine bi h fun r_8 h hr_8 => ?_
  refine tt ?_
  repeat (first | (with_reducible intro _) | refine ⟨ss, ?_⟩)
  refine cS (blocks_up_ok hr_8) ?_
  refine bx h F fun x_9 h hx_9 F => ?_
  cases h; exact fin
  refine bi h fun r_10 h hr_10 => ?_
  refine tt ?_
  repeat (first | (with_reducible intro _) | refine ⟨ss, ?_⟩)
  refine cS (blocks_down_ok hr_10) ?_
  refine bx h F fun x_11 h hx_11 F => ?_
  cases h; exact fin
  refine bx h F fun x_12 h hx_12 F => ?_
  refine tt ?_
  repeat (first | (with_reducible intro _) | refine ⟨ss, ?_⟩)
  refine fi h F (fun h _ F => ?_) (fun h _ F => ?_)
  refine bx h F fun x_13 h hx_13 F => ?_
  cases h; exact fin
  refine bx h F fun x_14 h hx_14 F => ?_
  refine tt ?_
  repeat (first | (with_reducible intro _) | refine ⟨ss, ?_⟩)
  refine fi h F (fun h _ F => ?_) (fun h _ F => ?_)
  refine bx h F fun x_15 h hx_15 F => ?_
  cases h; exact fin
  refine fi h F (fun h _ F => ?_) (fun h _ F => ?_)
  refine bi h fun r_16 h hr_16 => ?_
  refine tt ?_
  repeat (first | (with_reducible intro _) | refine ⟨ss, ?_⟩)
  refine cS (blocks_up_ok hr_16) ?_
  refine bx h F fun x_17 h hx_17 F => ?_
  cases h; exact fin
  refine bx h F fun x_18 h hx_18 F => ?_
  cases h; exact fin
  refine bx h F fun x_19 h hx_19 F => ?_
  refine tt ?_
  repeat (first | (with_reducible intro _) | refine ⟨ss, ?_⟩)
  refine fi h F (fun h _ F => ?_) (fun h _ F => ?_)
  refine bx h F fun x_20 h hx_20 F => ?_
  refine tt ?_
  repeat (first | (with_reducible intro _) | refine ⟨ss, ?_⟩)
  refine fi h F (fun h _ F => ?_) (fun h _ F => ?_)
  refine bx h F fun x_21 h hx_21 F => ?_
  cases h; exact fin
  refine bx h F fun x_22 h hx_22 F => ?_
  refine tt ?_
  repeat (first | (with_reducible intro _) | refine ⟨ss, ?_⟩)
  refine fi h F (fun h _ F => ?_) (fun h _ F => ?_)
  refine bx h F fun x_23 h hx_23 F => ?_
  cases h; exact fin
  refine fi h F (fun h _ F => ?_) (fun h _ F => ?_)
  refine bi h fun r_24 h hr_24 => ?_
  refine tt ?_
  repeat (first | (with_reducible intro _) | refine ⟨ss, ?_⟩)
  refine cS (blocks_down_ok hr_24) ?_
  refine bx h F fun x_25 h hx_25 F => ?_
  cases h; exact fin
  refine bx h F fun x_26 h hx_26 F => ?_
  cases h; exact fin
  refine bx h F fun x_27 h hx_27 F => ?_
  refine tt ?_
  repeat (first | (with_reducible intro _) | refine ⟨ss, ?_⟩)
  refine fi h F (fun h _ F => ?_) (fun h _ F => ?_)
  refine bx h F fun x_28 h hx_28 F => ?_
  cases h; exact fin
  refine bx h F fun x_29 h hx_29 F => ?_
  refine tt ?_
  repeat (first | (with_reducible intro _) | refine ⟨ss, ?_⟩)
  refine fi h F (fun h _ F => ?_) (fun h _ F => ?_)
  refine bx h F fun x_30 h hx_30 F => ?_
  cases h; exact fin
  refine bx h F fun x_31 h hx_31 F => ?_
  cases h; exact fin
theorem blocks_sr_ok {s : A4 Int} {in_ : List Int} {p2 : Int} {r : A4 Int} (h : blocks_sr s in_ p2 = some r) :
    Pu Try.prog 108 [.agg ((eA4 eI) s), .one (.sl (in_.map eI)), .one (.int .i64 p2)] (.agg ((eA4 eI) r)) := by
  have F := trivial; have R := trivial
  refine pA Try.func108 ?_
  simp only [Try.f108]
  unfold blocks_sr at h
  refine bx h F fun x_1 h hx_1 F => ?_
  refine tt ?_
  repeat (first | (with_reducible intro _) | refine ⟨ss, ?_⟩)
  refine fi h F (fun h _ F => ?_) (fun h _ F => ?_)
  refine bi h fun r_2 h hr_2 => ?_
  refine tt ?_
  repeat (first | (with_reducible intro _) | refine ⟨ss, ?_⟩)
  refine cS (blocks_bit_ok hr_2) ?_
  cases h; exact fin
  refine tt ?_
  repeat (first | (with_reducible intro _) | refine ⟨ss, ?_⟩)
  refine fi h F (fun h _ F => ?_) (fun h _ F => ?_)
  refine bi h fun r_3 h hr_3 => ?_
  refine tt ?_
  repeat (first | (with_reducible intro _) | refine ⟨ss, ?_⟩)
  refine cS (blocks_bit_ok hr_3) ?_
  cases h; exact fin
  refine bx h F fun x_4 h hx_4 F => ?_
  refine bi h fun r_5 h hr_5 => ?_
  refine tt ?_
  repeat (first | (with_reducible intro _) | refine ⟨ss, ?_⟩)
  refine cS (blocks_bit_ok hr_5) ?_
  cases h; exact fin
theorem blocks_rs_ok {s : A4 Int} {in_ : List Int} {p2 : Int} {r : A4 Int} (h : blocks_rs s in_ p2 = some r) :
    Pu Try.prog 109 [.agg ((eA4 eI) s), .one (.sl (in_.map eI)), .one (.int .i64 p2)] (.agg ((eA4 eI) r)) := by
  have F := trivial; have R := trivial
  refine pA Try.func109 ?_
  simp only [Try.f109]
  unfold blocks_rs at h
  refine bx h F fun x_1 h hx_1 F => ?_
  refine tt ?_
  repeat (first | (with_reducible intro _) | refine ⟨ss, ?_⟩)
  refine fi h F (fun h _ F => ?_) (fun h _ F => ?_)
  refine bx h F fun x_2 h hx_2 F => ?_
  refine tt ?_
  repeat (first | (with_reducible intro _) | refine ⟨ss, ?_⟩)
  refine fi h F (fun h _ F => ?_) (fun h _ F => ?_)
  refine bi h fun r_3 h hr_3 => ?_
  refine tt ?_
  repeat (first | (with_reducible intro _) | refine ⟨ss, ?_⟩)
  refine cS (blocks_bit_ok hr_3) ?_
  cases h; exact fin
  refine bi h fun r_4 h hr_4 => ?_
  refine tt ?_
  repeat (first | (with_reducible intro _) | refine ⟨ss, ?_⟩)
  refine cS (blocks_bit_ok hr_4) ?_
  cases h; exact fin
  refine bi h fun r_5 h hr_5 => ?_
  refine tt ?_
  repeat (first | (with_reducible intro _) | refine ⟨ss, ?_⟩)
  refine cS (blocks_bit_ok hr_5) ?_
  cases h; exact fin
theorem blocks_of_ok {name : Str} {r : blocks_kind} (h : blocks_of name = some r) :
    Pu Try.prog 80 [.one (.str name)] (.agg (e_blocks_kind r)) := by
  have F := trivial; have R := trivial
  refine pA Try.func80 ?_
  simp only [Try.f80]
  unfold blocks_of at h
  refine tt ?_
  repeat (first | (with_reducible intro _) | refine ⟨ss, ?_⟩)
  refine fi h F (fun h _ F => ?_) (fun h _ F => ?_)
  refine tt ?_
  repeat (first | (with_reducible intro _) | refine ⟨ss, ?_⟩)
  refine iS Try.func99 ?_
  simp only [Try.f99]
  cases h; exact fin
  refine fi h F (fun h _ F => ?_) (fun h _ F => ?_)
  refine tt ?_
  repeat (first | (with_reducible intro _) | refine ⟨ss, ?_⟩)
  refine iS Try.func99 ?_
  simp only [Try.f99]
  cases h; exact fin
  refine fi h F (fun h _ F => ?_) (fun h _ F => ?_)
  refine tt ?_
  repeat (first | (with_reducible intro _) | refine ⟨ss, ?_⟩)
  refine iS Try.func99 ?_
  simp only [Try.f99]
  cases h; exact fin
  refine fi h F (fun h _ F => ?_) (fun h _ F => ?_)
  refine tt ?_
  repeat (first | (with_reducible intro _) | refine ⟨ss, ?_⟩)
  refine iS Try.func99 ?_
  simp only [Try.f99]
  cases h; exact fin
  refine tt ?_
  refine fi h F (fun h _ F => ?_) (fun h _ F => ?_)
  refine tt ?_
  repeat (first | (with_reducible intro _) | refine ⟨ss, ?_⟩)
  refine iS Try.func99 ?_
  simp only [Try.f99]
  cases h; exact fin
  refine fi h F (fun h _ F => ?_) (fun h _ F => ?_)
  cases h; exact fin
  refine fi h F (fun h _ F => ?_) (fun h _ F => ?_)
  refine tt ?_
  repeat (first | (with_reducible intro _) | refine ⟨ss, ?_⟩)
  refine iS Try.func99 ?_
  simp only [Try.f99]
  cases h; exact fin
  refine fi h F (fun h _ F => ?_) (fun h _ F => ?_)
  refine tt ?_
  repeat (first | (with_reducible intro _) | refine ⟨ss, ?_⟩)
  refine iS Try.func99 ?_
  simp only [Try.f99]
  cases h; exact fin
  refine tt ?_
  refine fi h F (fun h _ F => ?_) (fun h _ F => ?_)
  refine tt ?_
  repeat (first | (with_reducible intro _) | refine ⟨ss, ?_⟩)
  refine iS Try.func99 ?_
  simp only [Try.f99]
  cases h; exact fin
  refine fi h F (fun h _ F => ?_) (fun h _ F => ?_)
  refine tt ?_
  repeat (first | (with_reducible intro _) | refine ⟨ss, ?_⟩)
  refine iS Try.func99 ?_
  simp only [Try.f99]
  cases h; exact fin
  cases h; exact fin
theorem blocks_Inputs_ok {name : Str} {r : List Int} (h : blocks_Inputs name = some r) :
    Pu Try.prog 50 [.one (.str name)] (.one (.sl (r.map eI))) := by
  have F := trivial; have R := trivial
  refine pA Try.func50 ?_
  simp only [Try.f50]
  unfold blocks_Inputs at h
  refine tt ?_
  repeat (first | (with_reducible intro _) | refine ⟨ss, ?_⟩)
  refine iS Try.func80 ?_
  simp only [Try.f80]
  refine tt ?_
  repeat (first | (with_reducible intro _) | refine ⟨ss, ?_⟩)
  refine fi h F (fun h _ F => ?_) (fun h _ F => ?_)
  refine tt ?_
  repeat (first | (with_reducible intro _) | refine ⟨ss, ?_⟩)
  refine iS Try.func99 ?_
  simp only [Try.f99]
  cases h; exact fin
  refine fi h F (fun h _ F => ?_) (fun h _ F => ?_)
  refine tt ?_
  repeat (first | (with_reducible intro _) | refine ⟨ss, ?_⟩)
  refine iS Try.func99 ?_
  simp only [Try.f99]
  cases h; exact fin
  refine fi h F (fun h _ F => ?_) (fun h _ F => ?_)
  refine tt ?_
  repeat (first | (with_reducible intro _) | refine ⟨ss, ?_⟩)
  refine iS Try.func99 ?_
  simp only [Try.f99]
  cases h; exact fin
  refine fi h F (fun h _ F => ?_) (fun h _ F => ?_)
  refine tt ?_
  repeat (first | (with_reducible intro _) | refine ⟨ss, ?_⟩)
  refine iS Try.func99 ?_
  simp only [Try.f99]
  cases h; exact fin
  refine tt ?_
  refine fi h F (fun h _ F => ?_) (fun h _ F => ?_)
  refine tt ?_
  repeat (first | (with_reducible intro _) | refine ⟨ss, ?_⟩)
  refine iS Try.func99 ?_
  simp only [Try.f99]
  cases h; exact fin
  refine fi h F (fun h _ F => ?_) (fun h _ F => ?_)
  cases h; exact fin
  refine fi h F (fun h _ F => ?_) (fun h _ F => ?_)
  refine tt ?_
  repeat (first | (with_reducible intro _) | refine ⟨ss, ?_⟩)
  refine iS Try.func99 ?_
  simp only [Try.f99]
  cases h; exact fin
  refine fi h F (fun h _ F => ?_) (fun h _ F => ?_)
  refine tt ?_
  repeat (first | (with_reducible intro _) | refine ⟨ss, ?_⟩)
  refine iS Try.func99 ?_
  simp only [Try.f99]
  cases h; exact fin
  refine tt ?_
  refine fi h F (fun h _ F => ?_) (fun h _ F => ?_)
  refine tt ?_
  repeat (first | (with_reducible intro _) | refine ⟨ss, ?_⟩)
  refine iS Try.func99 ?_
  simp only [Try.f99]
  cases h; exact fin
  refine fi h F (fun h _ F => ?_) (fun h _ F => ?_)
  refine tt ?_
  repeat (first | (with_reducible intro _) | refine ⟨ss, ?_⟩)
  refine iS Try.func99 ?_
  simp only [Try.f99]
  cases h; exact fin
  cases h; exact fin
theorem lazarettoref11_Inputs_ok {kind : Str} {r : List Int} (h : lazarettoref11_Inputs kind = some r) :
    Pu Try.prog 51 [.one (.str kind)] (.one (.sl (r.map eI))) := by
  have F := trivial; have R := trivial
  refine pA Try.func51 ?_
  simp only [Try.f51]
  unfold lazarettoref11_Inputs at h
  refine fi h F (fun h _ F => ?_) (fun h _ F => ?_)
  cases h; exact fin
  refine fi h F (fun h _ F => ?_) (fun h _ F => ?_)
  cases h; exact fin
  refine tt ?_
  refine fi h F (fun h _ F => ?_) (fun h _ F => ?_)
  cases h; exact fin
  refine fi h F (fun h _ F => ?_) (fun h _ F => ?_)
  cases h; exact fin
  refine fi h F (fun h _ F => ?_) (fun h _ F => ?_)
  cases h; exact fin
  refine fi h F (fun h _ F => ?_) (fun h _ F => ?_)
  cases h; exact fin
  refine tt ?_
  refine fi h F (fun h _ F => ?_) (fun h _ F => ?_)
  cases h; exact fin
  refine fi h F (fun h _ F => ?_) (fun h _ F => ?_)
  cases h; exact fin
  refine fi h F (fun h _ F => ?_) (fun h _ F => ?_)
  cases h; exact fin
  refine fi h F (fun h _ F => ?_) (fun h _ F => ?_)
  cases h; exact fin
  cases h; exact fin
theorem blocks_Outputs_ok {name : Str} {r : List Int} (h : blocks_Outputs name = some r) :
    Pu Try.prog 52 [.one (.str name)] (.one (.sl (r.map eI))) := by
  have F := trivial; have R := trivial
  refine pA Try.func52 ?_
  simp only [Try.f52]
  unfold blocks_Outputs at h
  refine tt ?_
  repeat (first | (with_reducible intro _) | refine ⟨ss, ?_⟩)
  refine iS Try.func80 ?_
  simp only [Try.f80]
  refine tt ?_
  repeat (first | (with_reducible intro _) | refine ⟨ss, ?_⟩)
  refine fi h F (fun h _ F => ?_) (fun h _ F => ?_)
  refine tt ?_
  repeat (first | (with_reducible intro _) | refine ⟨ss, ?_⟩)
  refine iS Try.func99 ?_
  simp only [Try.f99]
  cases h; exact fin
  refine fi h F (fun h _ F => ?_) (fun h _ F => ?_)
  refine tt ?_
  repeat (first | (with_reducible intro _) | refine ⟨ss, ?_⟩)
  refine iS Try.func99 ?_
  simp only [Try.f99]
  cases h; exact fin
  refine fi h F (fun h _ F => ?_) (fun h _ F => ?_)
  refine tt ?_
  repeat (first | (with_reducible intro _) | refine ⟨ss, ?_⟩)
  refine iS Try.func99 ?_
  simp only [Try.f99]
  cases h; exact fin
  refine fi h F (fun h _ F => ?_) (fun h _ F => ?_)
  refine tt ?_
  repeat (first | (with_reducible intro _) | refine ⟨ss, ?_⟩)
  refine iS Try.func99 ?_
  simp only [Try.f99]
  cases h; exact fin
  refine tt ?_
  refine fi h F (fun h _ F => ?_) (fun h _ F => ?_)
  refine tt ?_
  repeat (first | (with_reducible intro _) | refine ⟨ss, ?_⟩)
  refine iS Try.func99 ?_
  simp only [Try.f99]
  cases h; exact fin
  refine fi h F (fun h _ F => ?_) (fun h _ F => ?_)
  cases h; exact fin
  refine fi h F (fun h _ F => ?_) (fun h _ F => ?_)
  refine tt ?_
  repeat (first | (with_reducible intro _) | refine ⟨ss, ?_⟩)
  refine iS Try.func99 ?_
  simp only [Try.f99]
  cases h; exact fin
  refine fi h F (fun h _ F => ?_) (fun h _ F => ?_)
  refine tt ?_
  repeat (first | (with_reducible intro _) | refine ⟨ss, ?_⟩)
  refine iS Try.func99 ?_
  simp only [Try.f99]
  cases h; exact fin
  refine tt ?_
  refine fi h F (fun h _ F => ?_) (fun h _ F => ?_)
  refine tt ?_
  repeat (first | (with_reducible intro _) | refine ⟨ss, ?_⟩)
  refine iS Try.func99 ?_
  simp only [Try.f99]
  cases h; exact fin
  refine fi h F (fun h _ F => ?_) (fun h _ F => ?_)
  refine tt ?_
  repeat (first | (with_reducible intro _) | refine ⟨ss, ?_⟩)
  refine iS Try.func99 ?_
  simp only [Try.f99]
  cases h; exact fin
  cases h; exact fin
theorem lazarettoref11_Outputs_ok {kind : Str} {r : List Int} (h : lazarettoref11_Outputs kind = some r) :
    Pu Try.prog 53 [.one (.str kind)] (.one (.sl (r.map eI))) := by
  have F := trivial; have R := trivial
  refine pA Try.func53 ?_
  simp only [Try.f53]
  unfold lazarettoref11_Outputs at h
  refine fi h F (fun h _ F => ?_) (fun h _ F => ?_)
  cases h; exact fin
  refine fi h F (fun h _ F => ?_) (fun h _ F => ?_)
  cases h; exact fin
  refine tt ?_
  refine fi h F (fun h _ F => ?_) (fun h _ F => ?_)
  cases h; exact fin
  refine fi h F (fun h _ F => ?_) (fun h _ F => ?_)
  cases h; exact fin
  refine fi h F (fun h _ F => ?_) (fun h _ F => ?_)
  cases h; exact fin
  refine fi h F (fun h _ F => ?_) (fun h _ F => ?_)
  cases h; exact fin
  refine tt ?_
  refine fi h F (fun h _ F => ?_) (fun h _ F => ?_)
  cases h; exact fin
  refine fi h F (fun h _ F => ?_) (fun h _ F => ?_)
  cases h; exact fin
  refine fi h F (fun h _ F => ?_) (fun h _ F => ?_)
  cases h; exact fin
  refine fi h F (fun h _ F => ?_) (fun h _ F => ?_)
  cases h; exact fin
  cases h; exact fin
theorem blocks_Out_ok {name : Str} {s : A4 Int} {i : Int} {r : Int} (h : blocks_Out name s i = some r) :
    Pu Try.prog 57 [.one (.str name), .agg ((eA4 eI) s), .one (.int .i64 i)] (.one (.int .i64 r)) := by
  have F := trivial; have R := trivial
  refine pA Try.func57 ?_
  simp only [Try.f57]
  unfold blocks_Out at h
  refine tt ?_
  repeat (first | (with_reducible intro _) | refine ⟨ss, ?_⟩)
  refine iS Try.func80 ?_
  simp only [Try.f80]
  refine tt ?_
  repeat (first | (with_reducible intro _) | refine ⟨ss, ?_⟩)
  refine fi h F (fun h _ F => ?_) (fun h _ F => ?_)
  refine tt ?_
  repeat (first | (with_reducible intro _) | refine ⟨ss, ?_⟩)
  refine iS Try.func99 ?_
  simp only [Try.f99]
  refine tt ?_
  repeat (first | (with_reducible intro _) | refine ⟨ss, ?_⟩)
  refine fi h F (fun h _ F => ?_) (fun h _ F => ?_)
  cases h; exact fin
  refine fi h F (fun h _ F => ?_) (fun h _ F => ?_)
  cases h; exact fin
  refine tt ?_
  refine fi h F (fun h _ F => ?_) (fun h _ F => ?_)
  refine bi h fun r_1 h hr_1 => ?_
  refine tt ?_
  repeat (first | (with_reducible intro _) | refine ⟨ss, ?_⟩)
  refine cD (blocks_bit_ok hr_1) ?_
  refine bi h fun r_2 h hr_2 => ?_
  refine tt ?_
  repeat (first | (with_reducible intro _) | refine ⟨ss, ?_⟩)
  refine cD (blocks_bit_ok hr_2) ?_
  refine bi h fun r_3 h hr_3 => ?_
  refine tt ?_
  repeat (first | (with_reducible intro _) | refine ⟨ss, ?_⟩)
  refine cD (blocks_of_ok hr_3) ?_
  refine bx h F fun x_4 h hx_4 F => ?_
  refine bi h fun r_5 h hr_5 => ?_
  refine tt ?_
  repeat (first | (with_reducible intro _) | refine ⟨ss, ?_⟩)
  refine cD (ints_Wrap_ok hr_5) ?_
  refine tt ?_
  repeat (first | (with_reducible intro _) | refine ⟨ss, ?_⟩)
  refine fe h F (fun h _ F => ?_) (fun h _ F => ?_)
  cases h; exact fin
  refine tt ?_
  repeat (first | (with_reducible intro _) | refine ⟨ss, ?_⟩)
  refine fe h F (fun h _ F => ?_) (fun h _ F => ?_)
  cases h; exact fin
  refine tt ?_
  repeat (first | (with_reducible intro _) | refine ⟨ss, ?_⟩)
  refine fe h F (fun h _ F => ?_) (fun h _ F => ?_)
  cases h; exact fin
  cases h
  refine fi h F (fun h _ F => ?_) (fun h _ F => ?_)
  refine bi h fun r_6 h hr_6 => ?_
  refine tt ?_
  repeat (first | (with_reducible intro _) | refine ⟨ss, ?_⟩)
  refine cS (blocks_bit_ok hr_6) ?_
  cases h; exact fin
  refine bi h fun r_7 h hr_7 => ?_
  refine tt ?_
  repeat (first | (with_reducible intro _) | refine ⟨ss, ?_⟩)
  refine cD (blocks_of_ok hr_7) ?_
  refine by_ h F fun x_8 h hx_8 F => ?_
  refine bi h fun r_9 h hr_9 => ?_
  refine tt ?_
  repeat (first | (with_reducible intro _) | refine ⟨ss, ?_⟩)
  refine cD (ints_Wrap_ok hr_9) ?_
  cases h; exact fin
  refine fi h F (fun h _ F => ?_) (fun h _ F => ?_)
  refine tt ?_
  repeat (first | (with_reducible intro _) | refine ⟨ss, ?_⟩)
  refine iS Try.func99 ?_
  simp only [Try.f99]
  refine tt ?_
  repeat (first | (with_reducible intro _) | refine ⟨ss, ?_⟩)
  refine fi h F (fun h _ F => ?_) (fun h _ F => ?_)
  cases h; exact fin
  refine fi h F (fun h _ F => ?_) (fun h _ F => ?_)
  cases h; exact fin
  refine tt ?_
  refine fi h F (fun h _ F => ?_) (fun h _ F => ?_)
  refine bi h fun r_10 h hr_10 => ?_
  refine tt ?_
  repeat (first | (with_reducible intro _) | refine ⟨ss, ?_⟩)
  refine cD (blocks_bit_ok hr_10) ?_
  refine bi h fun r_11 h hr_11 => ?_
  refine tt ?_
  repeat (first | (with_reducible intro _) | refine ⟨ss, ?_⟩)
  refine cD (blocks_bit_ok hr_11) ?_
  refine bi h fun r_12 h hr_12 => ?_
  refine tt ?_
  repeat (first | (with_reducible intro _) | refine ⟨ss, ?_⟩)
  refine cD (blocks_of_ok hr_12) ?_
  refine bx h F fun x_13 h hx_13 F => ?_
  refine bi h fun r_14 h hr_14 => ?_
  refine tt ?_
  repeat (first | (with_reducible intro _) | refine ⟨ss, ?_⟩)
  refine cD (ints_Wrap_ok hr_14) ?_
  refine tt ?_
  repeat (first | (with_reducible intro _) | refine ⟨ss, ?_⟩)
  refine fe h F (fun h _ F => ?_) (fun h _ F => ?_)
  cases h; exact fin
  refine tt ?_
  repeat (first | (with_reducible intro _) | refine ⟨ss, ?_⟩)
  refine fe h F (fun h _ F => ?_) (fun h _ F => ?_)
  cases h; exact fin
  refine tt ?_
  repeat (first | (with_reducible intro _) | refine ⟨ss, ?_⟩)
  refine fe h F (fun h _ F => ?_) (fun h _ F => ?_)
  cases h; exact fin
  cases h
  refine fi h F (fun h _ F => ?_) (fun h _ F => ?_)
  refine bi h fun r_15 h hr_15 => ?_
  refine tt ?_
  repeat (first | (with_reducible intro _) | refine ⟨ss, ?_⟩)
  refine cS (blocks_bit_ok hr_15) ?_
  cases h; exact fin
  refine bi h fun r_16 h hr_16 => ?_
  refine tt ?_
  repeat (first | (with_reducible intro _) | refine ⟨ss, ?_⟩)
  refine cD (blocks_of_ok hr_16) ?_
  refine by_ h F fun x_17 h hx_17 F => ?_
  refine bi h fun r_18 h hr_18 => ?_
  refine tt ?_
  repeat (first | (with_reducible intro _) | refine ⟨ss, ?_⟩)
  refine cD (ints_Wrap_ok hr_18) ?_
  cases h; exact fin
  refine fi h F (fun h _ F => ?_) (fun h _ F => ?_)
  refine tt ?_
  repeat (first | (with_reducible intro _) | refine ⟨ss, ?_⟩)
  refine iS Try.func99 ?_
  simp only [Try.f99]
  refine tt ?_
  repeat (first | (with_reducible intro _) | refine ⟨ss, ?_⟩)
  refine fi h F (fun h _ F => ?_) (fun h _ F => ?_)
  cases h; exact fin
  refine fi h F (fun h _ F => ?_) (fun h _ F => ?_)
  cases h; exact fin
  refine tt ?_
  refine fi h F (fun h _ F => ?_) (fun h _ F => ?_)
  refine bi h fun r_19 h hr_19 => ?_
  refine tt ?_
  repeat (first | (with_reducible intro _) | refine ⟨ss, ?_⟩)
  refine cD (blocks_bit_ok hr_19) ?_
  refine bi h fun r_20 h hr_20 => ?_
  refine tt ?_
  repeat (first | (with_reducible intro _) | refine ⟨ss, ?_⟩)
  refine cD (blocks_bit_ok hr_20) ?_
  refine bi h fun r_21 h hr_21 => ?_
  refine tt ?_
  repeat (first | (with_reducible intro _) | refine ⟨ss, ?_⟩)
  refine cD (blocks_of_ok hr_21) ?_
  refine bx h F fun x_22 h hx_22 F => ?_
  refine bi h fun r_23 h hr_23 => ?_
  refine tt ?_
  repeat (first | (with_reducible intro _) | refine ⟨ss, ?_⟩)
  refine cD (ints_Wrap_ok hr_23) ?_
  refine tt ?_
  repeat (first | (with_reducible intro _) | refine ⟨ss, ?_⟩)
  refine fe h F (fun h _ F => ?_) (fun h _ F => ?_)
  cases h; exact fin
  refine tt ?_
  repeat (first | (with_reducible intro _) | refine ⟨ss, ?_⟩)
  refine fe h F (fun h _ F => ?_) (fun h _ F => ?_)
  cases h; exact fin
  refine tt ?_
  repeat (first | (with_reducible intro _) | refine ⟨ss, ?_⟩)
  refine fe h F (fun h _ F => ?_) (fun h _ F => ?_)
  cases h; exact fin
  cases h
  refine fi h F (fun h _ F => ?_) (fun h _ F => ?_)
  refine bi h fun r_24 h hr_24 => ?_
  refine tt ?_
  repeat (first | (with_reducible intro _) | refine ⟨ss, ?_⟩)
  refine cS (blocks_bit_ok hr_24) ?_
  cases h; exact fin
  refine bi h fun r_25 h hr_25 => ?_
  refine tt ?_
  repeat (first | (with_reducible intro _) | refine ⟨ss, ?_⟩)
  refine cD (blocks_of_ok hr_25) ?_
  refine by_ h F fun x_26 h hx_26 F => ?_
  refine bi h fun r_27 h hr_27 => ?_
  refine tt ?_
  repeat (first | (with_reducible intro _) | refine ⟨ss, ?_⟩)
  refine cD (ints_Wrap_ok hr_27) ?_
  cases h; exact fin
  refine fi h F (fun h _ F => ?_) (fun h _ F => ?_)
  refine tt ?_
  repeat (first | (with_reducible intro _) | refine ⟨ss, ?_⟩)
  refine iS Try.func99 ?_
  simp only [Try.f99]
  refine tt ?_
  repeat (first | (with_reducible intro _) | refine ⟨ss, ?_⟩)
  refine fi h F (fun h _ F => ?_) (fun h _ F => ?_)
  cases h; exact fin
  refine fi h F (fun h _ F => ?_) (fun h _ F => ?_)
  cases h; exact fin
  refine tt ?_
  refine fi h F (fun h _ F => ?_) (fun h _ F => ?_)
  refine bi h fun r_28 h hr_28 => ?_
  refine tt ?_
  repeat (first | (with_reducible intro _) | refine ⟨ss, ?_⟩)
  refine cD (blocks_bit_ok hr_28) ?_
  refine bi h fun r_29 h hr_29 => ?_
  refine tt ?_
  repeat (first | (with_reducible intro _) | refine ⟨ss, ?_⟩)
  refine cD (blocks_bit_ok hr_29) ?_
  refine bi h fun r_30 h hr_30 => ?_
  refine tt ?_
  repeat (first | (with_reducible intro _) | refine ⟨ss, ?_⟩)
  refine cD (blocks_of_ok hr_30) ?_
  refine bx h F fun x_31 h hx_31 F => ?_
  refine bi h fun r_32 h hr_32 => ?_
  refine tt ?_
  repeat (first | (with_reducible intro _) | refine ⟨ss, ?_⟩)
  refine cD (ints_Wrap_ok hr_32) ?_
  refine tt ?_
  repeat (first | (with_reducible intro _) | refine ⟨ss, ?_⟩)
  refine fe h F (fun h _ F => ?_) (fun h _ F => ?_)
  cases h; exact fin
  refine tt ?_
  repeat (first | (with_reducible intro _) | refine ⟨ss, ?_⟩)
  refine fe h F (fun h _ F => ?_) (fun h _ F => ?_)
  cases h; exact fin
  refine tt ?_
  repeat (first | (with_reducible intro _) | refine ⟨ss, ?_⟩)
  refine fe h F (fun h _ F => ?_) (fun h _ F => ?_)
  cases h; exact fin
  cases h
  refine fi h F (fun h _ F => ?_) (fun h _ F => ?_)
  refine bi h fun r_33 h hr_33 => ?_
  refine tt ?_
  repeat (first | (with_reducible intro _) | refine ⟨ss, ?_⟩)
  refine cS (blocks_bit_ok hr_33) ?_
  cases h; exact fin
  refine bi h fun r_34 h hr_34 => ?_
  refine tt ?_
  repeat (first | (with_reducible intro _) | refine ⟨ss, ?_⟩)
  refine cD (blocks_of_ok hr_34) ?_
  refine by_ h F fun x_35 h hx_35 F => ?_
  refine bi h fun r_36 h hr_36 => ?_
  refine tt ?_
  repeat (first | (with_reducible intro _) | refine ⟨ss, ?_⟩)
  refine cD (ints_Wrap_ok hr_36) ?_
  cases h; exact fin
  refine tt ?_
  refine fi h F (fun h _ F => ?_) (fun h _ F => ?_)
  refine tt ?_
  repeat (first | (with_reducible intro _) | refine ⟨ss, ?_⟩)
  refine iS Try.func99 ?_
  simp only [Try.f99]
  refine tt ?_
  repeat (first | (with_reducible intro _) | refine ⟨ss, ?_⟩)
  refine fi h F (fun h _ F => ?_) (fun h _ F => ?_)
  cases h; exact fin
  refine fi h F (fun h _ F => ?_) (fun h _ F => ?_)
  cases h; exact fin
  refine tt ?_
  refine fi h F (fun h _ F => ?_) (fun h _ F => ?_)
  refine bi h fun r_37 h hr_37 => ?_
  refine tt ?_
  repeat (first | (with_reducible intro _) | refine ⟨ss, ?_⟩)
  refine cD (blocks_bit_ok hr_37) ?_
  refine bi h fun r_38 h hr_38 => ?_
  refine tt ?_
  repeat (first | (with_reducible intro _) | refine ⟨ss, ?_⟩)
  refine cD (blocks_bit_ok hr_38) ?_
  refine bi h fun r_39 h hr_39 => ?_
  refine tt ?_
  repeat (first | (with_reducible intro _) | refine ⟨ss, ?_⟩)
  refine cD (blocks_of_ok hr_39) ?_
  refine bx h F fun x_40 h hx_40 F => ?_
  refine bi h fun r_41 h hr_41 => ?_
  refine tt ?_
  repeat (first | (with_reducible intro _) | refine ⟨ss, ?_⟩)
  refine cD (ints_Wrap_ok hr_41) ?_
  refine tt ?_
  repeat (first | (with_reducible intro _) | refine ⟨ss, ?_⟩)
  refine fe h F (fun h _ F => ?_) (fun h _ F => ?_)
  cases h; exact fin
  refine tt ?_
  repeat (first | (with_reducible intro _) | refine ⟨ss, ?_⟩)
  refine fe h F (fun h _ F => ?_) (fun h _ F => ?_)
  cases h; exact fin
  refine tt ?_
  repeat (first | (with_reducible intro _) | refine ⟨ss, ?_⟩)
  refine fe h F (fun h _ F => ?_) (fun h _ F => ?_)
  cases h; exact fin
  cases h
  refine fi h F (fun h _ F => ?_) (fun h _ F => ?_)
  refine bi h fun r_42 h hr_42 => ?_
  refine tt ?_
  repeat (first | (with_reducible intro _) | refine ⟨ss, ?_⟩)
  refine cS (blocks_bit_ok hr_42) ?_
  cases h; exact fin
  refine bi h fun r_43 h hr_43 => ?_
  refine tt ?_
  repeat (first | (with_reducible intro _) | refine ⟨ss, ?_⟩)
  refine cD (blocks_of_ok hr_43) ?_
  refine by_ h F fun x_44 h hx_44 F => ?_
  refine bi h fun r_45 h hr_45 => ?_
  refine tt ?_
  repeat (first | (with_reducible intro _) | refine ⟨ss, ?_⟩)
  refine cD (ints_Wrap_ok hr_45) ?_
  cases h; exact fin
  refine fi h F (fun h _ F => ?_) (fun h _ F => ?_)
  refine tt ?_
  repeat (first | (with_reducible intro _) | refine ⟨ss, ?_⟩)
  refine fi h F (fun h _ F => ?_) (fun h _ F => ?_)
  cases h; exact fin
  refine fi h F (fun h _ F => ?_) (fun h _ F => ?_)
  cases h; exact fin
  refine bi h fun r_46 h hr_46 => ?_
  refine tt ?_
  repeat (first | (with_reducible intro _) | refine ⟨ss, ?_⟩)
  refine cD (blocks_bit_ok hr_46) ?_
  refine bi h fun r_47 h hr_47 => ?_
  refine tt ?_
  repeat (first | (with_reducible intro _) | refine ⟨ss, ?_⟩)
  refine cD (blocks_bit_ok hr_47) ?_
  refine bi h fun r_48 h hr_48 => ?_
  refine tt ?_
  repeat (first | (with_reducible intro _) | refine ⟨ss, ?_⟩)
  refine cD (blocks_of_ok hr_48) ?_
  refine bx h F fun x_49 h hx_49 F => ?_
  refine bi h fun r_50 h hr_50 => ?_
  refine tt ?_
  repeat (first | (with_reducible intro _) | refine ⟨ss, ?_⟩)
  refine cD (ints_Wrap_ok hr_50) ?_
  refine tt ?_
  repeat (first | (with_reducible intro _) | refine ⟨ss, ?_⟩)
  refine fe h F (fun h _ F => ?_) (fun h _ F => ?_)
  cases h; exact fin
  refine tt ?_
  repeat (first | (with_reducible intro _) | refine ⟨ss, ?_⟩)
  refine fe h F (fun h _ F => ?_) (fun h _ F => ?_)
  cases h; exact fin
  refine tt ?_
  repeat (first | (with_reducible intro _) | refine ⟨ss, ?_⟩)
  refine fe h F (fun h _ F => ?_) (fun h _ F => ?_)
  cases h; exact fin
  cases h
  refine fi h F (fun h _ F => ?_) (fun h _ F => ?_)
  refine tt ?_
  repeat (first | (with_reducible intro _) | refine ⟨ss, ?_⟩)
  refine iS Try.func99 ?_
  simp only [Try.f99]
  refine tt ?_
  repeat (first | (with_reducible intro _) | refine ⟨ss, ?_⟩)
  refine fi h F (fun h _ F => ?_) (fun h _ F => ?_)
  cases h; exact fin
  refine fi h F (fun h _ F => ?_) (fun h _ F => ?_)
  cases h; exact fin
  refine tt ?_
  refine fi h F (fun h _ F => ?_) (fun h _ F => ?_)
  refine bi h fun r_51 h hr_51 => ?_
  refine tt ?_
  repeat (first | (with_reducible intro _) | refine ⟨ss, ?_⟩)
  refine cS (blocks_bit_ok hr_51) ?_
  cases h; exact fin
  refine bi h fun r_52 h hr_52 => ?_
  refine tt ?_
  repeat (first | (with_reducible intro _) | refine ⟨ss, ?_⟩)
  refine cD (blocks_of_ok hr_52) ?_
  refine by_ h F fun x_53 h hx_53 F => ?_
  refine bi h fun r_54 h hr_54 => ?_
  refine tt ?_
  repeat (first | (with_reducible intro _) | refine ⟨ss, ?_⟩)
  refine cD (ints_Wrap_ok hr_54) ?_
  cases h; exact fin
  refine fi h F (fun h _ F => ?_) (fun h _ F => ?_)
  refine tt ?_
  repeat (first | (with_reducible intro _) | refine ⟨ss, ?_⟩)
  refine iS Try.func99 ?_
  simp only [Try.f99]
  refine tt ?_
  repeat (first | (with_reducible intro _) | refine ⟨ss, ?_⟩)
  refine fi h F (fun h _ F => ?_) (fun h _ F => ?_)
  cases h; exact fin
  refine fi h F (fun h _ F => ?_) (fun h _ F => ?_)
  cases h; exact fin
  refine tt ?_
  refine fi h F (fun h _ F => ?_) (fun h _ F => ?_)
  refine bi h fun r_55 h hr_55 => ?_
  refine tt ?_
  repeat (first | (with_reducible intro _) | refine ⟨ss, ?_⟩)
  refine cS (blocks_bit_ok hr_55) ?_
  cases h; exact fin
  refine bi h fun r_56 h hr_56 => ?_
  refine tt ?_
  repeat (first | (with_reducible intro _) | refine ⟨ss, ?_⟩)
  refine cD (blocks_of_ok hr_56) ?_
  refine by_ h F fun x_57 h hx_57 F => ?_
  refine bi h fun r_58 h hr_58 => ?_
  refine tt ?_
  repeat (first | (with_reducible intro _) | refine ⟨ss, ?_⟩)
  refine cD (ints_Wrap_ok hr_58) ?_
  cases h; exact fin
  refine tt ?_
  refine fi h F (fun h _ F => ?_) (fun h _ F => ?_)
  refine tt ?_
  repeat (first | (with_reducible intro _) | refine ⟨ss, ?_⟩)
  refine iS Try.func99 ?_
  simp only [Try.f99]
  refine tt ?_
  repeat (first | (with_reducible intro _) | refine ⟨ss, ?_⟩)
  refine fi h F (fun h _ F => ?_) (fun h _ F => ?_)
  cases h; exact fin
  refine fi h F (fun h _ F => ?_) (fun h _ F => ?_)
  cases h; exact fin
  refine tt ?_
  refine fi h F (fun h _ F => ?_) (fun h _ F => ?_)
  refine bi h fun r_59 h hr_59 => ?_
  refine tt ?_
  repeat (first | (with_reducible intro _) | refine ⟨ss, ?_⟩)
  refine cS (blocks_bit_ok hr_59) ?_
  cases h; exact fin
  refine bi h fun r_60 h hr_60 => ?_
  refine tt ?_
  repeat (first | (with_reducible intro _) | refine ⟨ss, ?_⟩)
  refine cD (blocks_of_ok hr_60) ?_
  refine by_ h F fun x_61 h hx_61 F => ?_
  refine bi h fun r_62 h hr_62 => ?_
  refine tt ?_
  repeat (first | (with_reducible intro _) | refine ⟨ss, ?_⟩)
  refine cD (ints_Wrap_ok hr_62) ?_
  cases h; exact fin
  refine fi h F (fun h _ F => ?_) (fun h _ F => ?_)
  refine tt ?_
  repeat (first | (with_reducible intro _) | refine ⟨ss, ?_⟩)
  refine iS Try.func99 ?_
  simp only [Try.f99]
  refine tt ?_
  repeat (first | (with_reducible intro _) | refine ⟨ss, ?_⟩)
  refine fi h F (fun h _ F => ?_) (fun h _ F => ?_)
  cases h; exact fin
  refine fi h F (fun h _ F => ?_) (fun h _ F => ?_)
  cases h; exact fin
  refine tt ?_
  refine fi h F (fun h _ F => ?_) (fun h _ F => ?_)
  refine bi h fun r_63 h hr_63 => ?_
  refine tt ?_
  repeat (first | (with_reducible intro _) | refine ⟨ss, ?_⟩)
  refine cS (blocks_bit_ok hr_63) ?_
  cases h; exact fin
  refine bi h fun r_64 h hr_64 => ?_
  refine tt ?_
  repeat (first | (with_reducible intro _) | refine ⟨ss, ?_⟩)
  refine cD (blocks_of_ok hr_64) ?_
  refine by_ h F fun x_65 h hx_65 F => ?_
  refine bi h fun r_66 h hr_66 => ?_
  refine tt ?_
  repeat (first | (with_reducible intro _) | refine ⟨ss, ?_⟩)
  refine cD (ints_Wrap_ok hr_66) ?_
  cases h; exact fin
  refine tt ?_
  repeat (first | (with_reducible intro _) | refine ⟨ss, ?_⟩)
  refine fi h F (fun h _ F => ?_) (fun h _ F => ?_)
  cases h; exact fin
  refine fi h F (fun h _ F => ?_) (fun h _ F => ?_)
  cases h; exact fin
  exact (by omega : False).elim
theorem blocks_Step_ok {name : Str} {s : A4 Int} {in_ : List Int} {now : Int} {r : A4 Int} (h : blocks_Step name s in_ now = some r) :
    Pu Try.prog 58 [.one (.str name), .agg ((eA4 eI) s), .one (.sl (in_.map eI)), .one (.int .i64 now)] (.agg ((eA4 eI) r)) := by
  have F := trivial; have R := trivial
  refine pA Try.func58 ?_
  simp only [Try.f58]
  unfold blocks_Step at h
  refine tt ?_
  repeat (first | (with_reducible intro _) | refine ⟨ss, ?_⟩)
  refine iS Try.func80 ?_
  simp only [Try.f80]
  refine tt ?_
  repeat (first | (with_reducible intro _) | refine ⟨ss, ?_⟩)
  refine fi h F (fun h _ F => ?_) (fun h _ F => ?_)
  refine tt ?_
  repeat (first | (with_reducible intro _) | refine ⟨ss, ?_⟩)
  refine iS Try.func99 ?_
  simp only [Try.f99]
  refine tt ?_
  repeat (first | (with_reducible intro _) | refine ⟨ss, ?_⟩)
  refine fi h F (fun h _ F => ?_) (fun h _ F => ?_)
  refine nd h F fun h F => ?_
  have R := And.intro (show List.replicate in_.length [.int .i64 0] = List.map eI (List.replicate in_.length 0) by simp [go_sem]) R
  refine bi h fun e_4 h he_4 => ?_
  refine tt ?_
  repeat (first | (with_reducible intro _) | refine ⟨ss, ?_⟩)
  refine lE (fun (s__ : (List Int) × Nat) (a__ : Unit) => match s__, a__ with | (l_2, x_3), _ => ⟨[(3, .one (.int .i64 now)), (5, .one (.ref 0 0 0 0)), (8, .one (.ref 1 0 0 0)), (9, .one (.ref 9 0 0 0)), (10, .one (.msl 10 0 0 l_2.length)), (30, .one (.sl (in_.map eI))), (31, .one (.int .i64 (in_.length : Int))), (32, .one (.int .i64 (x_3 : Int)))], [.cells 0 4 [[.int .i64 s.a0, .int .i64 s.a1, .int .i64 s.a2, .int .i64 s.a3]], .cells 0 4 [[.int .i64 0, .int .i64 0, .int .i64 0, .int .i64 0]], .cells 0 3 [[.slf ([1, 4].map eI), .slf ([1, 4].map eI), .fn 100 []]], .cells 0 3 [[.slf ([1, 4].map eI), .slf ([1, 4].map eI), .nilfn]], .cells 0 3 [[.slf ([1, 1, 2].map eI), .slf ([1, 2].map eI), .nilfn]], .cells 0 3 [[.slf ([1].map eI), .slf ([1].map eI), .nilfn]], .cells 0 3 [[.slf ([1, 1].map eI), .slf ([1].map eI), .nilfn]], .cells 0 3 [[.slf ([1, 4].map eI), .slf ([1, 4].map eI), .fn 100 []]], .cells 0 3 [[.slf ([1, 4].map eI), .slf ([1, 4].map eI), .fn 100 []]], .cells 0 3 [[.slf ([1, 4].map eI), .slf ([1, 4].map eI), .fn 100 []]], .cells 0 1 (l_2.map eI)]⟩) (fun (e__ : List Int) (b__ : Unit) => match e__, b__ with | e_4, _ => ⟨[(3, .one (.int .i64 now)), (5, .one (.ref 0 0 0 0)), (8, .one (.ref 1 0 0 0)), (9, .one (.ref 9 0 0 0)), (10, .one (.msl 10 0 0 e_4.length))], [.cells 0 4 [[.int .i64 s.a0, .int .i64 s.a1, .int .i64 s.a2, .int .i64 s.a3]], .cells 0 4 [[.int .i64 0, .int .i64 0, .int .i64 0, .int .i64 0]], .cells 0 3 [[.slf ([1, 4].map eI), .slf ([1, 4].map eI), .fn 100 []]], .cells 0 3 [[.slf ([1, 4].map eI), .slf ([1, 4].map eI), .nilfn]], .cells 0 3 [[.slf ([1, 1, 2].map eI), .slf ([1, 2].map eI), .nilfn]], .cells 0 3 [[.slf ([1].map eI), .slf ([1].map eI), .nilfn]], .cells 0 3 [[.slf ([1, 1].map eI), .slf ([1].map eI), .nilfn]], .cells 0 3 [[.slf ([1, 4].map eI), .slf ([1, 4].map eI), .fn 100 []]], .cells 0 3 [[.slf ([1, 4].map eI), .slf ([1, 4].map eI), .fn 100 []]], .cells 0 3 [[.slf ([1, 4].map eI), .slf ([1, 4].map eI), .fn 100 []]], .cells 0 1 (e_4.map eI)]⟩) (fun (_ : List Int) => some 0) () he_4 ?_ ?_
  intro i5 b5 hi5
  obtain rfl := Option.some.inj hi5
  obtain ⟨⟩ := b5
  dsimp only at h ⊢
  refine bi h fun r_11 h hr_11 => ?_
  refine tt ?_
  repeat (first | (with_reducible intro _) | refine ⟨ss, ?_⟩)
  refine cF [10] (blocks_ton_ok hr_11) ?_
  cases h; exact fin
  intro af5 m5 s5 a5 o5 hf5 ho5 ih5
  obtain ⟨l_2, x_3⟩ := s5
  obtain ⟨⟩ := a5
  dsimp only [blocks_Step_L1] at hf5 ⊢
  refine fl hf5 F (fun hf5 _ F => ?_) (fun hf5 _ F => ?_)
  refine bx hf5 F fun x_6 hf5 hx_6 F => ?_
  refine bx hf5 F fun x_7 hf5 hx_7 F => ?_
  refine ln F fun F => ?_
  have R := And.intro (show ([[.int .i64 1], [.int .i64 4]] : List (List C))[x_3]? = some [.int .i64 x_7] from q_map (f := eI) hx_7) R
  refine bi hf5 fun r_8 hf5 hr_8 => ?_
  refine tt ?_
  repeat (first | (with_reducible intro _) | refine ⟨ss, ?_⟩)
  refine cS (ints_Wrap_ok hr_8) ?_
  refine bx hf5 F fun x_9 hf5 hx_9 F => ?_
  have R := And.intro (show (List.map eI l_2).set x_3 [.int .i64 r_8] = List.map eI (l_2.set x_3 r_8) by simp [go_sem, List.map_set]) R
  cases hf5
  refine tt ?_
  repeat (first | (with_reducible intro _) | refine ⟨ss, ?_⟩)
  refine wn x_3 F fun F => ?_
  exact bk ih5 ho5 ()
  cases hf5
  refine tt ?_
  exact xt ho5 af5 ()
  cases h; exact fin
  refine fi h F (fun h _ F => ?_) (fun h _ F => ?_)
  refine tt ?_
  repeat (first | (with_reducible intro _) | refine ⟨ss, ?_⟩)
  refine iS Try.func99 ?_
  simp only [Try.f99]
  refine tt ?_
  repeat (first | (with_reducible intro _) | refine ⟨ss, ?_⟩)
  refine fi h F (fun h _ F => ?_) (fun h _ F => ?_)
  refine nd h F fun h F => ?_
  have R := And.intro (show List.replicate in_.length [.int .i64 0] = List.map eI (List.replicate in_.length 0) by simp [go_sem]) R
  refine bi h fun e_15 h he_15 => ?_
  refine tt ?_
  repeat (first | (with_reducible intro _) | refine ⟨ss, ?_⟩)
  refine lE (fun (s__ : (List Int) × Nat) (a__ : Unit) => match s__, a__ with | (l_13, x_14), _ => ⟨[(3, .one (.int .i64 now)), (5, .one (.ref 0 0 0 0)), (8, .one (.ref 1 0 0 0)), (9, .one (.ref 9 0 0 0)), (10, .one (.msl 10 0 0 l_13.length)), (30, .one (.sl (in_.map eI))), (31, .one (.int .i64 (in_.length : Int))), (32, .one (.int .i64 (x_14 : Int)))], [.cells 0 4 [[.int .i64 s.a0, .int .i64 s.a1, .int .i64 s.a2, .int .i64 s.a3]], .cells 0 4 [[.int .i64 0, .int .i64 0, .int .i64 0, .int .i64 0]], .cells 0 3 [[.slf ([1, 4].map eI), .slf ([1, 4].map eI), .fn 101 []]], .cells 0 3 [[.slf ([1, 4].map eI), .slf ([1, 4].map eI), .nilfn]], .cells 0 3 [[.slf ([1, 1, 2].map eI), .slf ([1, 2].map eI), .nilfn]], .cells 0 3 [[.slf ([1].map eI), .slf ([1].map eI), .nilfn]], .cells 0 3 [[.slf ([1, 1].map eI), .slf ([1].map eI), .nilfn]], .cells 0 3 [[.slf ([1, 4].map eI), .slf ([1, 4].map eI), .fn 101 []]], .cells 0 3 [[.slf ([1, 4].map eI), .slf ([1, 4].map eI), .fn 101 []]], .cells 0 3 [[.slf ([1, 4].map eI), .slf ([1, 4].map eI), .fn 101 []]], .cells 0 1 (l_13.map eI)]⟩) (fun (e__ : List Int) (b__ : Unit) => match e__, b__ with | e_15, _ => ⟨[(3, .one (.int .i64 now)), (5, .one (.ref 0 0 0 0)), (8, .one (.ref 1 0 0 0)), (9, .one (.ref 9 0 0 0)), (10, .one (.msl 10 0 0 e_15.length))], [.cells 0 4 [[.int .i64 s.a0, .int .i64 s.a1, .int .i64 s.a2, .int .i64 s.a3]], .cells 0 4 [[.int .i64 0, .int .i64 0, .int .i64 0, .int .i64 0]], .cells 0 3 [[.slf ([1, 4].map eI), .slf ([1, 4].map eI), .fn 101 []]], .cells 0 3 [[.slf ([1, 4].map eI), .slf ([1, 4].map eI), .nilfn]], .cells 0 3 [[.slf ([1, 1, 2].map eI), .slf ([1, 2].map eI), .nilfn]], .cells 0 3 [[.slf ([1].map eI), .slf ([1].map eI), .nilfn]], .cells 0 3 [[.slf ([1, 1].map eI), .slf ([1].map eI), .nilfn]], .cells 0 3 [[.slf ([1, 4].map eI), .slf ([1, 4].map eI), .fn 101 []]], .cells 0 3 [[.slf ([1, 4].map eI), .slf ([1, 4].map eI), .fn 101 []]], .cells 0 3 [[.slf ([1, 4].map eI), .slf ([1, 4].map eI), .fn 101 []]], .cells 0 1 (e_15.map eI)]⟩) (fun (_ : List Int) => some 0) () he_15 ?_ ?_
  intro i16 b16 hi16
  obtain rfl := Option.some.inj hi16
  obtain ⟨⟩ := b16
  dsimp only at h ⊢
  refine bi h fun r_22 h hr_22 => ?_
  refine tt ?_
  repeat (first | (with_reducible intro _) | refine ⟨ss, ?_⟩)
  refine cF [10] (blocks_tof_ok hr_22) ?_
  cases h; exact fin
  intro af16 m16 s16 a16 o16 hf16 ho16 ih16
  obtain ⟨l_13, x_14⟩ := s16
  obtain ⟨⟩ := a16
  dsimp only [blocks_Step_L2] at hf16 ⊢
  refine fl hf16 F (fun hf16 _ F => ?_) (fun hf16 _ F => ?_)
  refine bx hf16 F fun x_17 hf16 hx_17 F => ?_
  refine bx hf16 F fun x_18 hf16 hx_18 F => ?_
  refine ln F fun F => ?_
  have R := And.intro (show ([[.int .i64 1], [.int .i64 4]] : List (List C))[x_14]? = some [.int .i64 x_18] from q_map (f := eI) hx_18) R
  refine bi hf16 fun r_19 hf16 hr_19 => ?_
  refine tt ?_
  repeat (first | (with_reducible intro _) | refine ⟨ss, ?_⟩)
  refine cS (ints_Wrap_ok hr_19) ?_
  refine bx hf16 F fun x_20 hf16 hx_20 F => ?_
  have R := And.intro (show (List.map eI l_13).set x_14 [.int .i64 r_19] = List.map eI (l_13.set x_14 r_19) by simp [go_sem, List.map_set]) R
  cases hf16
  refine tt ?_
  repeat (first | (with_reducible intro _) | refine ⟨ss, ?_⟩)
  refine wn x_14 F fun F => ?_
  exact bk ih16 ho16 ()
  cases hf16
  refine tt ?_
  exact xt ho16 af16 ()
  cases h; exact fin
  refine fi h F (fun h _ F => ?_) (fun h _ F => ?_)
  refine tt ?_
  repeat (first | (with_reducible intro _) | refine ⟨ss, ?_⟩)
  refine iS Try.func99 ?_
  simp only [Try.f99]
  refine tt ?_
  repeat (first | (with_reducible intro _) | refine ⟨ss, ?_⟩)
  refine fi h F (fun h _ F => ?_) (fun h _ F => ?_)
  refine nd h F fun h F => ?_
  have R := And.intro (show List.replicate in_.length [.int .i64 0] = List.map eI (List.replicate in_.length 0) by simp [go_sem]) R
  refine bi h fun e_26 h he_26 => ?_
  refine tt ?_
  repeat (first | (with_reducible intro _) | refine ⟨ss, ?_⟩)
  refine lE (fun (s__ : (List Int) × Nat) (a__ : Unit) => match s__, a__ with | (l_24, x_25), _ => ⟨[(3, .one (.int .i64 now)), (5, .one (.ref 0 0 0 0)), (8, .one (.ref 1 0 0 0)), (9, .one (.ref 9 0 0 0)), (10, .one (.msl 10 0 0 l_24.length)), (30, .one (.sl (in_.map eI))), (31, .one (.int .i64 (in_.length : Int))), (32, .one (.int .i64 (x_25 : Int)))], [.cells 0 4 [[.int .i64 s.a0, .int .i64 s.a1, .int .i64 s.a2, .int .i64 s.a3]], .cells 0 4 [[.int .i64 0, .int .i64 0, .int .i64 0, .int .i64 0]], .cells 0 3 [[.slf ([1, 4].map eI), .slf ([1, 4].map eI), .fn 102 []]], .cells 0 3 [[.slf ([1, 4].map eI), .slf ([1, 4].map eI), .nilfn]], .cells 0 3 [[.slf ([1, 1, 2].map eI), .slf ([1, 2].map eI), .nilfn]], .cells 0 3 [[.slf ([1].map eI), .slf ([1].map eI), .nilfn]], .cells 0 3 [[.slf ([1, 1].map eI), .slf ([1].map eI), .nilfn]], .cells 0 3 [[.slf ([1, 4].map eI), .slf ([1, 4].map eI), .fn 102 []]], .cells 0 3 [[.slf ([1, 4].map eI), .slf ([1, 4].map eI), .fn 102 []]], .cells 0 3 [[.slf ([1, 4].map eI), .slf ([1, 4].map eI), .fn 102 []]], .cells 0 1 (l_24.map eI)]⟩) (fun (e__ : List Int) (b__ : Unit) => match e__, b__ with | e_26, _ => ⟨[(3, .one (.int .i64 now)), (5, .one (.ref 0 0 0 0)), (8, .one (.ref 1 0 0 0)), (9, .one (.ref 9 0 0 0)), (10, .one (.msl 10 0 0 e_26.length))], [.cells 0 4 [[.int .i64 s.a0, .int .i64 s.a1, .int .i64 s.a2, .int .i64 s.a3]], .cells 0 4 [[.int .i64 0, .int .i64 0, .int .i64 0, .int .i64 0]], .cells 0 3 [[.slf ([1, 4].map eI), .slf ([1, 4].map eI), .fn 102 []]], .cells 0 3 [[.slf ([1, 4].map eI), .slf ([1, 4].map eI), .nilfn]], .cells 0 3 [[.slf ([1, 1, 2].map eI), .slf ([1, 2].map eI), .nilfn]], .cells 0 3 [[.slf ([1].map eI), .slf ([1].map eI), .nilfn]], .cells 0 3 [[.slf ([1, 1].map eI), .slf ([1].map eI), .nilfn]], .cells 0 3 [[.slf ([1, 4].map eI), .slf ([1, 4].map eI), .fn 102 []]], .cells 0 3 [[.slf ([1, 4].map eI), .slf ([1, 4].map eI), .fn 102 []]], .cells 0 3 [[.slf ([1, 4].map eI), .slf ([1, 4].map eI), .fn 102 []]], .cells 0 1 (e_26.map eI)]⟩) (fun (_ : List Int) => some 0) () he_26 ?_ ?_
  intro i27 b27 hi27
  obtain rfl := Option.some.inj hi27
  obtain ⟨⟩ := b27
  dsimp only at h ⊢
  cases h
  intro af27 m27 s27 a27 o27 hf27 ho27 ih27
  obtain ⟨l_24, x_25⟩ := s27
  obtain ⟨⟩ := a27
  dsimp only [blocks_Step_L3] at hf27 ⊢
  refine fl hf27 F (fun hf27 _ F => ?_) (fun hf27 _ F => ?_)
  refine bx hf27 F fun x_28 hf27 hx_28 F => ?_
  refine bx hf27 F fun x_29 hf27 hx_29 F => ?_
  refine ln F fun F => ?_
  have R := And.intro (show ([[.int .i64 1], [.int .i64 4]] : List (List C))[x_25]? = some [.int .i64 x_29] from q_map (f := eI) hx_29) R
  refine bi hf27 fun r_30 hf27 hr_30 => ?_
  refine tt ?_
  repeat (first | (with_reducible intro _) | refine ⟨ss, ?_⟩)
  refine cS (ints_Wrap_ok hr_30) ?_
  refine bx hf27 F fun x_31 hf27 hx_31 F => ?_
  have R := And.intro (show (List.map eI l_24).set x_25 [.int .i64 r_30] = List.map eI (l_24.set x_25 r_30) by simp [go_sem, List.map_set]) R
  cases hf27
  refine tt ?_
  repeat (first | (with_reducible intro _) | refine ⟨ss, ?_⟩)
  refine wn x_25 F fun F => ?_
  exact bk ih27 ho27 ()
  cases hf27
  refine tt ?_
  exact xt ho27 af27 ()
  cases h; exact fin
  refine fi h F (fun h _ F => ?_) (fun h _ F => ?_)
  refine tt ?_
  repeat (first | (with_reducible intro _) | refine ⟨ss, ?_⟩)
  refine iS Try.func99 ?_
  simp only [Try.f99]
  refine tt ?_
  repeat (first | (with_reducible intro _) | refine ⟨ss, ?_⟩)
  refine fi h F (fun h _ F => ?_) (fun h _ F => ?_)
  refine nd h F fun h F => ?_
  have R := And.intro (show List.replicate in_.length [.int .i64 0] = List.map eI (List.replicate in_.length 0) by simp [go_sem]) R
  refine bi h fun e_36 h he_36 => ?_
  refine tt ?_
  repeat (first | (with_reducible intro _) | refine ⟨ss, ?_⟩)
  refine lE (fun (s__ : (List Int) × Nat) (a__ : Unit) => match s__, a__ with | (l_34, x_35), _ => ⟨[(3, .one (.int .i64 now)), (5, .one (.ref 0 0 0 0)), (8, .one (.ref 1 0 0 0)), (9, .one (.ref 9 0 0 0)), (10, .one (.msl 10 0 0 l_34.length)), (30, .one (.sl (in_.map eI))), (31, .one (.int .i64 (in_.length : Int))), (32, .one (.int .i64 (x_35 : Int)))], [.cells 0 4 [[.int .i64 s.a0, .int .i64 s.a1, .int .i64 s.a2, .int .i64 s.a3]], .cells 0 4 [[.int .i64 0, .int .i64 0, .int .i64 0, .int .i64 0]], .cells 0 3 [[.slf ([1, 1, 2].map eI), .slf ([1, 2].map eI), .fn 103 []]], .cells 0 3 [[.slf ([1, 4].map eI), .slf ([1, 4].map eI), .nilfn]], .cells 0 3 [[.slf ([1, 1, 2].map eI), .slf ([1, 2].map eI), .nilfn]], .cells 0 3 [[.slf ([1].map eI), .slf ([1].map eI), .nilfn]], .cells 0 3 [[.slf ([1, 1].map eI), .slf ([1].map eI), .nilfn]], .cells 0 3 [[.slf ([1, 1, 2].map eI), .slf ([1, 2].map eI), .fn 103 []]], .cells 0 3 [[.slf ([1, 1, 2].map eI), .slf ([1, 2].map eI), .fn 103 []]], .cells 0 3 [[.slf ([1, 1, 2].map eI), .slf ([1, 2].map eI), .fn 103 []]], .cells 0 1 (l_34.map eI)]⟩) (fun (e__ : List Int) (b__ : Unit) => match e__, b__ with | e_36, _ => ⟨[(3, .one (.int .i64 now)), (5, .one (.ref 0 0 0 0)), (8, .one (.ref 1 0 0 0)), (9, .one (.ref 9 0 0 0)), (10, .one (.msl 10 0 0 e_36.length))], [.cells 0 4 [[.int .i64 s.a0, .int .i64 s.a1, .int .i64 s.a2, .int .i64 s.a3]], .cells 0 4 [[.int .i64 0, .int .i64 0, .int .i64 0, .int .i64 0]], .cells 0 3 [[.slf ([1, 1, 2].map eI), .slf ([1, 2].map eI), .fn 103 []]], .cells 0 3 [[.slf ([1, 4].map eI), .slf ([1, 4].map eI), .nilfn]], .cells 0 3 [[.slf ([1, 1, 2].map eI), .slf ([1, 2].map eI), .nilfn]], .cells 0 3 [[.slf ([1].map eI), .slf ([1].map eI), .nilfn]], .cells 0 3 [[.slf ([1, 1].map eI), .slf ([1].map eI), .nilfn]], .cells 0 3 [[.slf ([1, 1, 2].map eI), .slf ([1, 2].map eI), .fn 103 []]], .cells 0 3 [[.slf ([1, 1, 2].map eI), .slf ([1, 2].map eI), .fn 103 []]], .cells 0 3 [[.slf ([1, 1, 2].map eI), .slf ([1, 2].map eI), .fn 103 []]], .cells 0 1 (e_36.map eI)]⟩) (fun (_ : List Int) => some 0) () he_36 ?_ ?_
  intro i37 b37 hi37
  obtain rfl := Option.some.inj hi37
  obtain ⟨⟩ := b37
  dsimp only at h ⊢
  refine bi h fun r_43 h hr_43 => ?_
  refine tt ?_
  repeat (first | (with_reducible intro _) | refine ⟨ss, ?_⟩)
  refine cF [10] (blocks_ctu_ok hr_43) ?_
  cases h; exact fin
  intro af37 m37 s37 a37 o37 hf37 ho37 ih37
  obtain ⟨l_34, x_35⟩ := s37
  obtain ⟨⟩ := a37
  dsimp only [blocks_Step_L4] at hf37 ⊢
  refine fl hf37 F (fun hf37 _ F => ?_) (fun hf37 _ F => ?_)
  refine bx hf37 F fun x_38 hf37 hx_38 F => ?_
  refine bx hf37 F fun x_39 hf37 hx_39 F => ?_
  refine ln F fun F => ?_
  have R := And.intro (show ([[.int .i64 1], [.int .i64 1], [.int .i64 2]] : List (List C))[x_35]? = some [.int .i64 x_39] from q_map (f := eI) hx_39) R
  refine bi hf37 fun r_40 hf37 hr_40 => ?_
  refine tt ?_
  repeat (first | (with_reducible intro _) | refine ⟨ss, ?_⟩)
  refine cS (ints_Wrap_ok hr_40) ?_
  refine bx hf37 F fun x_41 hf37 hx_41 F => ?_
  have R := And.intro (show (List.map eI l_34).set x_35 [.int .i64 r_40] = List.map eI (l_34.set x_35 r_40) by simp [go_sem, List.map_set]) R
  cases hf37
  refine tt ?_
  repeat (first | (with_reducible intro _) | refine ⟨ss, ?_⟩)
  refine wn x_35 F fun F => ?_
  exact bk ih37 ho37 ()
  cases hf37
  refine tt ?_
  exact xt ho37 af37 ()
  cases h; exact fin
  refine tt ?_
  refine fi h F (fun h _ F => ?_) (fun h _ F => ?_)
  refine tt ?_
  repeat (first | (with_reducible intro _) | refine ⟨ss, ?_⟩)
  refine iS Try.func99 ?_
  simp only [Try.f99]
  refine tt ?_
  repeat (first | (with_reducible intro _) | refine ⟨ss, ?_⟩)
  refine fi h F (fun h _ F => ?_) (fun h _ F => ?_)
  refine nd h F fun h F => ?_
  have R := And.intro (show List.replicate in_.length [.int .i64 0] = List.map eI (List.replicate in_.length 0) by simp [go_sem]) R
  refine bi h fun e_47 h he_47 => ?_
  refine tt ?_
  repeat (first | (with_reducible intro _) | refine ⟨ss, ?_⟩)
  refine lE (fun (s__ : (List Int) × Nat) (a__ : Unit) => match s__, a__ with | (l_45, x_46), _ => ⟨[(3, .one (.int .i64 now)), (5, .one (.ref 0 0 0 0)), (8, .one (.ref 1 0 0 0)), (9, .one (.ref 9 0 0 0)), (10, .one (.msl 10 0 0 l_45.length)), (30, .one (.sl (in_.map eI))), (31, .one (.int .i64 (in_.length : Int))), (32, .one (.int .i64 (x_46 : Int)))], [.cells 0 4 [[.int .i64 s.a0, .int .i64 s.a1, .int .i64 s.a2, .int .i64 s.a3]], .cells 0 4 [[.int .i64 0, .int .i64 0, .int .i64 0, .int .i64 0]], .cells 0 3 [[.slf ([1, 1, 2].map eI), .slf ([1, 2].map eI), .fn 104 []]], .cells 0 3 [[.slf ([1, 4].map eI), .slf ([1, 4].map eI), .nilfn]], .cells 0 3 [[.slf ([1, 1, 2].map eI), .slf ([1, 2].map eI), .nilfn]], .cells 0 3 [[.slf ([1].map eI), .slf ([1].map eI), .nilfn]], .cells 0 3 [[.slf ([1, 1].map eI), .slf ([1].map eI), .nilfn]], .cells 0 3 [[.slf ([1, 1, 2].map eI), .slf ([1, 2].map eI), .fn 104 []]], .cells 0 3 [[.slf ([1, 1, 2].map eI), .slf ([1, 2].map eI), .fn 104 []]], .cells 0 3 [[.slf ([1, 1, 2].map eI), .slf ([1, 2].map eI), .fn 104 []]], .cells 0 1 (l_45.map eI)]⟩) (fun (e__ : List Int) (b__ : Unit) => match e__, b__ with | e_47, _ => ⟨[(3, .one (.int .i64 now)), (5, .one (.ref 0 0 0 0)), (8, .one (.ref 1 0 0 0)), (9, .one (.ref 9 0 0 0)), (10, .one (.msl 10 0 0 e_47.length))], [.cells 0 4 [[.int .i64 s.a0, .int .i64 s.a1, .int .i64 s.a2, .int .i64 s.a3]], .cells 0 4 [[.int .i64 0, .int .i64 0, .int .i64 0, .int .i64 0]], .cells 0 3 [[.slf ([1, 1, 2].map eI), .slf ([1, 2].map eI), .fn 104 []]], .cells 0 3 [[.slf ([1, 4].map eI), .slf ([1, 4].map eI), .nilfn]], .cells 0 3 [[.slf ([1, 1, 2].map eI), .slf ([1, 2].map eI), .nilfn]], .cells 0 3 [[.slf ([1].map eI), .slf ([1].map eI), .nilfn]], .cells 0 3 [[.slf ([1, 1].map eI), .slf ([1].map eI), .nilfn]], .cells 0 3 [[.slf ([1, 1, 2].map eI), .slf ([1, 2].map eI), .fn 104 []]], .cells 0 3 [[.slf ([1, 1, 2].map eI), .slf ([1, 2].map eI), .fn 104 []]], .cells 0 3 [[.slf ([1, 1, 2].map eI), .slf ([1, 2].map eI), .fn 104 []]], .cells 0 1 (e_47.map eI)]⟩) (fun (_ : List Int) => some 0) () he_47 ?_ ?_
  intro i48 b48 hi48
  obtain rfl := Option.some.inj hi48
  obtain ⟨⟩ := b48
  dsimp only at h ⊢
  refine bi h fun r_54 h hr_54 => ?_
  refine tt ?_
  repeat (first | (with_reducible intro _) | refine ⟨ss, ?_⟩)
  refine cF [10] (blocks_ctd_ok hr_54) ?_
  cases h; exact fin
  intro af48 m48 s48 a48 o48 hf48 ho48 ih48
  obtain ⟨l_45, x_46⟩ := s48
  obtain ⟨⟩ := a48
  dsimp only [blocks_Step_L5] at hf48 ⊢
  refine fl hf48 F (fun hf48 _ F => ?_) (fun hf48 _ F => ?_)
  refine bx hf48 F fun x_49 hf48 hx_49 F => ?_
  refine bx hf48 F fun x_50 hf48 hx_50 F => ?_
  refine ln F fun F => ?_
  have R := And.intro (show ([[.int .i64 1], [.int .i64 1], [.int .i64 2]] : List (List C))[x_46]? = some [.int .i64 x_50] from q_map (f := eI) hx_50) R
  refine bi hf48 fun r_51 hf48 hr_51 => ?_
  refine tt ?_
  repeat (first | (with_reducible intro _) | refine ⟨ss, ?_⟩)
  refine cS (ints_Wrap_ok hr_51) ?_
  refine bx hf48 F fun x_52 hf48 hx_52 F => ?_
  have R := And.intro (show (List.map eI l_45).set x_46 [.int .i64 r_51] = List.map eI (l_45.set x_46 r_51) by simp [go_sem, List.map_set]) R
  cases hf48
  refine tt ?_
  repeat (first | (with_reducible intro _) | refine ⟨ss, ?_⟩)
  refine wn x_46 F fun F => ?_
  exact bk ih48 ho48 ()
  cases hf48
  refine tt ?_
  exact xt ho48 af48 ()
  cases h; exact fin
  refine fi h F (fun h _ F => ?_) (fun h _ F => ?_)
  refine tt ?_
  repeat (first | (with_reducible intro _) | refine ⟨ss, ?_⟩)
  refine fi h F (fun h _ F => ?_) (fun h _ F => ?_)
  refine nd h F fun h F => ?_
  have R := And.intro (show List.replicate in_.length [.int .i64 0] = List.map eI (List.replicate in_.length 0) by simp [go_sem]) R
  refine bi h fun e_58 h he_58 => ?_
  refine tt ?_
  repeat (first | (with_reducible intro _) | refine ⟨ss, ?_⟩)
  refine lE (fun (s__ : (List Int) × Nat) (a__ : Unit) => match s__, a__ with | (l_56, x_57), _ => ⟨[(3, .one (.int .i64 now)), (5, .one (.ref 0 0 0 0)), (8, .one (.ref 1 0 0 0)), (9, .one (.ref 7 0 0 0)), (10, .one (.msl 8 0 0 l_56.length)), (30, .one (.sl (in_.map eI))), (31, .one (.int .i64 (in_.length : Int))), (32, .one (.int .i64 (x_57 : Int)))], [.cells 0 4 [[.int .i64 s.a0, .int .i64 s.a1, .int .i64 s.a2, .int .i64 s.a3]], .cells 0 4 [[.int .i64 0, .int .i64 0, .int .i64 0, .int .i64 0]], .cells 0 3 [[.slf ([1, 1, 1, 1, 2].map eI), .slf ([1, 1, 2].map eI), .fn 105 []]], .cells 0 3 [[.slf ([1, 4].map eI), .slf ([1, 4].map eI), .nilfn]], .cells 0 3 [[.slf ([1, 1, 2].map eI), .slf ([1, 2].map eI), .nilfn]], .cells 0 3 [[.slf ([1].map eI), .slf ([1].map eI), .nilfn]], .cells 0 3 [[.slf ([1, 1].map eI), .slf ([1].map eI), .nilfn]], .cells 0 3 [[.slf ([1, 1, 1, 1, 2].map eI), .slf ([1, 1, 2].map eI), .fn 105 []]], .cells 0 1 (l_56.map eI)]⟩) (fun (e__ : List Int) (b__ : Unit) => match e__, b__ with | e_58, _ => ⟨[(3, .one (.int .i64 now)), (5, .one (.ref 0 0 0 0)), (8, .one (.ref 1 0 0 0)), (9, .one (.ref 7 0 0 0)), (10, .one (.msl 8 0 0 e_58.length))], [.cells 0 4 [[.int .i64 s.a0, .int .i64 s.a1, .int .i64 s.a2, .int .i64 s.a3]], .cells 0 4 [[.int .i64 0, .int .i64 0, .int .i64 0, .int .i64 0]], .cells 0 3 [[.slf ([1, 1, 1, 1, 2].map eI), .slf ([1, 1, 2].map eI), .fn 105 []]], .cells 0 3 [[.slf ([1, 4].map eI), .slf ([1, 4].map eI), .nilfn]], .cells 0 3 [[.slf ([1, 1, 2].map eI), .slf ([1, 2].map eI), .nilfn]], .cells 0 3 [[.slf ([1].map eI), .slf ([1].map eI), .nilfn]], .cells 0 3 [[.slf ([1, 1].map eI), .slf ([1].map eI), .nilfn]], .cells 0 3 [[.slf ([1, 1, 1, 1, 2].map eI), .slf ([1, 1, 2].map eI), .fn 105 []]], .cells 0 1 (e_58.map eI)]⟩) (fun (_ : List Int) => some 0) () he_58 ?_ ?_
  intro i59 b59 hi59
  obtain rfl := Option.some.inj hi59
  obtain ⟨⟩ := b59
  dsimp only at h ⊢
  refine bi h fun r_65 h hr_65 => ?_
  refine tt ?_
  repeat (first | (with_reducible intro _) | refine ⟨ss, ?_⟩)
  refine cF [8] (blocks_ctud_ok hr_65) ?_
  cases h; exact fin
  intro af59 m59 s59 a59 o59 hf59 ho59 ih59
  obtain ⟨l_56, x_57⟩ := s59
  obtain ⟨⟩ := a59
  dsimp only [blocks_Step_L6] at hf59 ⊢
  refine fl hf59 F (fun hf59 _ F => ?_) (fun hf59 _ F => ?_)
  refine bx hf59 F fun x_60 hf59 hx_60 F => ?_
  refine bx hf59 F fun x_61 hf59 hx_61 F => ?_
  refine ln F fun F => ?_
  have R := And.intro (show ([[.int .i64 1], [.int .i64 1], [.int .i64 1], [.int .i64 1], [.int .i64 2]] : List (List C))[x_57]? = some [.int .i64 x_61] from q_map (f := eI) hx_61) R
  refine bi hf59 fun r_62 hf59 hr_62 => ?_
  refine tt ?_
  repeat (first | (with_reducible intro _) | refine ⟨ss, ?_⟩)
  refine cS (ints_Wrap_ok hr_62) ?_
  refine bx hf59 F fun x_63 hf59 hx_63 F => ?_
  have R := And.intro (show (List.map eI l_56).set x_57 [.int .i64 r_62] = List.map eI (l_56.set x_57 r_62) by simp [go_sem, List.map_set]) R
  cases hf59
  refine tt ?_
  repeat (first | (with_reducible intro _) | refine ⟨ss, ?_⟩)
  refine wn x_57 F fun F => ?_
  exact bk ih59 ho59 ()
  cases hf59
  refine tt ?_
  exact xt ho59 af59 ()
  cases h; exact fin
  refine fi h F (fun h _ F => ?_) (fun h _ F => ?_)
  refine tt ?_
  repeat (first | (with_reducible intro _) | refine ⟨ss, ?_⟩)
  refine iS Try.func99 ?_
  simp only [Try.f99]
  refine tt ?_
  repeat (first | (with_reducible intro _) | refine ⟨ss, ?_⟩)
  refine fi h F (fun h _ F => ?_) (fun h _ F => ?_)
  refine nd h F fun h F => ?_
  have R := And.intro (show List.replicate in_.length [.int .i64 0] = List.map eI (List.replicate in_.length 0) by simp [go_sem]) R
  refine bi h fun e_69 h he_69 => ?_
  refine tt ?_
  repeat (first | (with_reducible intro _) | refine ⟨ss, ?_⟩)
  refine lE (fun (s__ : (List Int) × Nat) (a__ : Unit) => match s__, a__ with | (l_67, x_68), _ => ⟨[(3, .one (.int .i64 now)), (5, .one (.ref 0 0 0 0)), (8, .one (.ref 1 0 0 0)), (9, .one (.ref 9 0 0 0)), (10, .one (.msl 10 0 0 l_67.length)), (30, .one (.sl (in_.map eI))), (31, .one (.int .i64 (in_.length : Int))), (32, .one (.int .i64 (x_68 : Int)))], [.cells 0 4 [[.int .i64 s.a0, .int .i64 s.a1, .int .i64 s.a2, .int .i64 s.a3]], .cells 0 4 [[.int .i64 0, .int .i64 0, .int .i64 0, .int .i64 0]], .cells 0 3 [[.slf ([1].map eI), .slf ([1].map eI), .fn 106 []]], .cells 0 3 [[.slf ([1, 4].map eI), .slf ([1, 4].map eI), .nilfn]], .cells 0 3 [[.slf ([1, 1, 2].map eI), .slf ([1, 2].map eI), .nilfn]], .cells 0 3 [[.slf ([1].map eI), .slf ([1].map eI), .nilfn]], .cells 0 3 [[.slf ([1, 1].map eI), .slf ([1].map eI), .nilfn]], .cells 0 3 [[.slf ([1].map eI), .slf ([1].map eI), .fn 106 []]], .cells 0 3 [[.slf ([1].map eI), .slf ([1].map eI), .fn 106 []]], .cells 0 3 [[.slf ([1].map eI), .slf ([1].map eI), .fn 106 []]], .cells 0 1 (l_67.map eI)]⟩) (fun (e__ : List Int) (b__ : Unit) => match e__, b__ with | e_69, _ => ⟨[(3, .one (.int .i64 now)), (5, .one (.ref 0 0 0 0)), (8, .one (.ref 1 0 0 0)), (9, .one (.ref 9 0 0 0)), (10, .one (.msl 10 0 0 e_69.length))], [.cells 0 4 [[.int .i64 s.a0, .int .i64 s.a1, .int .i64 s.a2, .int .i64 s.a3]], .cells 0 4 [[.int .i64 0, .int .i64 0, .int .i64 0, .int .i64 0]], .cells 0 3 [[.slf ([1].map eI), .slf ([1].map eI), .fn 106 []]], .cells 0 3 [[.slf ([1, 4].map eI), .slf ([1, 4].map eI), .nilfn]], .cells 0 3 [[.slf ([1, 1, 2].map eI), .slf ([1, 2].map eI), .nilfn]], .cells 0 3 [[.slf ([1].map eI), .slf ([1].map eI), .nilfn]], .cells 0 3 [[.slf ([1, 1].map eI), .slf ([1].map eI), .nilfn]], .cells 0 3 [[.slf ([1].map eI), .slf ([1].map eI), .fn 106 []]], .cells 0 3 [[.slf ([1].map eI), .slf ([1].map eI), .fn 106 []]], .cells 0 3 [[.slf ([1].map eI), .slf ([1].map eI), .fn 106 []]], .cells 0 1 (e_69.map eI)]⟩) (fun (_ : List Int) => some 0) () he_69 ?_ ?_
  intro i70 b70 hi70
  obtain rfl := Option.some.inj hi70
  obtain ⟨⟩ := b70
  dsimp only at h ⊢
  cases h
  intro af70 m70 s70 a70 o70 hf70 ho70 ih70
  obtain ⟨l_67, x_68⟩ := s70
  obtain ⟨⟩ := a70
  dsimp only [blocks_Step_L7] at hf70 ⊢
  refine fl hf70 F (fun hf70 _ F => ?_) (fun hf70 _ F => ?_)
  refine bx hf70 F fun x_71 hf70 hx_71 F => ?_
  refine bx hf70 F fun x_72 hf70 hx_72 F => ?_
  refine ln F fun F => ?_
  have R := And.intro (show ([[.int .i64 1]] : List (List C))[x_68]? = some [.int .i64 x_72] from q_map (f := eI) hx_72) R
  refine bi hf70 fun r_73 hf70 hr_73 => ?_
  refine tt ?_
  repeat (first | (with_reducible intro _) | refine ⟨ss, ?_⟩)
  refine cS (ints_Wrap_ok hr_73) ?_
  refine bx hf70 F fun x_74 hf70 hx_74 F => ?_
  have R := And.intro (show (List.map eI l_67).set x_68 [.int .i64 r_73] = List.map eI (l_67.set x_68 r_73) by simp [go_sem, List.map_set]) R
  cases hf70
  refine tt ?_
  repeat (first | (with_reducible intro _) | refine ⟨ss, ?_⟩)
  refine wn x_68 F fun F => ?_
  exact bk ih70 ho70 ()
  cases hf70
  refine tt ?_
  exact xt ho70 af70 ()
  cases h; exact fin
  refine fi h F (fun h _ F => ?_) (fun h _ F => ?_)
  refine tt ?_
  repeat (first | (with_reducible intro _) | refine ⟨ss, ?_⟩)
  refine iS Try.func99 ?_
  simp only [Try.f99]
  refine tt ?_
  repeat (first | (with_reducible intro _) | refine ⟨ss, ?_⟩)
  refine fi h F (fun h _ F => ?_) (fun h _ F => ?_)
  refine nd h F fun h F => ?_
  have R := And.intro (show List.replicate in_.length [.int .i64 0] = List.map eI (List.replicate in_.length 0) by simp [go_sem]) R
  refine bi h fun e_79 h he_79 => ?_
  refine tt ?_
  repeat (first | (with_reducible intro _) | refine ⟨ss, ?_⟩)
  refine lE (fun (s__ : (List Int) × Nat) (a__ : Unit) => match s__, a__ with | (l_77, x_78), _ => ⟨[(3, .one (.int .i64 now)), (5, .one (.ref 0 0 0 0)), (8, .one (.ref 1 0 0 0)), (9, .one (.ref 9 0 0 0)), (10, .one (.msl 10 0 0 l_77.length)), (30, .one (.sl (in_.map eI))), (31, .one (.int .i64 (in_.length : Int))), (32, .one (.int .i64 (x_78 : Int)))], [.cells 0 4 [[.int .i64 s.a0, .int .i64 s.a1, .int .i64 s.a2, .int .i64 s.a3]], .cells 0 4 [[.int .i64 0, .int .i64 0, .int .i64 0, .int .i64 0]], .cells 0 3 [[.slf ([1].map eI), .slf ([1].map eI), .fn 107 []]], .cells 0 3 [[.slf ([1, 4].map eI), .slf ([1, 4].map eI), .nilfn]], .cells 0 3 [[.slf ([1, 1, 2].map eI), .slf ([1, 2].map eI), .nilfn]], .cells 0 3 [[.slf ([1].map eI), .slf ([1].map eI), .nilfn]], .cells 0 3 [[.slf ([1, 1].map eI), .slf ([1].map eI), .nilfn]], .cells 0 3 [[.slf ([1].map eI), .slf ([1].map eI), .fn 107 []]], .cells 0 3 [[.slf ([1].map eI), .slf ([1].map eI), .fn 107 []]], .cells 0 3 [[.slf ([1].map eI), .slf ([1].map eI), .fn 107 []]], .cells 0 1 (l_77.map eI)]⟩) (fun (e__ : List Int) (b__ : Unit) => match e__, b__ with | e_79, _ => ⟨[(3, .one (.int .i64 now)), (5, .one (.ref 0 0 0 0)), (8, .one (.ref 1 0 0 0)), (9, .one (.ref 9 0 0 0)), (10, .one (.msl 10 0 0 e_79.length))], [.cells 0 4 [[.int .i64 s.a0, .int .i64 s.a1, .int .i64 s.a2, .int .i64 s.a3]], .cells 0 4 [[.int .i64 0, .int .i64 0, .int .i64 0, .int .i64 0]], .cells 0 3 [[.slf ([1].map eI), .slf ([1].map eI), .fn 107 []]], .cells 0 3 [[.slf ([1, 4].map eI), .slf ([1, 4].map eI), .nilfn]], .cells 0 3 [[.slf ([1, 1, 2].map eI), .slf ([1, 2].map eI), .nilfn]], .cells 0 3 [[.slf ([1].map eI), .slf ([1].map eI), .nilfn]], .cells 0 3 [[.slf ([1, 1].map eI), .slf ([1].map eI), .nilfn]], .cells 0 3 [[.slf ([1].map eI), .slf ([1].map eI), .fn 107 []]], .cells 0 3 [[.slf ([1].map eI), .slf ([1].map eI), .fn 107 []]], .cells 0 3 [[.slf ([1].map eI), .slf ([1].map eI), .fn 107 []]], .cells 0 1 (e_79.map eI)]⟩) (fun (_ : List Int) => some 0) () he_79 ?_ ?_
  intro i80 b80 hi80
  obtain rfl := Option.some.inj hi80
  obtain ⟨⟩ := b80
  dsimp only at h ⊢
  cases h
  intro af80 m80 s80 a80 o80 hf80 ho80 ih80
  obtain ⟨l_77, x_78⟩ := s80
  obtain ⟨⟩ := a80
  dsimp only [blocks_Step_L8] at hf80 ⊢
  refine fl hf80 F (fun hf80 _ F => ?_) (fun hf80 _ F => ?_)
  refine bx hf80 F fun x_81 hf80 hx_81 F => ?_
  refine bx hf80 F fun x_82 hf80 hx_82 F => ?_
  refine ln F fun F => ?_
  have R := And.intro (show ([[.int .i64 1]] : List (List C))[x_78]? = some [.int .i64 x_82] from q_map (f := eI) hx_82) R
  refine bi hf80 fun r_83 hf80 hr_83 => ?_
  refine tt ?_
  repeat (first | (with_reducible intro _) | refine ⟨ss, ?_⟩)
  refine cS (ints_Wrap_ok hr_83) ?_
  refine bx hf80 F fun x_84 hf80 hx_84 F => ?_
  have R := And.intro (show (List.map eI l_77).set x_78 [.int .i64 r_83] = List.map eI (l_77.set x_78 r_83) by simp [go_sem, List.map_set]) R
  cases hf80
  refine tt ?_
  repeat (first | (with_reducible intro _) | refine ⟨ss, ?_⟩)
  refine wn x_78 F fun F => ?_
  exact bk ih80 ho80 ()
  cases hf80
  refine tt ?_
  exact xt ho80 af80 ()
  cases h; exact fin
  refine tt ?_
  refine fi h F (fun h _ F => ?_) (fun h _ F => ?_)
  refine tt ?_
  repeat (first | (with_reducible intro _) | refine ⟨ss, ?_⟩)
  refine iS Try.func99 ?_
  simp only [Try.f99]
  refine tt ?_
  repeat (first | (with_reducible intro _) | refine ⟨ss, ?_⟩)
  refine fi h F (fun h _ F => ?_) (fun h _ F => ?_)
  refine nd h F fun h F => ?_
  have R := And.intro (show List.replicate in_.length [.int .i64 0] = List.map eI (List.replicate in_.length 0) by simp [go_sem]) R
  refine bi h fun e_89 h he_89 => ?_
  refine tt ?_
  repeat (first | (with_reducible intro _) | refine ⟨ss, ?_⟩)
  refine lE (fun (s__ : (List Int) × Nat) (a__ : Unit) => match s__, a__ with | (l_87, x_88), _ => ⟨[(3, .one (.int .i64 now)), (5, .one (.ref 0 0 0 0)), (8, .one (.ref 1 0 0 0)), (9, .one (.ref 9 0 0 0)), (10, .one (.msl 10 0 0 l_87.length)), (30, .one (.sl (in_.map eI))), (31, .one (.int .i64 (in_.length : Int))), (32, .one (.int .i64 (x_88 : Int)))], [.cells 0 4 [[.int .i64 s.a0, .int .i64 s.a1, .int .i64 s.a2, .int .i64 s.a3]], .cells 0 4 [[.int .i64 0, .int .i64 0, .int .i64 0, .int .i64 0]], .cells 0 3 [[.slf ([1, 1].map eI), .slf ([1].map eI), .fn 108 []]], .cells 0 3 [[.slf ([1, 4].map eI), .slf ([1, 4].map eI), .nilfn]], .cells 0 3 [[.slf ([1, 1, 2].map eI), .slf ([1, 2].map eI), .nilfn]], .cells 0 3 [[.slf ([1].map eI), .slf ([1].map eI), .nilfn]], .cells 0 3 [[.slf ([1, 1].map eI), .slf ([1].map eI), .nilfn]], .cells 0 3 [[.slf ([1, 1].map eI), .slf ([1].map eI), .fn 108 []]], .cells 0 3 [[.slf ([1, 1].map eI), .slf ([1].map eI), .fn 108 []]], .cells 0 3 [[.slf ([1, 1].map eI), .slf ([1].map eI), .fn 108 []]], .cells 0 1 (l_87.map eI)]⟩) (fun (e__ : List Int) (b__ : Unit) => match e__, b__ with | e_89, _ => ⟨[(3, .one (.int .i64 now)), (5, .one (.ref 0 0 0 0)), (8, .one (.ref 1 0 0 0)), (9, .one (.ref 9 0 0 0)), (10, .one (.msl 10 0 0 e_89.length))], [.cells 0 4 [[.int .i64 s.a0, .int .i64 s.a1, .int .i64 s.a2, .int .i64 s.a3]], .cells 0 4 [[.int .i64 0, .int .i64 0, .int .i64 0, .int .i64 0]], .cells 0 3 [[.slf ([1, 1].map eI), .slf ([1].map eI), .fn 108 []]], .cells 0 3 [[.slf ([1, 4].map eI), .slf ([1, 4].map eI), .nilfn]], .cells 0 3 [[.slf ([1, 1, 2].map eI), .slf ([1, 2].map eI), .nilfn]], .cells 0 3 [[.slf ([1].map eI), .slf ([1].map eI), .nilfn]], .cells 0 3 [[.slf ([1, 1].map eI), .slf ([1].map eI), .nilfn]], .cells 0 3 [[.slf ([1, 1].map eI), .slf ([1].map eI), .fn 108 []]], .cells 0 3 [[.slf ([1, 1].map eI), .slf ([1].map eI), .fn 108 []]], .cells 0 3 [[.slf ([1, 1].map eI), .slf ([1].map eI), .fn 108 []]], .cells 0 1 (e_89.map eI)]⟩) (fun (_ : List Int) => some 0) () he_89 ?_ ?_
  intro i90 b90 hi90
  obtain rfl := Option.some.inj hi90
  obtain ⟨⟩ := b90
  dsimp only at h ⊢
  refine bi h fun r_96 h hr_96 => ?_
  refine tt ?_
  repeat (first | (with_reducible intro _) | refine ⟨ss, ?_⟩)
  refine cF [10] (blocks_sr_ok hr_96) ?_
  cases h; exact fin
  intro af90 m90 s90 a90 o90 hf90 ho90 ih90
  obtain ⟨l_87, x_88⟩ := s90
  obtain ⟨⟩ := a90
  dsimp only [blocks_Step_L9] at hf90 ⊢
  refine fl hf90 F (fun hf90 _ F => ?_) (fun hf90 _ F => ?_)
  refine bx hf90 F fun x_91 hf90 hx_91 F => ?_
  refine bx hf90 F fun x_92 hf90 hx_92 F => ?_
  refine ln F fun F => ?_
  have R := And.intro (show ([[.int .i64 1], [.int .i64 1]] : List (List C))[x_88]? = some [.int .i64 x_92] from q_map (f := eI) hx_92) R
  refine bi hf90 fun r_93 hf90 hr_93 => ?_
  refine tt ?_
  repeat (first | (with_reducible intro _) | refine ⟨ss, ?_⟩)
  refine cS (ints_Wrap_ok hr_93) ?_
  refine bx hf90 F fun x_94 hf90 hx_94 F => ?_
  have R := And.intro (show (List.map eI l_87).set x_88 [.int .i64 r_93] = List.map eI (l_87.set x_88 r_93) by simp [go_sem, List.map_set]) R
  cases hf90
  refine tt ?_
  repeat (first | (with_reducible intro _) | refine ⟨ss, ?_⟩)
  refine wn x_88 F fun F => ?_
  exact bk ih90 ho90 ()
  cases hf90
  refine tt ?_
  exact xt ho90 af90 ()
  cases h; exact fin
  refine fi h F (fun h _ F => ?_) (fun h _ F => ?_)
  refine tt ?_
  repeat (first | (with_reducible intro _) | refine ⟨ss, ?_⟩)
  refine iS Try.func99 ?_
  simp only [Try.f99]
  refine tt ?_
  repeat (first | (with_reducible intro _) | refine ⟨ss, ?_⟩)
  refine fi h F (fun h _ F => ?_) (fun h _ F => ?_)
  refine nd h F fun h F => ?_
  have R := And.intro (show List.replicate in_.length [.int .i64 0] = List.map eI (List.replicate in_.length 0) by simp [go_sem]) R
  refine bi h fun e_100 h he_100 => ?_
  refine tt ?_
  repeat (first | (with_reducible intro _) | refine ⟨ss, ?_⟩)
  refine lE (fun (s__ : (List Int) × Nat) (a__ : Unit) => match s__, a__ with | (l_98, x_99), _ => ⟨[(3, .one (.int .i64 now)), (5, .one (.ref 0 0 0 0)), (8, .one (.ref 1 0 0 0)), (9, .one (.ref 9 0 0 0)), (10, .one (.msl 10 0 0 l_98.length)), (30, .one (.sl (in_.map eI))), (31, .one (.int .i64 (in_.length : Int))), (32, .one (.int .i64 (x_99 : Int)))], [.cells 0 4 [[.int .i64 s.a0, .int .i64 s.a1, .int .i64 s.a2, .int .i64 s.a3]], .cells 0 4 [[.int .i64 0, .int .i64 0, .int .i64 0, .int .i64 0]], .cells 0 3 [[.slf ([1, 1].map eI), .slf ([1].map eI), .fn 109 []]], .cells 0 3 [[.slf ([1, 4].map eI), .slf ([1, 4].map eI), .nilfn]], .cells 0 3 [[.slf ([1, 1, 2].map eI), .slf ([1, 2].map eI), .nilfn]], .cells 0 3 [[.slf ([1].map eI), .slf ([1].map eI), .nilfn]], .cells 0 3 [[.slf ([1, 1].map eI), .slf ([1].map eI), .nilfn]], .cells 0 3 [[.slf ([1, 1].map eI), .slf ([1].map eI), .fn 109 []]], .cells 0 3 [[.slf ([1, 1].map eI), .slf ([1].map eI), .fn 109 []]], .cells 0 3 [[.slf ([1, 1].map eI), .slf ([1].map eI), .fn 109 []]], .cells 0 1 (l_98.map eI)]⟩) (fun (e__ : List Int) (b__ : Unit) => match e__, b__ with | e_100, _ => ⟨[(3, .one (.int .i64 now)), (5, .one (.ref 0 0 0 0)), (8, .one (.ref 1 0 0 0)), (9, .one (.ref 9 0 0 0)), (10, .one (.msl 10 0 0 e_100.length))], [.cells 0 4 [[.int .i64 s.a0, .int .i64 s.a1, .int .i64 s.a2, .int .i64 s.a3]], .cells 0 4 [[.int .i64 0, .int .i64 0, .int .i64 0, .int .i64 0]], .cells 0 3 [[.slf ([1, 1].map eI), .slf ([1].map eI), .fn 109 []]], .cells 0 3 [[.slf ([1, 4].map eI), .slf ([1, 4].map eI), .nilfn]], .cells 0 3 [[.slf ([1, 1, 2].map eI), .slf ([1, 2].map eI), .nilfn]], .cells 0 3 [[.slf ([1].map eI), .slf ([1].map eI), .nilfn]], .cells 0 3 [[.slf ([1, 1].map eI), .slf ([1].map eI), .nilfn]], .cells 0 3 [[.slf ([1, 1].map eI), .slf ([1].map eI), .fn 109 []]], .cells 0 3 [[.slf ([1, 1].map eI), .slf ([1].map eI), .fn 109 []]], .cells 0 3 [[.slf ([1, 1].map eI), .slf ([1].map eI), .fn 109 []]], .cells 0 1 (e_100.map eI)]⟩) (fun (_ : List Int) => some 0) () he_100 ?_ ?_
  intro i101 b101 hi101
  obtain rfl := Option.some.inj hi101
  obtain ⟨⟩ := b101
  dsimp only at h ⊢
  refine bi h fun r_107 h hr_107 => ?_
  refine tt ?_
  repeat (first | (with_reducible intro _) | refine ⟨ss, ?_⟩)
  refine cF [10] (blocks_rs_ok hr_107) ?_
  cases h; exact fin
  intro af101 m101 s101 a101 o101 hf101 ho101 ih101
  obtain ⟨l_98, x_99⟩ := s101
  obtain ⟨⟩ := a101
  dsimp only [blocks_Step_L10] at hf101 ⊢
  refine fl hf101 F (fun hf101 _ F => ?_) (fun hf101 _ F => ?_)
  refine bx hf101 F fun x_102 hf101 hx_102 F => ?_
  refine bx hf101 F fun x_103 hf101 hx_103 F => ?_
  refine ln F fun F => ?_
  have R := And.intro (show ([[.int .i64 1], [.int .i64 1]] : List (List C))[x_99]? = some [.int .i64 x_103] from q_map (f := eI) hx_103) R
  refine bi hf101 fun r_104 hf101 hr_104 => ?_
  refine tt ?_
  repeat (first | (with_reducible intro _) | refine ⟨ss, ?_⟩)
  refine cS (ints_Wrap_ok hr_104) ?_
  refine bx hf101 F fun x_105 hf101 hx_105 F => ?_
  have R := And.intro (show (List.map eI l_98).set x_99 [.int .i64 r_104] = List.map eI (l_98.set x_99 r_104) by simp [go_sem, List.map_set]) R
  cases hf101
  refine tt ?_
  repeat (first | (with_reducible intro _) | refine ⟨ss, ?_⟩)
  refine wn x_99 F fun F => ?_
  exact bk ih101 ho101 ()
  cases hf101
  refine tt ?_
  exact xt ho101 af101 ()
  cases h; exact fin
  cases h; exact fin
theorem lazarettolaw11_awake_ok {r : Bool} (h : lazarettolaw11_awake = some r) :
    Pu Try.prog 54 [] (.one (.bool r)) := by
  have F := trivial; have R := trivial
  refine pA Try.func54 ?_
  simp only [Try.f54]
  unfold lazarettolaw11_awake at h
  refine bi h fun r_1 h hr_1 => ?_
  refine tt ?_
  repeat (first | (with_reducible intro _) | refine ⟨ss, ?_⟩)
  refine cS (blocks_Step_ok hr_1) ?_
  refine bi h fun r_2 h hr_2 => ?_
  refine tt ?_
  repeat (first | (with_reducible intro _) | refine ⟨ss, ?_⟩)
  refine cD (blocks_Out_ok hr_2) ?_
  refine bi h fun r_3 h hr_3 => ?_
  refine tt ?_
  repeat (first | (with_reducible intro _) | refine ⟨ss, ?_⟩)
  refine cD (blocks_Out_ok hr_3) ?_
  refine bi h fun r_4 h hr_4 => ?_
  refine tt ?_
  repeat (first | (with_reducible intro _) | refine ⟨ss, ?_⟩)
  refine cS (blocks_Step_ok hr_4) ?_
  refine bi h fun r_5 h hr_5 => ?_
  refine tt ?_
  repeat (first | (with_reducible intro _) | refine ⟨ss, ?_⟩)
  refine cS (blocks_Out_ok hr_5) ?_
  refine bi h fun r_6 h hr_6 => ?_
  refine tt ?_
  repeat (first | (with_reducible intro _) | refine ⟨ss, ?_⟩)
  refine cS (blocks_Step_ok hr_6) ?_
  refine bi h fun r_7 h hr_7 => ?_
  refine tt ?_
  repeat (first | (with_reducible intro _) | refine ⟨ss, ?_⟩)
  refine cS (blocks_Step_ok hr_7) ?_
  refine fi h F (fun h _ F => ?_) (fun h _ F => ?_)
  refine tt ?_
  refine fi h F (fun h _ F => ?_) (fun h _ F => ?_)
  refine fi h F (fun h _ F => ?_) (fun h _ F => ?_)
  refine bi h fun r_8 h hr_8 => ?_
  refine tt ?_
  repeat (first | (with_reducible intro _) | refine ⟨ss, ?_⟩)
  refine cS (blocks_Out_ok hr_8) ?_
  refine fi h F (fun h _ F => ?_) (fun h _ F => ?_)
  refine bi h fun r_9 h hr_9 => ?_
  refine tt ?_
  repeat (first | (with_reducible intro _) | refine ⟨ss, ?_⟩)
  refine cS (blocks_Out_ok hr_9) ?_
  refine fi h F (fun h _ F => ?_) (fun h _ F => ?_)
  refine bi h fun r_10 h hr_10 => ?_
  refine tt ?_
  repeat (first | (with_reducible intro _) | refine ⟨ss, ?_⟩)
  refine cS (blocks_Out_ok hr_10) ?_
  refine fi h F (fun h _ F => ?_) (fun h _ F => ?_)
  refine bi h fun r_11 h hr_11 => ?_
  refine tt ?_
  repeat (first | (with_reducible intro _) | refine ⟨ss, ?_⟩)
  refine cS (blocks_Kinds_ok hr_11) ?_
  refine tt ?_
  repeat (first | (with_reducible intro _) | refine ⟨ss, ?_⟩)
  refine fi h F (fun h _ F => ?_) (fun h _ F => ?_)
  refine bi h fun r_12 h hr_12 => ?_
  refine tt ?_
  repeat (first | (with_reducible intro _) | refine ⟨ss, ?_⟩)
  refine cS (blocks_Inputs_ok hr_12) ?_
  refine tt ?_
  repeat (first | (with_reducible intro _) | refine ⟨ss, ?_⟩)
  refine fi h F (fun h _ F => ?_) (fun h _ F => ?_)
  refine bi h fun r_13 h hr_13 => ?_
  refine tt ?_
  repeat (first | (with_reducible intro _) | refine ⟨ss, ?_⟩)
  refine cS (blocks_Outputs_ok hr_13) ?_
  cases h; exact fin
  cases h; exact fin
  cases h; exact fin
  cases h; exact fin
  cases h; exact fin
  cases h; exact fin
  cases h; exact fin
  cases h; exact fin
  cases h; exact fin
end Go.Lz
