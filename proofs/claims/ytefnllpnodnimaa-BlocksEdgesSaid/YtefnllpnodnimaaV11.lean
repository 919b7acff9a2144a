/- V11 -/
import Derived.Test.YtefnllpnodnimaaV04
namespace Go.Lz
set_option linter.unusedVariables false
set_option linter.unusedSimpArgs false
open Go.Proofs
attribute [-go_sem] q_cond g_b gd_b
set_option maxRecDepth 100000
set_option maxHeartbeats 4000000
noncomputable section
def lazarettoref09_Texts_L1 (a : List Str) (b : List Str) : Nat → Option ((Nat) ⊕ (Bool ⊕ Unit))
  | i_1 => if (i_1 : Int) < (a.length : Int) then ((a[i_1]?).bind fun x_4 => (b[i_1]?).bind fun x_5 => if x_4 = x_5 then (some (.inl (i_1 + 1))) else (some (.inr (.inl (false))))) else (some (.inr (.inr (()))))
def lazarettoref09_Texts (a : List Str) (b : List Str) : Option Bool :=
  if (a.length : Int) = (b.length : Int) then ((loop (lazarettoref09_Texts_L1 a b) 0).bind (fun e__ => match e__ with | (.inl e_6) => some e_6 | (.inr ()) => some true)) else (some false)
def blocks_Kinds : Option (List Str) :=
  some [([67, 84, 68] : Str), ([67, 84, 85] : Str), ([67, 84, 85, 68] : Str), ([70, 95, 84, 82, 73, 71] : Str), ([82, 83] : Str), ([82, 95, 84, 82, 73, 71] : Str), ([83, 82] : Str), ([84, 79, 70] : Str), ([84, 79, 78] : Str), ([84, 80] : Str)]
def lazarettoref11_Kinds : Option (List Str) :=
  some [([67, 84, 68] : Str), ([67, 84, 85] : Str), ([67, 84, 85, 68] : Str), ([70, 95, 84, 82, 73, 71] : Str), ([82, 83] : Str), ([82, 95, 84, 82, 73, 71] : Str), ([83, 82] : Str), ([84, 79, 70] : Str), ([84, 79, 78] : Str), ([84, 80] : Str)]
def blocks_bit (b : Bool) : Option Int :=
  if b = true then (some 1) else (some 0)
def blocks_since (now : Int) (from_ : Int) (most : Int) : Option Int :=
  if now ≤ from_ then (some 0) else (if most ≤ 0 then (some 0) else (if (IntKind.u64.wrap most) < (IntKind.u64.wrap ((IntKind.u64.wrap now) - (IntKind.u64.wrap from_))) then (some most) else (some (w64 (now - from_)))))
def blocks_ton (s : A4 Int) (in_ : List Int) (now : Int) : Option (A4 Int) :=
  (in_[0]?).bind fun x_1 => if x_1 = 0 then (some (⟨0, 0, s.a2, 0⟩ : A4 Int)) else (if s.a3 = 0 then ((in_[1]?).bind fun x_2 => (blocks_since now now x_2).bind fun r_3 => (blocks_bit (decide (x_2 ≤ r_3))).bind fun r_4 => some (⟨r_4, r_3, now, 1⟩ : A4 Int)) else ((in_[1]?).bind fun x_5 => (blocks_since now s.a2 x_5).bind fun r_6 => (blocks_bit (decide (x_5 ≤ r_6))).bind fun r_7 => some (⟨r_7, r_6, s.a2, 1⟩ : A4 Int)))
def blocks_run (s : A4 Int) (now : Int) (pt : Int) : Option (A4 Int) :=
  if s.a0 = 0 then (some s) else ((blocks_since now s.a2 pt).bind fun r_1 => if pt ≤ r_1 then (some (⟨0, r_1, s.a2, s.a3⟩ : A4 Int)) else (some (⟨s.a0, r_1, s.a2, s.a3⟩ : A4 Int)))
def blocks_tof (s : A4 Int) (in_ : List Int) (now : Int) : Option (A4 Int) :=
  (in_[0]?).bind fun x_1 => if x_1 = 1 then (some (⟨1, 0, s.a2, 1⟩ : A4 Int)) else (if s.a3 = 0 then ((in_[1]?).bind fun x_2 => (blocks_run (⟨s.a0, s.a1, s.a2, 0⟩ : A4 Int) now x_2).bind fun r_3 => some r_3) else ((in_[1]?).bind fun x_4 => (blocks_run (⟨s.a0, s.a1, now, 0⟩ : A4 Int) now x_4).bind fun r_5 => some r_5))
def blocks_tp (s : A4 Int) (in_ : List Int) (now : Int) : Option (A4 Int) :=
  (in_[1]?).bind fun x_1 => (blocks_run s now x_1).bind fun r_2 => (in_[0]?).bind fun x_3 => if x_3 = 1 then (if r_2.a3 = 0 then (if r_2.a0 = 0 then ((blocks_bit (decide (0 < x_1))).bind fun r_4 => if x_3 = 0 then none else (some (⟨r_4, 0, now, x_3⟩ : A4 Int))) else (if x_3 = 0 then none else (some (⟨r_2.a0, r_2.a1, r_2.a2, x_3⟩ : A4 Int)))) else (if x_3 = 0 then none else (some (⟨r_2.a0, r_2.a1, r_2.a2, x_3⟩ : A4 Int)))) else (if x_3 = 0 then (if r_2.a0 = 0 then (some (⟨r_2.a0, 0, r_2.a2, x_3⟩ : A4 Int)) else (some (⟨r_2.a0, r_2.a1, r_2.a2, x_3⟩ : A4 Int))) else (some (⟨r_2.a0, r_2.a1, r_2.a2, x_3⟩ : A4 Int)))
def blocks_up (n : Int) : Option Int :=
  if 32767 ≤ n then (some 32767) else (some (w64 (n + 1)))
def blocks_ctu (s : A4 Int) (in_ : List Int) (p2 : Int) : Option (A4 Int) :=
  (in_[1]?).bind fun x_1 => if x_1 = 1 then ((in_[2]?).bind fun x_2 => (blocks_bit (decide (x_2 ≤ 0))).bind fun r_3 => (in_[0]?).bind fun x_4 => some (⟨r_3, 0, s.a2, x_4⟩ : A4 Int)) else ((in_[0]?).bind fun x_5 => if x_5 = 1 then (if s.a3 = 0 then ((blocks_up s.a1).bind fun r_6 => (in_[2]?).bind fun x_7 => (blocks_bit (decide (x_7 ≤ r_6))).bind fun r_8 => some (⟨r_8, r_6, s.a2, x_5⟩ : A4 Int)) else ((in_[2]?).bind fun x_9 => (blocks_bit (decide (x_9 ≤ s.a1))).bind fun r_10 => some (⟨r_10, s.a1, s.a2, x_5⟩ : A4 Int))) else ((in_[2]?).bind fun x_11 => (blocks_bit (decide (x_11 ≤ s.a1))).bind fun r_12 => some (⟨r_12, s.a1, s.a2, x_5⟩ : A4 Int)))
def blocks_down (n : Int) : Option Int :=
  if n ≤ (-32768) then (some (-32768)) else (some (w64 (n - 1)))
def blocks_ctd (s : A4 Int) (in_ : List Int) (p2 : Int) : Option (A4 Int) :=
  (in_[1]?).bind fun x_1 => if x_1 = 1 then ((in_[2]?).bind fun x_2 => (blocks_bit (decide (x_2 ≤ 0))).bind fun r_3 => (in_[0]?).bind fun x_4 => some (⟨r_3, x_2, s.a2, x_4⟩ : A4 Int)) else ((in_[0]?).bind fun x_5 => if x_5 = 1 then (if s.a3 = 0 then ((blocks_down s.a1).bind fun r_6 => (blocks_bit (decide (r_6 ≤ 0))).bind fun r_7 => some (⟨r_7, r_6, s.a2, x_5⟩ : A4 Int)) else ((blocks_bit (decide (s.a1 ≤ 0))).bind fun r_8 => some (⟨r_8, s.a1, s.a2, x_5⟩ : A4 Int))) else ((blocks_bit (decide (s.a1 ≤ 0))).bind fun r_9 => some (⟨r_9, s.a1, s.a2, x_5⟩ : A4 Int)))
def blocks_ctud (s : A4 Int) (in_ : List Int) (p2 : Int) : Option (A4 Int) :=
  (in_[0]?).bind fun x_1 => if x_1 = 1 then ((in_[1]?).bind fun x_2 => if x_2 = 1 then ((in_[2]?).bind fun x_3 => if x_3 = 1 then ((in_[4]?).bind fun x_4 => some (⟨0, x_1, x_2, x_4⟩ : A4 Int)) else ((in_[3]?).bind fun x_5 => if x_5 = 1 then ((in_[4]?).bind fun x_6 => some (⟨x_6, x_1, x_2, x_6⟩ : A4 Int)) else (if ((decide (s.a1 = 0)) == (decide (s.a2 = 0))) = true then ((in_[4]?).bind fun x_7 => some (⟨s.a0, x_1, x_2, x_7⟩ : A4 Int)) else (if s.a1 = 0 then ((blocks_up s.a0).bind fun r_8 => (in_[4]?).bind fun x_9 => some (⟨r_8, x_1, x_2, x_9⟩ : A4 Int)) else ((blocks_down s.a0).bind fun r_10 => (in_[4]?).bind fun x_11 => some (⟨r_10, x_1, x_2, x_11⟩ : A4 Int)))))) else ((in_[2]?).bind fun x_12 => if x_12 = 1 then ((in_[4]?).bind fun x_13 => some (⟨0, x_1, x_2, x_13⟩ : A4 Int)) else ((in_[3]?).bind fun x_14 => if x_14 = 1 then ((in_[4]?).bind fun x_15 => some (⟨x_15, x_1, x_2, x_15⟩ : A4 Int)) else (if s.a1 = 0 then ((blocks_up s.a0).bind fun r_16 => (in_[4]?).bind fun x_17 => some (⟨r_16, x_1, x_2, x_17⟩ : A4 Int)) else ((in_[4]?).bind fun x_18 => some (⟨s.a0, x_1, x_2, x_18⟩ : A4 Int)))))) else ((in_[1]?).bind fun x_19 => if x_19 = 1 then ((in_[2]?).bind fun x_20 => if x_20 = 1 then ((in_[4]?).bind fun x_21 => some (⟨0, x_1, x_19, x_21⟩ : A4 Int)) else ((in_[3]?).bind fun x_22 => if x_22 = 1 then ((in_[4]?).bind fun x_23 => some (⟨x_23, x_1, x_19, x_23⟩ : A4 Int)) else (if s.a2 = 0 then ((blocks_down s.a0).bind fun r_24 => (in_[4]?).bind fun x_25 => some (⟨r_24, x_1, x_19, x_25⟩ : A4 Int)) else ((in_[4]?).bind fun x_26 => some (⟨s.a0, x_1, x_19, x_26⟩ : A4 Int))))) else ((in_[2]?).bind fun x_27 => if x_27 = 1 then ((in_[4]?).bind fun x_28 => some (⟨0, x_1, x_19, x_28⟩ : A4 Int)) else ((in_[3]?).bind fun x_29 => if x_29 = 1 then ((in_[4]?).bind fun x_30 => some (⟨x_30, x_1, x_19, x_30⟩ : A4 Int)) else ((in_[4]?).bind fun x_31 => some (⟨s.a0, x_1, x_19, x_31⟩ : A4 Int)))))
def blocks_rises (s : A4 Int) (in_ : List Int) (p2 : Int) : Option (A4 Int) :=
  (in_[0]?).bind fun x_1 => if x_1 = 1 then ((blocks_bit (decide (s.a3 = 0))).bind fun r_2 => some (⟨r_2, s.a1, s.a2, x_1⟩ : A4 Int)) else ((blocks_bit false).bind fun r_3 => some (⟨r_3, s.a1, s.a2, x_1⟩ : A4 Int))
def blocks_falls (s : A4 Int) (in_ : List Int) (p2 : Int) : Option (A4 Int) :=
  (in_[0]?).bind fun x_1 => if x_1 = 0 then ((blocks_bit (!(decide (s.a3 = 0)))).bind fun r_2 => some (⟨r_2, s.a1, s.a2, x_1⟩ : A4 Int)) else ((blocks_bit false).bind fun r_3 => some (⟨r_3, s.a1, s.a2, x_1⟩ : A4 Int))
def blocks_sr (s : A4 Int) (in_ : List Int) (p2 : Int) : Option (A4 Int) :=
  (in_[0]?).bind fun x_1 => if x_1 = 1 then ((blocks_bit true).bind fun r_2 => some (⟨r_2, s.a1, s.a2, s.a3⟩ : A4 Int)) else (if s.a0 = 0 then ((blocks_bit false).bind fun r_3 => some (⟨r_3, s.a1, s.a2, s.a3⟩ : A4 Int)) else ((in_[1]?).bind fun x_4 => (blocks_bit (decide (x_4 = 0))).bind fun r_5 => some (⟨r_5, s.a1, s.a2, s.a3⟩ : A4 Int)))
def blocks_rs (s : A4 Int) (in_ : List Int) (p2 : Int) : Option (A4 Int) :=
  (in_[1]?).bind fun x_1 => if x_1 = 0 then ((in_[0]?).bind fun x_2 => if x_2 = 1 then ((blocks_bit true).bind fun r_3 => some (⟨r_3, s.a1, s.a2, s.a3⟩ : A4 Int)) else ((blocks_bit (!(decide (s.a0 = 0)))).bind fun r_4 => some (⟨r_4, s.a1, s.a2, s.a3⟩ : A4 Int))) else ((blocks_bit false).bind fun r_5 => some (⟨r_5, s.a1, s.a2, s.a3⟩ : A4 Int))
def blocks_of (name : Str) : Option blocks_kind :=
  if name = ([84, 79, 78] : Str) then (some (⟨[1, 4], [1, 4], (some 100)⟩ : blocks_kind)) else (if name = ([84, 79, 70] : Str) then (some (⟨[1, 4], [1, 4], (some 101)⟩ : blocks_kind)) else (if name = ([84, 80] : Str) then (some (⟨[1, 4], [1, 4], (some 102)⟩ : blocks_kind)) else (if name = ([67, 84, 85] : Str) then (some (⟨[1, 1, 2], [1, 2], (some 103)⟩ : blocks_kind)) else (if name = ([67, 84, 68] : Str) then (some (⟨[1, 1, 2], [1, 2], (some 104)⟩ : blocks_kind)) else (if name = ([67, 84, 85, 68] : Str) then (some (⟨[1, 1, 1, 1, 2], [1, 1, 2], (some 105)⟩ : blocks_kind)) else (if name = ([82, 95, 84, 82, 73, 71] : Str) then (some (⟨[1], [1], (some 106)⟩ : blocks_kind)) else (if name = ([70, 95, 84, 82, 73, 71] : Str) then (some (⟨[1], [1], (some 107)⟩ : blocks_kind)) else (if name = ([83, 82] : Str) then (some (⟨[1, 1], [1], (some 108)⟩ : blocks_kind)) else (if name = ([82, 83] : Str) then (some (⟨[1, 1], [1], (some 109)⟩ : blocks_kind)) else (some (⟨[], [], none⟩ : blocks_kind)))))))))))
def blocks_Inputs (name : Str) : Option (List Int) :=
  if name = ([84, 79, 78] : Str) then (some [1, 4]) else (if name = ([84, 79, 70] : Str) then (some [1, 4]) else (if name = ([84, 80] : Str) then (some [1, 4]) else (if name = ([67, 84, 85] : Str) then (some [1, 1, 2]) else (if name = ([67, 84, 68] : Str) then (some [1, 1, 2]) else (if name = ([67, 84, 85, 68] : Str) then (some [1, 1, 1, 1, 2]) else (if name = ([82, 95, 84, 82, 73, 71] : Str) then (some [1]) else (if name = ([70, 95, 84, 82, 73, 71] : Str) then (some [1]) else (if name = ([83, 82] : Str) then (some [1, 1]) else (if name = ([82, 83] : Str) then (some [1, 1]) else (some []))))))))))
def lazarettoref11_Inputs (kind : Str) : Option (List Int) :=
  if kind = ([84, 79, 78] : Str) then (some [1, 4]) else (if kind = ([84, 79, 70] : Str) then (some [1, 4]) else (if kind = ([84, 80] : Str) then (some [1, 4]) else (if kind = ([67, 84, 85] : Str) then (some [1, 1, 2]) else (if kind = ([67, 84, 68] : Str) then (some [1, 1, 2]) else (if kind = ([67, 84, 85, 68] : Str) then (some [1, 1, 1, 1, 2]) else (if kind = ([82, 95, 84, 82, 73, 71] : Str) then (some [1]) else (if kind = ([70, 95, 84, 82, 73, 71] : Str) then (some [1]) else (if kind = ([83, 82] : Str) then (some [1, 1]) else (if kind = ([82, 83] : Str) then (some [1, 1]) else (some []))))))))))
def blocks_Outputs (name : Str) : Option (List Int) :=
  if name = ([84, 79, 78] : Str) then (some [1, 4]) else (if name = ([84, 79, 70] : Str) then (some [1, 4]) else (if name = ([84, 80] : Str) then (some [1, 4]) else (if name = ([67, 84, 85] : Str) then (some [1, 2]) else (if name = ([67, 84, 68] : Str) then (some [1, 2]) else (if name = ([67, 84, 85, 68] : Str) then (some [1, 1, 2]) else (if name = ([82, 95, 84, 82, 73, 71] : Str) then (some [1]) else (if name = ([70, 95, 84, 82, 73, 71] : Str) then (some [1]) else (if name = ([83, 82] : Str) then (some [1]) else (if name = ([82, 83] : Str) then (some [1]) else (some []))))))))))
def lazarettoref11_Outputs (kind : Str) : Option (List Int) :=
  if kind = ([84, 79, 78] : Str) then (some [1, 4]) else (if kind = ([84, 79, 70] : Str) then (some [1, 4]) else (if kind = ([84, 80] : Str) then (some [1, 4]) else (if kind = ([67, 84, 85] : Str) then (some [1, 2]) else (if kind = ([67, 84, 68] : Str) then (some [1, 2]) else (if kind = ([67, 84, 85, 68] : Str) then (some [1, 1, 2]) else (if kind = ([82, 95, 84, 82, 73, 71] : Str) then (some [1]) else (if kind = ([70, 95, 84, 82, 73, 71] : Str) then (some [1]) else (if kind = ([83, 82] : Str) then (some [1]) else (if kind = ([82, 83] : Str) then (some [1]) else (some []))))))))))
def blocks_Out (name : Str) (s : A4 Int) (i : Int) : Option Int :=
  if name = ([84, 79, 78] : Str) then (if i < 0 then (some 0) else (if 2 ≤ i then (some 0) else (if name = ([67, 84, 85, 68] : Str) then ((blocks_bit (decide (s.a3 ≤ s.a0))).bind fun r_1 => (blocks_bit (decide (s.a0 ≤ 0))).bind fun r_2 => (blocks_of name).bind fun r_3 => (r_3.out[2]?).bind fun x_4 => (ints_Wrap x_4 s.a0).bind fun r_5 => if i = 0 then (some r_1) else (if i = 1 then (some r_2) else (if i = 2 then (some r_5) else none))) else (if i = 0 then ((blocks_bit (!(decide (s.a0 = 0)))).bind fun r_6 => some r_6) else ((blocks_of name).bind fun r_7 => (idx r_7.out i).bind fun x_8 => (ints_Wrap x_8 s.a1).bind fun r_9 => some r_9))))) else (if name = ([84, 79, 70] : Str) then (if i < 0 then (some 0) else (if 2 ≤ i then (some 0) else (if name = ([67, 84, 85, 68] : Str) then ((blocks_bit (decide (s.a3 ≤ s.a0))).bind fun r_10 => (blocks_bit (decide (s.a0 ≤ 0))).bind fun r_11 => (blocks_of name).bind fun r_12 => (r_12.out[2]?).bind fun x_13 => (ints_Wrap x_13 s.a0).bind fun r_14 => if i = 0 then (some r_10) else (if i = 1 then (some r_11) else (if i = 2 then (some r_14) else none))) else (if i = 0 then ((blocks_bit (!(decide (s.a0 = 0)))).bind fun r_15 => some r_15) else ((blocks_of name).bind fun r_16 => (idx r_16.out i).bind fun x_17 => (ints_Wrap x_17 s.a1).bind fun r_18 => some r_18))))) else (if name = ([84, 80] : Str) then (if i < 0 then (some 0) else (if 2 ≤ i then (some 0) else (if name = ([67, 84, 85, 68] : Str) then ((blocks_bit (decide (s.a3 ≤ s.a0))).bind fun r_19 => (blocks_bit (decide (s.a0 ≤ 0))).bind fun r_20 => (blocks_of name).bind fun r_21 => (r_21.out[2]?).bind fun x_22 => (ints_Wrap x_22 s.a0).bind fun r_23 => if i = 0 then (some r_19) else (if i = 1 then (some r_20) else (if i = 2 then (some r_23) else none))) else (if i = 0 then ((blocks_bit (!(decide (s.a0 = 0)))).bind fun r_24 => some r_24) else ((blocks_of name).bind fun r_25 => (idx r_25.out i).bind fun x_26 => (ints_Wrap x_26 s.a1).bind fun r_27 => some r_27))))) else (if name = ([67, 84, 85] : Str) then (if i < 0 then (some 0) else (if 2 ≤ i then (some 0) else (if name = ([67, 84, 85, 68] : Str) then ((blocks_bit (decide (s.a3 ≤ s.a0))).bind fun r_28 => (blocks_bit (decide (s.a0 ≤ 0))).bind fun r_29 => (blocks_of name).bind fun r_30 => (r_30.out[2]?).bind fun x_31 => (ints_Wrap x_31 s.a0).bind fun r_32 => if i = 0 then (some r_28) else (if i = 1 then (some r_29) else (if i = 2 then (some r_32) else none))) else (if i = 0 then ((blocks_bit (!(decide (s.a0 = 0)))).bind fun r_33 => some r_33) else ((blocks_of name).bind fun r_34 => (idx r_34.out i).bind fun x_35 => (ints_Wrap x_35 s.a1).bind fun r_36 => some r_36))))) else (if name = ([67, 84, 68] : Str) then (if i < 0 then (some 0) else (if 2 ≤ i then (some 0) else (if name = ([67, 84, 85, 68] : Str) then ((blocks_bit (decide (s.a3 ≤ s.a0))).bind fun r_37 => (blocks_bit (decide (s.a0 ≤ 0))).bind fun r_38 => (blocks_of name).bind fun r_39 => (r_39.out[2]?).bind fun x_40 => (ints_Wrap x_40 s.a0).bind fun r_41 => if i = 0 then (some r_37) else (if i = 1 then (some r_38) else (if i = 2 then (some r_41) else none))) else (if i = 0 then ((blocks_bit (!(decide (s.a0 = 0)))).bind fun r_42 => some r_42) else ((blocks_of name).bind fun r_43 => (idx r_43.out i).bind fun x_44 => (ints_Wrap x_44 s.a1).bind fun r_45 => some r_45))))) else (if name = ([67, 84, 85, 68] : Str) then (if i < 0 then (some 0) else (if 3 ≤ i then (some 0) else ((blocks_bit (decide (s.a3 ≤ s.a0))).bind fun r_46 => (blocks_bit (decide (s.a0 ≤ 0))).bind fun r_47 => (blocks_of name).bind fun r_48 => (r_48.out[2]?).bind fun x_49 => (ints_Wrap x_49 s.a0).bind fun r_50 => if i = 0 then (some r_46) else (if i = 1 then (some r_47) else (if i = 2 then (some r_50) else none))))) else (if name = ([82, 95, 84, 82, 73, 71] : Str) then (if i < 0 then (some 0) else (if 1 ≤ i then (some 0) else (if i = 0 then ((blocks_bit (!(decide (s.a0 = 0)))).bind fun r_51 => some r_51) else ((blocks_of name).bind fun r_52 => (idx r_52.out i).bind fun x_53 => (ints_Wrap x_53 s.a1).bind fun r_54 => some r_54)))) else (if name = ([70, 95, 84, 82, 73, 71] : Str) then (if i < 0 then (some 0) else (if 1 ≤ i then (some 0) else (if i = 0 then ((blocks_bit (!(decide (s.a0 = 0)))).bind fun r_55 => some r_55) else ((blocks_of name).bind fun r_56 => (idx r_56.out i).bind fun x_57 => (ints_Wrap x_57 s.a1).bind fun r_58 => some r_58)))) else (if name = ([83, 82] : Str) then (if i < 0 then (some 0) else (if 1 ≤ i then (some 0) else (if i = 0 then ((blocks_bit (!(decide (s.a0 = 0)))).bind fun r_59 => some r_59) else ((blocks_of name).bind fun r_60 => (idx r_60.out i).bind fun x_61 => (ints_Wrap x_61 s.a1).bind fun r_62 => some r_62)))) else (if name = ([82, 83] : Str) then (if i < 0 then (some 0) else (if 1 ≤ i then (some 0) else (if i = 0 then ((blocks_bit (!(decide (s.a0 = 0)))).bind fun r_63 => some r_63) else ((blocks_of name).bind fun r_64 => (idx r_64.out i).bind fun x_65 => (ints_Wrap x_65 s.a1).bind fun r_66 => some r_66)))) else (if i < 0 then (some 0) else (if 0 ≤ i then (some 0) else none)))))))))))
def blocks_Step_L10 (in_ : List Int) : ((List Int) × Nat) → Option (((List Int) × Nat) ⊕ (List Int))
  | (l_101, x_102) => if (x_102 : Int) < (in_.length : Int) then ((in_[x_102]?).bind fun x_105 => ([1, 1][x_102]?).bind fun x_106 => (ints_Wrap x_106 x_105).bind fun r_107 => (l_101[x_102]?).bind fun x_108 => some (.inl ((l_101.set x_102 r_107), (x_102 + 1)))) else (some (.inr (l_101)))
def blocks_Step_L9 (in_ : List Int) : ((List Int) × Nat) → Option (((List Int) × Nat) ⊕ (List Int))
  | (l_90, x_91) => if (x_91 : Int) < (in_.length : Int) then ((in_[x_91]?).bind fun x_94 => ([1, 1][x_91]?).bind fun x_95 => (ints_Wrap x_95 x_94).bind fun r_96 => (l_90[x_91]?).bind fun x_97 => some (.inl ((l_90.set x_91 r_96), (x_91 + 1)))) else (some (.inr (l_90)))
def blocks_Step_L8 (in_ : List Int) : ((List Int) × Nat) → Option (((List Int) × Nat) ⊕ (List Int))
  | (l_79, x_80) => if (x_80 : Int) < (in_.length : Int) then ((in_[x_80]?).bind fun x_83 => ([1][x_80]?).bind fun x_84 => (ints_Wrap x_84 x_83).bind fun r_85 => (l_79[x_80]?).bind fun x_86 => some (.inl ((l_79.set x_80 r_85), (x_80 + 1)))) else (some (.inr (l_79)))
def blocks_Step_L7 (in_ : List Int) : ((List Int) × Nat) → Option (((List Int) × Nat) ⊕ (List Int))
  | (l_68, x_69) => if (x_69 : Int) < (in_.length : Int) then ((in_[x_69]?).bind fun x_72 => ([1][x_69]?).bind fun x_73 => (ints_Wrap x_73 x_72).bind fun r_74 => (l_68[x_69]?).bind fun x_75 => some (.inl ((l_68.set x_69 r_74), (x_69 + 1)))) else (some (.inr (l_68)))
def blocks_Step_L6 (in_ : List Int) : ((List Int) × Nat) → Option (((List Int) × Nat) ⊕ (List Int))
  | (l_57, x_58) => if (x_58 : Int) < (in_.length : Int) then ((in_[x_58]?).bind fun x_61 => ([1, 1, 1, 1, 2][x_58]?).bind fun x_62 => (ints_Wrap x_62 x_61).bind fun r_63 => (l_57[x_58]?).bind fun x_64 => some (.inl ((l_57.set x_58 r_63), (x_58 + 1)))) else (some (.inr (l_57)))
def blocks_Step_L5 (in_ : List Int) : ((List Int) × Nat) → Option (((List Int) × Nat) ⊕ (List Int))
  | (l_46, x_47) => if (x_47 : Int) < (in_.length : Int) then ((in_[x_47]?).bind fun x_50 => ([1, 1, 2][x_47]?).bind fun x_51 => (ints_Wrap x_51 x_50).bind fun r_52 => (l_46[x_47]?).bind fun x_53 => some (.inl ((l_46.set x_47 r_52), (x_47 + 1)))) else (some (.inr (l_46)))
def blocks_Step_L4 (in_ : List Int) : ((List Int) × Nat) → Option (((List Int) × Nat) ⊕ (List Int))
  | (l_35, x_36) => if (x_36 : Int) < (in_.length : Int) then ((in_[x_36]?).bind fun x_39 => ([1, 1, 2][x_36]?).bind fun x_40 => (ints_Wrap x_40 x_39).bind fun r_41 => (l_35[x_36]?).bind fun x_42 => some (.inl ((l_35.set x_36 r_41), (x_36 + 1)))) else (some (.inr (l_35)))
def blocks_Step_L3 (in_ : List Int) : ((List Int) × Nat) → Option (((List Int) × Nat) ⊕ (List Int))
  | (l_24, x_25) => if (x_25 : Int) < (in_.length : Int) then ((in_[x_25]?).bind fun x_28 => ([1, 4][x_25]?).bind fun x_29 => (ints_Wrap x_29 x_28).bind fun r_30 => (l_24[x_25]?).bind fun x_31 => some (.inl ((l_24.set x_25 r_30), (x_25 + 1)))) else (some (.inr (l_24)))
def blocks_Step_L2 (in_ : List Int) : ((List Int) × Nat) → Option (((List Int) × Nat) ⊕ (List Int))
  | (l_13, x_14) => if (x_14 : Int) < (in_.length : Int) then ((in_[x_14]?).bind fun x_17 => ([1, 4][x_14]?).bind fun x_18 => (ints_Wrap x_18 x_17).bind fun r_19 => (l_13[x_14]?).bind fun x_20 => some (.inl ((l_13.set x_14 r_19), (x_14 + 1)))) else (some (.inr (l_13)))
def blocks_Step_L1 (in_ : List Int) : ((List Int) × Nat) → Option (((List Int) × Nat) ⊕ (List Int))
  | (l_2, x_3) => if (x_3 : Int) < (in_.length : Int) then ((in_[x_3]?).bind fun x_6 => ([1, 4][x_3]?).bind fun x_7 => (ints_Wrap x_7 x_6).bind fun r_8 => (l_2[x_3]?).bind fun x_9 => some (.inl ((l_2.set x_3 r_8), (x_3 + 1)))) else (some (.inr (l_2)))
def blocks_Step (name : Str) (s : A4 Int) (in_ : List Int) (now : Int) : Option (A4 Int) :=
  if name = ([84, 79, 78] : Str) then (if (in_.length : Int) = 2 then (need (0 ≤ (in_.length : Int) ∧ 8 * (in_.length : Int) ≤ 140737488355328) ((loop (blocks_Step_L1 in_) ((List.replicate in_.length 0), 0)).bind (fun e_4 => (blocks_ton s e_4 now).bind fun r_11 => some r_11))) else (some s)) else (if name = ([84, 79, 70] : Str) then (if (in_.length : Int) = 2 then (need (0 ≤ (in_.length : Int) ∧ 8 * (in_.length : Int) ≤ 140737488355328) ((loop (blocks_Step_L2 in_) ((List.replicate in_.length 0), 0)).bind (fun e_15 => (blocks_tof s e_15 now).bind fun r_22 => some r_22))) else (some s)) else (if name = ([84, 80] : Str) then (if (in_.length : Int) = 2 then (need (0 ≤ (in_.length : Int) ∧ 8 * (in_.length : Int) ≤ 140737488355328) ((loop (blocks_Step_L3 in_) ((List.replicate in_.length 0), 0)).bind (fun e_26 => (blocks_tp s e_26 now).bind fun r_33 => some r_33))) else (some s)) else (if name = ([67, 84, 85] : Str) then (if (in_.length : Int) = 3 then (need (0 ≤ (in_.length : Int) ∧ 8 * (in_.length : Int) ≤ 140737488355328) ((loop (blocks_Step_L4 in_) ((List.replicate in_.length 0), 0)).bind (fun e_37 => (blocks_ctu s e_37 now).bind fun r_44 => some r_44))) else (some s)) else (if name = ([67, 84, 68] : Str) then (if (in_.length : Int) = 3 then (need (0 ≤ (in_.length : Int) ∧ 8 * (in_.length : Int) ≤ 140737488355328) ((loop (blocks_Step_L5 in_) ((List.replicate in_.length 0), 0)).bind (fun e_48 => (blocks_ctd s e_48 now).bind fun r_55 => some r_55))) else (some s)) else (if name = ([67, 84, 85, 68] : Str) then (if (in_.length : Int) = 5 then (need (0 ≤ (in_.length : Int) ∧ 8 * (in_.length : Int) ≤ 140737488355328) ((loop (blocks_Step_L6 in_) ((List.replicate in_.length 0), 0)).bind (fun e_59 => (blocks_ctud s e_59 now).bind fun r_66 => some r_66))) else (some s)) else (if name = ([82, 95, 84, 82, 73, 71] : Str) then (if (in_.length : Int) = 1 then (need (0 ≤ (in_.length : Int) ∧ 8 * (in_.length : Int) ≤ 140737488355328) ((loop (blocks_Step_L7 in_) ((List.replicate in_.length 0), 0)).bind (fun e_70 => (blocks_rises s e_70 now).bind fun r_77 => some r_77))) else (some s)) else (if name = ([70, 95, 84, 82, 73, 71] : Str) then (if (in_.length : Int) = 1 then (need (0 ≤ (in_.length : Int) ∧ 8 * (in_.length : Int) ≤ 140737488355328) ((loop (blocks_Step_L8 in_) ((List.replicate in_.length 0), 0)).bind (fun e_81 => (blocks_falls s e_81 now).bind fun r_88 => some r_88))) else (some s)) else (if name = ([83, 82] : Str) then (if (in_.length : Int) = 2 then (need (0 ≤ (in_.length : Int) ∧ 8 * (in_.length : Int) ≤ 140737488355328) ((loop (blocks_Step_L9 in_) ((List.replicate in_.length 0), 0)).bind (fun e_92 => (blocks_sr s e_92 now).bind fun r_99 => some r_99))) else (some s)) else (if name = ([82, 83] : Str) then (if (in_.length : Int) = 2 then (need (0 ≤ (in_.length : Int) ∧ 8 * (in_.length : Int) ≤ 140737488355328) ((loop (blocks_Step_L10 in_) ((List.replicate in_.length 0), 0)).bind (fun e_103 => (blocks_rs s e_103 now).bind fun r_110 => some r_110))) else (some s)) else (some s))))))))))
def lazarettolaw11_awake : Option Bool :=
  (blocks_Step ([84, 79, 78] : Str) (⟨0, 0, 0, 0⟩ : A4 Int) [1, 3] 5).bind fun r_1 => (blocks_Out ([84, 79, 78] : Str) r_1 0).bind fun r_2 => (blocks_Out ([84, 79, 78] : Str) r_1 1).bind fun r_3 => (blocks_Step ([84, 79, 78] : Str) r_1 [1, 3] 7).bind fun r_4 => (blocks_Out ([84, 79, 78] : Str) r_4 1).bind fun r_5 => (blocks_Step ([84, 79, 78] : Str) r_4 [1, 3] 8).bind fun r_6 => (blocks_Step ([67, 84, 85, 68] : Str) (⟨0, 0, 0, 0⟩ : A4 Int) [1, 0, 0, 0, 1] 0).bind fun r_7 => if r_2 = 0 then (if r_3 = 0 then (if r_5 = 2 then ((blocks_Out ([84, 79, 78] : Str) r_6 0).bind fun r_8 => if r_8 = 1 then ((blocks_Out ([84, 79, 78] : Str) r_6 1).bind fun r_9 => if r_9 = 3 then ((blocks_Out ([67, 84, 85, 68] : Str) r_7 0).bind fun r_10 => if r_10 = 1 then ((blocks_Kinds).bind fun r_11 => if (r_11.length : Int) = 10 then ((blocks_Inputs ([67, 84, 85, 68] : Str)).bind fun r_12 => if (r_12.length : Int) = 5 then ((blocks_Outputs ([88, 88] : Str)).bind fun r_13 => some (decide ((r_13.length : Int) = 0))) else (some false)) else (some false)) else (some false)) else (some false)) else (some false)) else (some false)) else (some false)) else (some false)
end
theorem lazarettoref09_Texts_ok {a : List Str} {b : List Str} {r : Bool} (h : lazarettoref09_Texts a b = some r) :
    Pu Try.prog 47 [.one (.sl (a.map eS)), .one (.sl (b.map eS))] (.one (.bool r)) := by
  have F := trivial; have R := trivial
  refine pA Try.func47 ?_
  simp only [Try.f47]
  unfold lazarettoref09_Texts at h
  refine tt ?_
  repeat (first | (with_reducible intro _) | refine ⟨ss, ?_⟩)
  refine fi h F (fun h _ F => ?_) (fun h _ F => ?_)
  refine bi h fun e_2 h he_2 => ?_
  refine tt ?_
  refine lE (fun (s__ : Nat) (a__ : Unit) => match s__, a__ with | i_1, _ => ⟨[(0, .one (.sl (a.map eS))), (1, .one (.sl (b.map eS))), (5, .one (.int .i64 (i_1 : Int)))], []⟩) (fun (e__ : Bool ⊕ Unit) (b__ : Unit) => match e__, b__ with | (.inl e_6), _ => ⟨[], []⟩ | (.inr ()), _ => ⟨[], []⟩) (fun (e__ : Bool ⊕ Unit) => match e__ with | (.inl _) => none | (.inr _) => some 0) () he_2 ?_ ?_
  intro i3 b3 hi3
  rcases e_2 with e_case | ⟨⟩
  cases hi3
  obtain rfl := Option.some.inj hi3
  obtain ⟨⟩ := b3
  dsimp only at h ⊢
  cases h; exact fin
  intro af3 m3 i_1 a3 o3 hf3 ho3 ih3
  obtain ⟨⟩ := a3
  dsimp only [lazarettoref09_Texts_L1] at hf3 ⊢
  refine tt ?_
  repeat (first | (with_reducible intro _) | refine ⟨ss, ?_⟩)
  refine fl hf3 F (fun hf3 _ F => ?_) (fun hf3 _ F => ?_)
  refine bx hf3 F fun x_4 hf3 hx_4 F => ?_
  refine bx hf3 F fun x_5 hf3 hx_5 F => ?_
  refine tt ?_
  repeat (first | (with_reducible intro _) | refine ⟨ss, ?_⟩)
  refine fi hf3 F (fun hf3 _ F => ?_) (fun hf3 _ F => ?_)
  cases hf3
  refine tt ?_
  refine wn i_1 F fun F => ?_
  exact bk ih3 ho3 ()
  cases hf3
  obtain rfl := sr ho3
  try dsimp only at h
  cases h
  exact fin
  cases hf3
  refine tt ?_
  exact xt ho3 af3 ()
  cases h; exact fin
theorem blocks_Kinds_ok {r : List Str} (h : blocks_Kinds = some r) :
    Pu Try.prog 48 [] (.one (.sl (r.map eS))) := by
  have F := trivial; have R := trivial
  refine pA Try.func48 ?_
  simp only [Try.f48]
  unfold blocks_Kinds at h
  cases h; exact fin
theorem lazarettoref11_Kinds_ok {r : List Str} (h : lazarettoref11_Kinds = some r) :
    Pu Try.prog 49 [] (.one (.sl (r.map eS))) := by
  have F := trivial; have R := trivial
  refine pA Try.func49 ?_
  simp only [Try.f49]
  unfold lazarettoref11_Kinds at h
  cases h; exact fin
theorem blocks_bit_ok {b : Bool} {r : Int} (h : blocks_bit b = some r) :
    Pu Try.prog 82 [.one (.bool b)] (.one (.int .i64 r)) := by
  have F := trivial; have R := trivial
  refine pA Try.func82 ?_
  simp only [Try.f82]
  unfold blocks_bit at h
  refine fv h F (fun h _ F => ?_) (fun h _ F => ?_)
  cases h; exact fin
  cases h; exact fin
theorem blocks_since_ok {now : Int} {from_ : Int} {most : Int} {r : Int} (h : blocks_since now from_ most = some r) :
    Pu Try.prog 130 [.one (.int .i64 now), .one (.int .i64 from_), .one (.int .i64 most)] (.one (.int .i64 r)) := by
  have F := trivial; have R := trivial
  refine pA Try.func130 ?_
  simp only [Try.f130]
  unfold blocks_since at h
  refine fi h F (fun h _ F => ?_) (fun h _ F => ?_)
  cases h; exact fin
  refine tt ?_
  refine fi h F (fun h _ F => ?_) (fun h _ F => ?_)
  cases h; exact fin
  refine tt ?_
  refine fi h F (fun h _ F => ?_) (fun h _ F => ?_)
  cases h; exact fin
  cases h; exact fin
theorem blocks_ton_ok {s : A4 Int} {in_ : List Int} {now : Int} {r : A4 Int} (h : blocks_ton s in_ now = some r) :
    Pu Try.prog 100 [.agg ((eA4 eI) s), .one (.sl (in_.map eI)), .one (.int .i64 now)] (.agg ((eA4 eI) r)) := by
  have F := trivial; have R := trivial
  refine pA Try.func100 ?_
  simp only [Try.f100]
  unfold blocks_ton at h
  refine bx h F fun x_1 h hx_1 F => ?_
  refine tt ?_
  repeat (first | (with_reducible intro _) | refine ⟨ss, ?_⟩)
  refine fi h F (fun h _ F => ?_) (fun h _ F => ?_)
  cases h; exact fin
  refine tt ?_
  repeat (first | (with_reducible intro _) | refine ⟨ss, ?_⟩)
  refine fi h F (fun h _ F => ?_) (fun h _ F => ?_)
  refine bx h F fun x_2 h hx_2 F => ?_
  refine bi h fun r_3 h hr_3 => ?_
  refine tt ?_
  repeat (first | (with_reducible intro _) | refine ⟨ss, ?_⟩)
  refine cD (blocks_since_ok hr_3) ?_
  refine bi h fun r_4 h hr_4 => ?_
  refine tt ?_
  repeat (first | (with_reducible intro _) | refine ⟨ss, ?_⟩)
  refine cD (blocks_bit_ok hr_4) ?_
  cases h; exact fin
  refine bx h F fun x_5 h hx_5 F => ?_
  refine bi h fun r_6 h hr_6 => ?_
  refine tt ?_
  repeat (first | (with_reducible intro _) | refine ⟨ss, ?_⟩)
  refine cD (blocks_since_ok hr_6) ?_
  refine bi h fun r_7 h hr_7 => ?_
  refine tt ?_
  repeat (first | (with_reducible intro _) | refine ⟨ss, ?_⟩)
  refine cD (blocks_bit_ok hr_7) ?_
  cases h; exact fin
theorem blocks_run_ok {s : A4 Int} {now : Int} {pt : Int} {r : A4 Int} (h : blocks_run s now pt = some r) :
    Pu Try.prog 131 [.agg ((eA4 eI) s), .one (.int .i64 now), .one (.int .i64 pt)] (.agg ((eA4 eI) r)) := by
  have F := trivial; have R := trivial
  refine pA Try.func131 ?_
  simp only [Try.f131]
  unfold blocks_run at h
  refine tt ?_
  repeat (first | (with_reducible intro _) | refine ⟨ss, ?_⟩)
  refine fi h F (fun h _ F => ?_) (fun h _ F => ?_)
  cases h; exact fin
  refine bi h fun r_1 h hr_1 => ?_
  refine tt ?_
  repeat (first | (with_reducible intro _) | refine ⟨ss, ?_⟩)
  refine cS (blocks_since_ok hr_1) ?_
  refine tt ?_
  repeat (first | (with_reducible intro _) | refine ⟨ss, ?_⟩)
  refine fi h F (fun h _ F => ?_) (fun h _ F => ?_)
  cases h; exact fin
  cases h; exact fin
theorem blocks_tof_ok {s : A4 Int} {in_ : List Int} {now : Int} {r : A4 Int} (h : blocks_tof s in_ now = some r) :
    Pu Try.prog 101 [.agg ((eA4 eI) s), .one (.sl (in_.map eI)), .one (.int .i64 now)] (.agg ((eA4 eI) r)) := by
  have F := trivial; have R := trivial
  refine pA Try.func101 ?_
  simp only [Try.f101]
  unfold blocks_tof at h
  refine bx h F fun x_1 h hx_1 F => ?_
  refine tt ?_
  repeat (first | (with_reducible intro _) | refine ⟨ss, ?_⟩)
  refine fi h F (fun h _ F => ?_) (fun h _ F => ?_)
  cases h; exact fin
  refine tt ?_
  repeat (first | (with_reducible intro _) | refine ⟨ss, ?_⟩)
  refine fi h F (fun h _ F => ?_) (fun h _ F => ?_)
  refine bx h F fun x_2 h hx_2 F => ?_
  refine bi h fun r_3 h hr_3 => ?_
  refine tt ?_
  repeat (first | (with_reducible intro _) | refine ⟨ss, ?_⟩)
  refine cD (blocks_run_ok hr_3) ?_
  cases h; exact fin
  refine bx h F fun x_4 h hx_4 F => ?_
  refine bi h fun r_5 h hr_5 => ?_
  refine tt ?_
  repeat (first | (with_reducible intro _) | refine ⟨ss, ?_⟩)
  refine cD (blocks_run_ok hr_5) ?_
  cases h; exact fin
theorem blocks_tp_ok {s : A4 Int} {in_ : List Int} {now : Int} {r : A4 Int} (h : blocks_tp s in_ now = some r) :
    Pu Try.prog 102 [.agg ((eA4 eI) s), .one (.sl (in_.map eI)), .one (.int .i64 now)] (.agg ((eA4 eI) r)) := by
  have F := trivial; have R := trivial
  refine pA Try.func102 ?_
  simp only [Try.f102]
  unfold blocks_tp at h
  refine bx h F fun x_1 h hx_1 F => ?_
  refine bi h fun r_2 h hr_2 => ?_
  refine tt ?_
  repeat (first | (with_reducible intro _) | refine ⟨ss, ?_⟩)
  refine cD (blocks_run_ok hr_2) ?_
  refine bx h F fun x_3 h hx_3 F => ?_
  refine tt ?_
  repeat (first | (with_reducible intro _) | refine ⟨ss, ?_⟩)
  refine fi h F (fun h _ F => ?_) (fun h _ F => ?_)
  refine tt ?_
  repeat (first | (with_reducible intro _) | refine ⟨ss, ?_⟩)
  refine fi h F (fun h _ F => ?_) (fun h _ F => ?_)
  refine tt ?_
  repeat (first | (with_reducible intro _) | refine ⟨ss, ?_⟩)
  refine fi h F (fun h _ F => ?_) (fun h _ F => ?_)
  refine bi h fun r_4 h hr_4 => ?_
  refine tt ?_
  repeat (first | (with_reducible intro _) | refine ⟨ss, ?_⟩)
  refine cS (blocks_bit_ok hr_4) ?_
  refine tt ?_
  repeat (first | (with_reducible intro _) | refine ⟨ss, ?_⟩)
  refine fi h F (fun h _ F => ?_) (fun h _ F => ?_)
  exact (by omega : False).elim
  cases h; exact fin
  refine tt ?_
  repeat (first | (with_reducible intro _) | refine ⟨ss, ?_⟩)
  refine fi h F (fun h _ F => ?_) (fun h _ F => ?_)
  exact (by omega : False).elim
  cases h; exact fin
  refine tt ?_
  repeat (first | (with_reducible intro _) | refine ⟨ss, ?_⟩)
  refine fi h F (fun h _ F => ?_) (fun h _ F => ?_)
  exact (by omega : False).elim
  cases h; exact fin
  refine tt ?_
  repeat (first | (with_reducible intro _) | refine ⟨ss, ?_⟩)
  refine fi h F (fun h _ F => ?_) (fun h _ F => ?_)
  refine tt ?_
  repeat (first | (with_reducible intro _) | refine ⟨ss, ?_⟩)
  refine fi h F (fun h _ F => ?_) (fun h _ F => ?_)
  cases h; exact fin
  cases h; exact fin
  cases h; exact fin
theorem blocks_up_ok {n : Int} {r : Int} (h : blocks_up n = some r) :
    Pu Try.prog 132 [.one (.int .i64 n)] (.one (.int .i64 r)) := by
  have F := trivial; have R := trivial
  refine pA Try.func132 ?_
  simp only [Try.f132]
  unfold blocks_up at h
  refine fi h F (fun h _ F => ?_) (fun h _ F => ?_)
  cases h; exact fin
  cases h; exact fin
theorem blocks_ctu_ok {s : A4 Int} {in_ : List Int} {p2 : Int} {r : A4 Int} (h : blocks_ctu s in_ p2 = some r) :
    Pu Try.prog 103 [.agg ((eA4 eI) s), .one (.sl (in_.map eI)), .one (.int .i64 p2)] (.agg ((eA4 eI) r)) := by
  have F := trivial; have R := trivial
  refine pA Try.func103 ?_
  simp only [Try.f103]
  unfold blocks_ctu at h
  refine bx h F fun x_1 h hx_1 F => ?_
  refine tt ?_
  repeat (first | (with_reducible intro _) | refine ⟨ss, ?_⟩)
  refine fi h F (fun h _ F => ?_) (fun h _ F => ?_)
  refine bx h F fun x_2 h hx_2 F => ?_
  refine bi h fun r_3 h hr_3 => ?_
  refine tt ?_
  repeat (first | (with_reducible intro _) | refine ⟨ss, ?_⟩)
  refine cD (blocks_bit_ok hr_3) ?_
  refine bx h F fun x_4 h hx_4 F => ?_
  cases h; exact fin
  refine bx h F fun x_5 h hx_5 F => ?_
  refine tt ?_
  repeat (first | (with_reducible intro _) | refine ⟨ss, ?_⟩)
  refine fi h F (fun h _ F => ?_) (fun h _ F => ?_)
  refine tt ?_
  repeat (first | (with_reducible intro _) | refine ⟨ss, ?_⟩)
  refine fi h F (fun h _ F => ?_) (fun h _ F => ?_)
  refine bi h fun r_6 h hr_6 => ?_
  refine tt ?_
  repeat (first | (with_reducible intro _) | refine ⟨ss, ?_⟩)
  refine cS (blocks_up_ok hr_6) ?_
  refine bx h F fun x_7 h hx_7 F => ?_
  refine bi h fun r_8 h hr_8 => ?_
  refine tt ?_
  repeat (first | (with_reducible intro _) | refine ⟨ss, ?_⟩)
  refine cD (blocks_bit_ok hr_8) ?_
  cases h; exact fin
  refine bx h F fun x_9 h hx_9 F => ?_
  refine bi h fun r_10 h hr_10 => ?_
  refine tt ?_
  repeat (first | (with_reducible intro _) | refine ⟨ss, ?_⟩)
  refine cD (blocks_bit_ok hr_10) ?_
  cases h; exact fin
  refine bx h F fun x_11 h hx_11 F => ?_
  refine bi h fun r_12 h hr_12 => ?_
  refine tt ?_
  repeat (first | (with_reducible intro _) | refine ⟨ss, ?_⟩)
  refine cD (blocks_bit_ok hr_12) ?_
  cases h; exact fin
theorem blocks_down_ok {n : Int} {r : Int} (h : blocks_down n = some r) :
    Pu Try.prog 133 [.one (.int .i64 n)] (.one (.int .i64 r)) := by
  have F := trivial; have R := trivial
  refine pA Try.func133 ?_
  simp only [Try.f133]
  unfold blocks_down at h
  refine fi h F (fun h _ F => ?_) (fun h _ F => ?_)
  cases h; exact fin
  cases h; exact fin
theorem blocks_ctd_ok {s : A4 Int} {in_ : List Int} {p2 : Int} {r : A4 Int} (h : blocks_ctd s in_ p2 = some r) :
    Pu Try.prog 104 [.agg ((eA4 eI) s), .one (.sl (in_.map eI)), .one (.int .i64 p2)] (.agg ((eA4 eI) r)) := by
  have F := trivial; have R := trivial
  refine pA Try.func104 ?_
  simp only [Try.f104]
  unfold blocks_ctd at h
  refine bx h F fun x_1 h hx_1 F => ?_
  refine tt ?_
  repeat (first | (with_reducible intro _) | refine ⟨ss, ?_⟩)
  refine fi h F (fun h _ F => ?_) (fun h _ F => ?_)
  refine bx h F fun x_2 h hx_2 F => ?_
  refine bi h fun r_3 h hr_3 => ?_
  refine tt ?_
  repeat (first | (with_reducible intro _) | refine ⟨ss, ?_⟩)
  refine cD (blocks_bit_ok hr_3) ?_
  refine bx h F fun x_4 h hx_4 F => ?_
  cases h; exact fin
  refine bx h F fun x_5 h hx_5 F => ?_
  refine tt ?_
  repeat (first | (with_reducible intro _) | refine ⟨ss, ?_⟩)
  refine fi h F (fun h _ F => ?_) (fun h _ F => ?_)
  refine tt ?_
  repeat (first | (with_reducible intro _) | refine ⟨ss, ?_⟩)
  refine fi h F (fun h _ F => ?_) (fun h _ F => ?_)
  refine bi h fun r_6 h hr_6 => ?_
  refine tt ?_
  repeat (first | (with_reducible intro _) | refine ⟨ss, ?_⟩)
  refine cS (blocks_down_ok hr_6) ?_
  refine bi h fun r_7 h hr_7 => ?_
  refine tt ?_
  repeat (first | (with_reducible intro _) | refine ⟨ss, ?_⟩)
  refine cD (blocks_bit_ok hr_7) ?_
  cases h; exact fin
  refine bi h fun r_8 h hr_8 => ?_
  refine tt ?_
  repeat (first | (with_reducible intro _) | refine ⟨ss, ?_⟩)
  refine cD (blocks_bit_ok hr_8) ?_
  cases h; exact fin
  refine bi h fun r_9 h hr_9 => ?_
  refine tt ?_
  repeat (first | (with_reducible intro _) | refine ⟨ss, ?_⟩)
  refine cD (blocks_bit_ok hr_9) ?_
  cases h; exact fin
theorem blocks_ctud_ok {s : A4 Int} {in_ : List Int} {p2 : Int} {r : A4 Int} (h : blocks_ctud s in_ p2 = some r) :
    Pu Try.prog 105 [.agg ((eA4 eI) s), .one (.sl (in_.map eI)), .one (.int .i64 p2)] (.agg ((eA4 eI) r)) := by
  have F := trivial; have R := trivial
  refine pA Try.func105 ?_
  simp only [Try.f105]
  unfold blocks_ctud at h
  refine bx h F fun x_1 h hx_1 F => ?_
  refine tt ?_
  repeat (first | (with_reducible intro _) | refine ⟨ss, ?_⟩)
  refine fi h F (fun h _ F => ?_) (fun h _ F => ?_)
  refine bx h F fun x_2 h hx_2 F => ?_
  refine tt ?_
  repeat (first | (with_reducible intro _) | refine ⟨ss, ?_⟩)
  refine fi h F (fun h _ F => ?_) (fun h _ F => ?_)
  refine bx h F fun x_3 h hx_3 F => ?_
  refine tt ?_
  repeat (first | (with_reducible intro _) | refine ⟨ss, ?_⟩)
  refine fi h F (fun h _ F => ?_) (fun h _ F => ?_)
  refine bx h F fun x_4 h hx_4 F => ?_
  cases h; exact fin
  refine bx h F fun x_5 h hx_5 F => ?_
  refine tt ?_
  repeat (first | (with_reducible intro _) | refine ⟨ss, ?_⟩)
  refine fi h F (fun h _ F => ?_) (fun h _ F => ?_)
  refine bx h F fun x_6 h hx_6 F => ?_
  cases h; exact fin
  refine fv h F (fun h _ F => ?_) (fun h _ F => ?_)
  refine bx h F fun x_7 h hx_7 F => ?_
  cases h; exact fin
  refine tt ?_
  refine fi h F (fun h _ F => ?_) (fun h _ F => ?_)
  refine bi h fun r_8 h hr_8 => ?_
  refine tt ?_
  repeat (first | (with_reducible intro _) | refine ⟨ss, ?_⟩)
  refine cS (blocks_up_ok hr_8) ?_
  refine bx h F fun x_9 h hx_9 F => ?_
  cases h; exact fin
  refine bi h fun r_10 h hr_10 => ?_
  refine tt ?_
  repeat (first | (with_reducible intro _) | refine ⟨ss, ?_⟩)
  refine cS (blocks_down_ok hr_10) ?_
  refine bx h F fun x_11 h hx_11 F => ?_
  cases h; exact fin
  refine bx h F fun x_12 h hx_12 F => ?_
  refine tt ?_
  repeat (first | (with_reducible intro _) | refine ⟨ss, ?_⟩)
  refine fi h F (fun h _ F => ?_) (fun h _ F => ?_)
  refine bx h F fun x_13 h hx_13 F => ?_
  cases h; exact fin
  refine bx h F fun x_14 h hx_14 F => ?_
  refine tt ?_
  repeat (first | (with_reducible intro _) | refine ⟨ss, ?_⟩)
  refine fi h F (fun h _ F => ?_) (fun h _ F => ?_)
  refine bx h F fun x_15 h hx_15 F => ?_
  cases h; exact fin
  refine fi h F (fun h _ F => ?_) (fun h _ F => ?_)
  refine bi h fun r_16 h hr_16 => ?_
  refine tt ?_
  repeat (first | (with_reducible intro _) | refine ⟨ss, ?_⟩)
  refine cS (blocks_up_ok hr_16) ?_
  refine bx h F fun x_17 h hx_17 F => ?_
  cases h; exact fin
  refine bx h F fun x_18 h hx_18 F => ?_
  cases h; exact fin
  refine bx h F fun x_19 h hx_19 F => ?_
  refine tt ?_
  repeat (first | (with_reducible intro _) | refine ⟨ss, ?_⟩)
  refine fi h F (fun h _ F => ?_) (fun h _ F => ?_)
  refine bx h F fun x_20 h hx_20 F => ?_
  refine tt ?_
  repeat (first | (with_reducible intro _) | refine ⟨ss, ?_⟩)
  refine fi h F (fun h _ F => ?_) (fun h _ F => ?_)
  refine bx h F fun x_21 h hx_21 F => ?_
  cases h; exact fin
  refine bx h F fun x_22 h hx_22 F => ?_
  refine tt ?_
  repeat (first | (with_reducible intro _) | refine ⟨ss, ?_⟩)
  refine fi h F (fun h _ F => ?_) (fun h _ F => ?_)
  refine bx h F fun x_23 h hx_23 F => ?_
  cases h; exact fin
  refine fi h F (fun h _ F => ?_) (fun h _ F => ?_)
  refine bi h fun r_24 h hr_24 => ?_
  refine tt ?_
  repeat (first | (with_reducible intro _) | refine ⟨ss, ?_⟩)
  refine cS (blocks_down_ok hr_24) ?_
  refine bx h F fun x_25 h hx_25 F => ?_
  cases h; exact fin
  refine bx h F fun x_26 h hx_26 F => ?_
  cases h; exact fin
  refine bx h F fun x_27 h hx_27 F => ?_
  refine tt ?_
  repeat (first | (with_reducible intro _) | refine ⟨ss, ?_⟩)
  refine fi h F (fun h _ F => ?_) (fun h _ F => ?_)
  refine bx h F fun x_28 h hx_28 F => ?_
  cases h; exact fin
  refine bx h F fun x_29 h hx_29 F => ?_
  refine tt ?_
  repeat (first | (with_reducible intro _) | refine ⟨ss, ?_⟩)
  refine fi h F (fun h _ F => ?_) (fun h _ F => ?_)
  refine bx h F fun x_30 h hx_30 F => ?_
  cases h; exact fin
  refine bx h F fun x_31 h hx_31 F => ?_
  cases h; exact fin
theorem blocks_rises_ok {s : A4 Int} {in_ : List Int} {p2 : Int} {r : A4 Int} (h : blocks_rises s in_ p2 = some r) :
    Pu Try.prog 106 [.agg ((eA4 eI) s), .one (.sl (in_.map eI)), .one (.int .i64 p2)] (.agg ((eA4 eI) r)) := by
  have F := trivial; have R := trivial
  refine pA Try.func106 ?_
  simp only [Try.f106]
  unfold blocks_rises at h
  refine bx h F fun x_1 h hx_1 F => ?_
  refine tt ?_
  repeat (first | (with_reducible intro _) | refine ⟨ss, ?_⟩)
  refine fi h F (fun h _ F => ?_) (fun h _ F => ?_)
  refine bi h fun r_2 h hr_2 => ?_
  refine tt ?_
  repeat (first | (with_reducible intro _) | refine ⟨ss, ?_⟩)
  refine cD (blocks_bit_ok hr_2) ?_
  refine tt ?_
  repeat (first | (with_reducible intro _) | refine ⟨sb, ?_⟩)
  refine ⟨lt_ [10, 11, 12], ?_⟩
  cases h; exact fin
  refine bi h fun r_3 h hr_3 => ?_
  refine tt ?_
  repeat (first | (with_reducible intro _) | refine ⟨ss, ?_⟩)
  refine cD (blocks_bit_ok hr_3) ?_
  refine tt ?_
  repeat (first | (with_reducible intro _) | refine ⟨sb, ?_⟩)
  refine ⟨lt_ [10, 11, 12], ?_⟩
  cases h; exact fin
theorem blocks_falls_ok {s : A4 Int} {in_ : List Int} {p2 : Int} {r : A4 Int} (h : blocks_falls s in_ p2 = some r) :
    Pu Try.prog 107 [.agg ((eA4 eI) s), .one (.sl (in_.map eI)), .one (.int .i64 p2)] (.agg ((eA4 eI) r)) := by
  have F := trivial; have R := trivial
  refine pA Try.func107 ?_
  simp only [Try.f107]
  unfold blocks_falls at h
  refine bx h F fun x_1 h hx_1 F => ?_
  refine tt ?_
  repeat (first | (with_reducible intro _) | refine ⟨ss, ?_⟩)
  refine fi h F (fun h _ F => ?_) (fun h _ F => ?_)
  refine bi h fun r_2 h hr_2 => ?_
  refine tt ?_
  repeat (first | (with_reducible intro _) | refine ⟨ss, ?_⟩)
  refine cD (blocks_bit_ok hr_2) ?_
  refine tt ?_
  repeat (first | (with_reducible intro _) | refine ⟨sb, ?_⟩)
  refine ⟨lt_ [10, 11, 12], ?_⟩
  cases h; exact fin
  refine bi h fun r_3 h hr_3 => ?_
  refine tt ?_
  repeat (first | (with_reducible intro _) | refine ⟨ss, ?_⟩)
  refine cD (blocks_bit_ok hr_3) ?_
  refine tt ?_
  repeat (first | (with_reducible intro _) | refine ⟨sb, ?_⟩)
  refine ⟨lt_ [10, 11, 12], ?_⟩
  cases h; exact fin
theorem blocks_sr_ok {s : A4 Int} {in_ : List Int} {p2 : Int} {r : A4 Int} (h : blocks_sr s in_ p2 = some r) :
    Pu Try.prog 108 [.agg ((eA4 eI) s), .one (.sl (in_.map eI)), .one (.int .i64 p2)] (.agg ((eA4 eI) r)) := by
  have F := trivial; have R := trivial
  refine pA Try.func108 ?_
  simp only [Try.f108]
  unfold blocks_sr at h
  refine bx h F fun x_1 h hx_1 F => ?_
  refine tt ?_
  repeat (first | (with_reducible intro _) | refine ⟨ss, ?_⟩)
  refine fi h F (fun h _ F => ?_) (fun h _ F => ?_)
  refine bi h fun r_2 h hr_2 => ?_
  refine tt ?_
  repeat (first | (with_reducible intro _) | refine ⟨ss, ?_⟩)
  refine cS (blocks_bit_ok hr_2) ?_
  cases h; exact fin
  refine tt ?_
  repeat (first | (with_reducible intro _) | refine ⟨ss, ?_⟩)
  refine fi h F (fun h _ F => ?_) (fun h _ F => ?_)
  refine bi h fun r_3 h hr_3 => ?_
  refine tt ?_
  repeat (first | (with_reducible intro _) | refine ⟨ss, ?_⟩)
  refine cS (blocks_bit_ok hr_3) ?_
  cases h; exact fin
  refine bx h F fun x_4 h hx_4 F => ?_
  refine bi h fun r_5 h hr_5 => ?_
  refine tt ?_
  repeat (first | (with_reducible intro _) | refine ⟨ss, ?_⟩)
  refine cS (blocks_bit_ok hr_5) ?_
  cases h; exact fin
theorem blocks_rs_ok {s : A4 Int} {in_ : List Int} {p2 : Int} {r : A4 Int} (h : blocks_rs s in_ p2 = some r) :
    Pu Try.prog 109 [.agg ((eA4 eI) s), .one (.sl (in_.map eI)), .one (.int .i64 p2)] (.agg ((eA4 eI) r)) := by
  have F := trivial; have R := trivial
  refine pA Try.func109 ?_
  simp only [Try.f109]
  unfold blocks_rs at h
  refine bx h F fun x_1 h hx_1 F => ?_
  refine tt ?_
  repeat (first | (with_reducible intro _) | refine ⟨ss, ?_⟩)
  refine fi h F (fun h _ F => ?_) (fun h _ F => ?_)
  refine bx h F fun x_2 h hx_2 F => ?_
  refine tt ?_
  repeat (first | (with_reducible intro _) | refine ⟨ss, ?_⟩)
  refine fi h F (fun h _ F => ?_) (fun h _ F => ?_)
  refine bi h fun r_3 h hr_3 => ?_
  refine tt ?_
  repeat (first | (with_reducible intro _) | refine ⟨ss, ?_⟩)
  refine cS (blocks_bit_ok hr_3) ?_
  cases h; exact fin
  refine bi h fun r_4 h hr_4 => ?_
  refine tt ?_
  repeat (first | (with_reducible intro _) | refine ⟨ss, ?_⟩)
  refine cS (blocks_bit_ok hr_4) ?_
  cases h; exact fin
  refine bi h fun r_5 h hr_5 => ?_
  refine tt ?_
  repeat (first | (with_reducible intro _) | refine ⟨ss, ?_⟩)
  refine cS (blocks_bit_ok hr_5) ?_
  cases h; exact fin
theorem blocks_of_ok {name : Str} {r : blocks_kind} (h : blocks_of name = some r) :
    Pu Try.prog 80 [.one (.str name)] (.agg (e_blocks_kind r)) := by
  have F := trivial; have R := trivial
  refine pA Try.func80 ?_
  simp only [Try.f80]
  unfold blocks_of at h
  refine tt ?_
  repeat (first | (with_reducible intro _) | refine ⟨ss, ?_⟩)
  refine fi h F (fun h _ F => ?_) (fun h _ F => ?_)
  refine tt ?_
  repeat (first | (with_reducible intro _) | refine ⟨ss, ?_⟩)
  refine iS Try.func99 ?_
  simp only [Try.f99]
  cases h; exact fin
  refine fi h F (fun h _ F => ?_) (fun h _ F => ?_)
  refine tt ?_
  repeat (first | (with_reducible intro _) | refine ⟨ss, ?_⟩)
  refine iS Try.func99 ?_
  simp only [Try.f99]
  cases h; exact fin
  refine fi h F (fun h _ F => ?_) (fun h _ F => ?_)
  refine tt ?_
  repeat (first | (with_reducible intro _) | refine ⟨ss, ?_⟩)
  refine iS Try.func99 ?_
  simp only [Try.f99]
  cases h; exact fin
  refine fi h F (fun h _ F => ?_) (fun h _ F => ?_)
  refine tt ?_
  repeat (first | (with_reducible intro _) | refine ⟨ss, ?_⟩)
  refine iS Try.func99 ?_
  simp only [Try.f99]
  cases h; exact fin
  refine tt ?_
  refine fi h F (fun h _ F => ?_) (fun h _ F => ?_)
  refine tt ?_
  repeat (first | (with_reducible intro _) | refine ⟨ss, ?_⟩)
  refine iS Try.func99 ?_
  simp only [Try.f99]
  cases h; exact fin
  refine fi h F (fun h _ F => ?_) (fun h _ F => ?_)
  cases h; exact fin
  refine fi h F (fun h _ F => ?_) (fun h _ F => ?_)
  refine tt ?_
  repeat (first | (with_reducible intro _) | refine ⟨ss, ?_⟩)
  refine iS Try.func99 ?_
  simp only [Try.f99]
  cases h; exact fin
  refine fi h F (fun h _ F => ?_) (fun h _ F => ?_)
  refine tt ?_
  repeat (first | (with_reducible intro _) | refine ⟨ss, ?_⟩)
  refine iS Try.func99 ?_
  simp only [Try.f99]
  cases h; exact fin
  refine tt ?_
  refine fi h F (fun h _ F => ?_) (fun h _ F => ?_)
  refine tt ?_
  repeat (first | (with_reducible intro _) | refine ⟨ss, ?_⟩)
  refine iS Try.func99 ?_
  simp only [Try.f99]
  cases h; exact fin
  refine fi h F (fun h _ F => ?_) (fun h _ F => ?_)
  refine tt ?_
  repeat (first | (with_reducible intro _) | refine ⟨ss, ?_⟩)
  refine iS Try.func99 ?_
  simp only [Try.f99]
  cases h; exact fin
  cases h; exact fin
theorem blocks_Inputs_ok {name : Str} {r : List Int} (h : blocks_Inputs name = some r) :
    Pu Try.prog 50 [.one (.str name)] (.one (.sl (r.map eI))) := by
  have F := trivial; have R := trivial
  refine pA Try.func50 ?_
  simp only [Try.f50]
  unfold blocks_Inputs at h
  refine tt ?_
  repeat (first | (with_reducible intro _) | refine ⟨ss, ?_⟩)
  refine iS Try.func80 ?_
  simp only [Try.f80]
  refine tt ?_
  repeat (first | (with_reducible intro _) | refine ⟨ss, ?_⟩)
  refine fi h F (fun h _ F => ?_) (fun h _ F => ?_)
  refine tt ?_
  repeat (first | (with_reducible intro _) | refine ⟨ss, ?_⟩)
  refine iS Try.func99 ?_
  simp only [Try.f99]
  cases h; exact fin
  refine fi h F (fun h _ F => ?_) (fun h _ F => ?_)
  refine tt ?_
  repeat (first | (with_reducible intro _) | refine ⟨ss, ?_⟩)
  refine iS Try.func99 ?_
  simp only [Try.f99]
  cases h; exact fin
  refine fi h F (fun h _ F => ?_) (fun h _ F => ?_)
  refine tt ?_
  repeat (first | (with_reducible intro _) | refine ⟨ss, ?_⟩)
  refine iS Try.func99 ?_
  simp only [Try.f99]
  cases h; exact fin
  refine fi h F (fun h _ F => ?_) (fun h _ F => ?_)
  refine tt ?_
  repeat (first | (with_reducible intro _) | refine ⟨ss, ?_⟩)
  refine iS Try.func99 ?_
  simp only [Try.f99]
  cases h; exact fin
  refine tt ?_
  refine fi h F (fun h _ F => ?_) (fun h _ F => ?_)
  refine tt ?_
  repeat (first | (with_reducible intro _) | refine ⟨ss, ?_⟩)
  refine iS Try.func99 ?_
  simp only [Try.f99]
  cases h; exact fin
  refine fi h F (fun h _ F => ?_) (fun h _ F => ?_)
  cases h; exact fin
  refine fi h F (fun h _ F => ?_) (fun h _ F => ?_)
  refine tt ?_
  repeat (first | (with_reducible intro _) | refine ⟨ss, ?_⟩)
  refine iS Try.func99 ?_
  simp only [Try.f99]
  cases h; exact fin
  refine fi h F (fun h _ F => ?_) (fun h _ F => ?_)
  refine tt ?_
  repeat (first | (with_reducible intro _) | refine ⟨ss, ?_⟩)
  refine iS Try.func99 ?_
  simp only [Try.f99]
  cases h; exact fin
  refine tt ?_
  refine fi h F (fun h _ F => ?_) (fun h _ F => ?_)
  refine tt ?_
  repeat (first | (with_reducible intro _) | refine ⟨ss, ?_⟩)
  refine iS Try.func99 ?_
  simp only [Try.f99]
  cases h; exact fin
  refine fi h F (fun h _ F => ?_) (fun h _ F => ?_)
  refine tt ?_
  repeat (first | (with_reducible intro _) | refine ⟨ss, ?_⟩)
  refine iS Try.func99 ?_
  simp only [Try.f99]
  cases h; exact fin
  cases h; exact fin
theorem lazarettoref11_Inputs_ok {kind : Str} {r : List Int} (h : lazarettoref11_Inputs kind = some r) :
    Pu Try.prog 51 [.one (.str kind)] (.one (.sl (r.map eI))) := by
  have F := trivial; have R := trivial
  refine pA Try.func51 ?_
  simp only [Try.f51]
  unfold lazarettoref11_Inputs at h
  refine fi h F (fun h _ F => ?_) (fun h _ F => ?_)
  cases h; exact fin
  refine fi h F (fun h _ F => ?_) (fun h _ F => ?_)
  cases h; exact fin
  refine tt ?_
  refine fi h F (fun h _ F => ?_) (fun h _ F => ?_)
  cases h; exact fin
  refine fi h F (fun h _ F => ?_) (fun h _ F => ?_)
  cases h; exact fin
  refine fi h F (fun h _ F => ?_) (fun h _ F => ?_)
  cases h; exact fin
  refine fi h F (fun h _ F => ?_) (fun h _ F => ?_)
  cases h; exact fin
  refine tt ?_
  refine fi h F (fun h _ F => ?_) (fun h _ F => ?_)
  cases h; exact fin
  refine fi h F (fun h _ F => ?_) (fun h _ F => ?_)
  cases h; exact fin
  refine fi h F (fun h _ F => ?_) (fun h _ F => ?_)
  cases h; exact fin
  refine fi h F (fun h _ F => ?_) (fun h _ F => ?_)
  cases h; exact fin
  cases h; exact fin
theorem blocks_Outputs_ok {name : Str} {r : List Int} (h : blocks_Outputs name = some r) :
    Pu Try.prog 52 [.one (.str name)] (.one (.sl (r.map eI))) := by
  have F := trivial; have R := trivial
  refine pA Try.func52 ?_
  simp only [Try.f52]
  unfold blocks_Outputs at h
  refine tt ?_
  repeat (first | (with_reducible intro _) | refine ⟨ss, ?_⟩)
  refine iS Try.func80 ?_
  simp only [Try.f80]
  refine tt ?_
  repeat (first | (with_reducible intro _) | refine ⟨ss, ?_⟩)
  refine fi h F (fun h _ F => ?_) (fun h _ F => ?_)
  refine tt ?_
  repeat (first | (with_reducible intro _) | refine ⟨ss, ?_⟩)
  refine iS Try.func99 ?_
  simp only [Try.f99]
  cases h; exact fin
  refine fi h F (fun h _ F => ?_) (fun h _ F => ?_)
  refine tt ?_
  repeat (first | (with_reducible intro _) | refine ⟨ss, ?_⟩)
  refine iS Try.func99 ?_
  simp only [Try.f99]
  cases h; exact fin
  refine fi h F (fun h _ F => ?_) (fun h _ F => ?_)
  refine tt ?_
  repeat (first | (with_reducible intro _) | refine ⟨ss, ?_⟩)
  refine iS Try.func99 ?_
  simp only [Try.f99]
  cases h; exact fin
  refine fi h F (fun h _ F => ?_) (fun h _ F => ?_)
  refine tt ?_
  repeat (first | (with_reducible intro _) | refine ⟨ss, ?_⟩)
  refine iS Try.func99 ?_
  simp only [Try.f99]
  cases h; exact fin
  refine tt ?_
  refine fi h F (fun h _ F => ?_) (fun h _ F => ?_)
  refine tt ?_
  repeat (first | (with_reducible intro _) | refine ⟨ss, ?_⟩)
  refine iS Try.func99 ?_
  simp only [Try.f99]
  cases h; exact fin
  refine fi h F (fun h _ F => ?_) (fun h _ F => ?_)
  cases h; exact fin
  refine fi h F (fun h _ F => ?_) (fun h _ F => ?_)
  refine tt ?_
  repeat (first | (with_reducible intro _) | refine ⟨ss, ?_⟩)
  refine iS Try.func99 ?_
  simp only [Try.f99]
  cases h; exact fin
  refine fi h F (fun h _ F => ?_) (fun h _ F => ?_)
  refine tt ?_
  repeat (first | (with_reducible intro _) | refine ⟨ss, ?_⟩)
  refine iS Try.func99 ?_
  simp only [Try.f99]
  cases h; exact fin
  refine tt ?_
  refine fi h F (fun h _ F => ?_) (fun h _ F => ?_)
  refine tt ?_
  repeat (first | (with_reducible intro _) | refine ⟨ss, ?_⟩)
  refine iS Try.func99 ?_
  simp only [Try.f99]
  cases h; exact fin
  refine fi h F (fun h _ F => ?_) (fun h _ F => ?_)
  refine tt ?_
  repeat (first | (with_reducible intro _) | refine ⟨ss, ?_⟩)
  refine iS Try.func99 ?_
  simp only [Try.f99]
  cases h; exact fin
  cases h; exact fin
theorem lazarettoref11_Outputs_ok {kind : Str} {r : List Int} (h : lazarettoref11_Outputs kind = some r) :
    Pu Try.prog 53 [.one (.str kind)] (.one (.sl (r.map eI))) := by
  have F := trivial; have R := trivial
  refine pA Try.func53 ?_
  simp only [Try.f53]
  unfold lazarettoref11_Outputs at h
  refine fi h F (fun h _ F => ?_) (fun h _ F => ?_)
  cases h; exact fin
  refine fi h F (fun h _ F => ?_) (fun h _ F => ?_)
  cases h; exact fin
  refine tt ?_
  refine fi h F (fun h _ F => ?_) (fun h _ F => ?_)
  cases h; exact fin
  refine fi h F (fun h _ F => ?_) (fun h _ F => ?_)
  cases h; exact fin
  refine fi h F (fun h _ F => ?_) (fun h _ F => ?_)
  cases h; exact fin
  refine fi h F (fun h _ F => ?_) (fun h _ F => ?_)
  cases h; exact fin
  refine tt ?_
  refine fi h F (fun h _ F => ?_) (fun h _ F => ?_)
  cases h; exact fin
  refine fi h F (fun h _ F => ?_) (fun h _ F => ?_)
  cases h; exact fin
  refine fi h F (fun h _ F => ?_) (fun h _ F => ?_)
  cases h; exact fin
  refine fi h F (fun h _ F => ?_) (fun h _ F => ?_)
  cases h; exact fin
  cases h; exact fin
theorem blocks_Out_ok {name : Str} {s : A4 Int} {i : Int} {r : Int} (h : blocks_Out name s i = some r) :
    Pu Try.prog 57 [.one (.str name), .agg ((eA4 eI) s), .one (.int .i64 i)] (.one (.int .i64 r)) := by
  have F := trivial; have R := trivial
  refine pA Try.func57 ?_
  simp only [Try.f57]
  unfold blocks_Out at h
  refine tt ?_
  repeat (first | (with_reducible intro _) | refine ⟨ss, ?_⟩)
  refine iS Try.func80 ?_
  simp only [Try.f80]
  refine tt ?_
  repeat (first | (with_reducible intro _) | refine ⟨ss, ?_⟩)
  refine fi h F (fun h _ F => ?_) (fun h _ F => ?_)
  refine tt ?_
  repeat (first | (with_reducible intro _) | refine ⟨ss, ?_⟩)
  refine iS Try.func99 ?_
  simp only [Try.f99]
  refine tt ?_
  repeat (first | (with_reducible intro _) | refine ⟨ss, ?_⟩)
  refine fi h F (fun h _ F => ?_) (fun h _ F => ?_)
  cases h; exact fin
  refine fi h F (fun h _ F => ?_) (fun h _ F => ?_)
  cases h; exact fin
  refine tt ?_
  refine fi h F (fun h _ F => ?_) (fun h _ F => ?_)
  refine bi h fun r_1 h hr_1 => ?_
  refine tt ?_
  repeat (first | (with_reducible intro _) | refine ⟨ss, ?_⟩)
  refine cD (blocks_bit_ok hr_1) ?_
  refine bi h fun r_2 h hr_2 => ?_
  refine tt ?_
  repeat (first | (with_reducible intro _) | refine ⟨ss, ?_⟩)
  refine cD (blocks_bit_ok hr_2) ?_
  refine bi h fun r_3 h hr_3 => ?_
  refine tt ?_
  repeat (first | (with_reducible intro _) | refine ⟨ss, ?_⟩)
  refine cD (blocks_of_ok hr_3) ?_
  refine bx h F fun x_4 h hx_4 F => ?_
  refine bi h fun r_5 h hr_5 => ?_
  refine tt ?_
  repeat (first | (with_reducible intro _) | refine ⟨ss, ?_⟩)
  refine cD (ints_Wrap_ok hr_5) ?_
  refine tt ?_
  repeat (first | (with_reducible intro _) | refine ⟨ss, ?_⟩)
  refine fe h F (fun h _ F => ?_) (fun h _ F => ?_)
  cases h; exact fin
  refine tt ?_
  repeat (first | (with_reducible intro _) | refine ⟨ss, ?_⟩)
  refine fe h F (fun h _ F => ?_) (fun h _ F => ?_)
  cases h; exact fin
  refine tt ?_
  repeat (first | (with_reducible intro _) | refine ⟨ss, ?_⟩)
  refine fe h F (fun h _ F => ?_) (fun h _ F => ?_)
  cases h; exact fin
  cases h
  refine fi h F (fun h _ F => ?_) (fun h _ F => ?_)
  refine bi h fun r_6 h hr_6 => ?_
  refine tt ?_
  repeat (first | (with_reducible intro _) | refine ⟨ss, ?_⟩)
  refine cS (blocks_bit_ok hr_6) ?_
  cases h; exact fin
  refine bi h fun r_7 h hr_7 => ?_
  refine tt ?_
  repeat (first | (with_reducible intro _) | refine ⟨ss, ?_⟩)
  refine cD (blocks_of_ok hr_7) ?_
  refine by_ h F fun x_8 h hx_8 F => ?_
  refine bi h fun r_9 h hr_9 => ?_
  refine tt ?_
  repeat (first | (with_reducible intro _) | refine ⟨ss, ?_⟩)
  refine cD (ints_Wrap_ok hr_9) ?_
  cases h; exact fin
  refine fi h F (fun h _ F => ?_) (fun h _ F => ?_)
  refine tt ?_
  repeat (first | (with_reducible intro _) | refine ⟨ss, ?_⟩)
  refine iS Try.func99 ?_
  simp only [Try.f99]
  refine tt ?_
  repeat (first | (with_reducible intro _) | refine ⟨ss, ?_⟩)
  refine fi h F (fun h _ F => ?_) (fun h _ F => ?_)
  cases h; exact fin
  refine fi h F (fun h _ F => ?_) (fun h _ F => ?_)
  cases h; exact fin
  refine tt ?_
  refine fi h F (fun h _ F => ?_) (fun h _ F => ?_)
  refine bi h fun r_10 h hr_10 => ?_
  refine tt ?_
  repeat (first | (with_reducible intro _) | refine ⟨ss, ?_⟩)
  refine cD (blocks_bit_ok hr_10) ?_
  refine bi h fun r_11 h hr_11 => ?_
  refine tt ?_
  repeat (first | (with_reducible intro _) | refine ⟨ss, ?_⟩)
  refine cD (blocks_bit_ok hr_11) ?_
  refine bi h fun r_12 h hr_12 => ?_
  refine tt ?_
  repeat (first | (with_reducible intro _) | refine ⟨ss, ?_⟩)
  refine cD (blocks_of_ok hr_12) ?_
  refine bx h F fun x_13 h hx_13 F => ?_
  refine bi h fun r_14 h hr_14 => ?_
  refine tt ?_
  repeat (first | (with_reducible intro _) | refine ⟨ss, ?_⟩)
  refine cD (ints_Wrap_ok hr_14) ?_
  refine tt ?_
  repeat (first | (with_reducible intro _) | refine ⟨ss, ?_⟩)
  refine fe h F (fun h _ F => ?_) (fun h _ F => ?_)
  cases h; exact fin
  refine tt ?_
  repeat (first | (with_reducible intro _) | refine ⟨ss, ?_⟩)
  refine fe h F (fun h _ F => ?_) (fun h _ F => ?_)
  cases h; exact fin
  refine tt ?_
  repeat (first | (with_reducible intro _) | refine ⟨ss, ?_⟩)
  refine fe h F (fun h _ F => ?_) (fun h _ F => ?_)
  cases h; exact fin
  cases h
  refine fi h F (fun h _ F => ?_) (fun h _ F => ?_)
  refine bi h fun r_15 h hr_15 => ?_
  refine tt ?_
  repeat (first | (with_reducible intro _) | refine ⟨ss, ?_⟩)
  refine cS (blocks_bit_ok hr_15) ?_
  cases h; exact fin
  refine bi h fun r_16 h hr_16 => ?_
  refine tt ?_
  repeat (first | (with_reducible intro _) | refine ⟨ss, ?_⟩)
  refine cD (blocks_of_ok hr_16) ?_
  refine by_ h F fun x_17 h hx_17 F => ?_
  refine bi h fun r_18 h hr_18 => ?_
  refine tt ?_
  repeat (first | (with_reducible intro _) | refine ⟨ss, ?_⟩)
  refine cD (ints_Wrap_ok hr_18) ?_
  cases h; exact fin
  refine fi h F (fun h _ F => ?_) (fun h _ F => ?_)
  refine tt ?_
  repeat (first | (with_reducible intro _) | refine ⟨ss, ?_⟩)
  refine iS Try.func99 ?_
  simp only [Try.f99]
  refine tt ?_
  repeat (first | (with_reducible intro _) | refine ⟨ss, ?_⟩)
  refine fi h F (fun h _ F => ?_) (fun h _ F => ?_)
  cases h; exact fin
  refine fi h F (fun h _ F => ?_) (fun h _ F => ?_)
  cases h; exact fin
  refine tt ?_
  refine fi h F (fun h _ F => ?_) (fun h _ F => ?_)
  refine bi h fun r_19 h hr_19 => ?_
  refine tt ?_
  repeat (first | (with_reducible intro _) | refine ⟨ss, ?_⟩)
  refine cD (blocks_bit_ok hr_19) ?_
  refine bi h fun r_20 h hr_20 => ?_
  refine tt ?_
  repeat (first | (with_reducible intro _) | refine ⟨ss, ?_⟩)
  refine cD (blocks_bit_ok hr_20) ?_
  refine bi h fun r_21 h hr_21 => ?_
  refine tt ?_
  repeat (first | (with_reducible intro _) | refine ⟨ss, ?_⟩)
  refine cD (blocks_of_ok hr_21) ?_
  refine bx h F fun x_22 h hx_22 F => ?_
  refine bi h fun r_23 h hr_23 => ?_
  refine tt ?_
  repeat (first | (with_reducible intro _) | refine ⟨ss, ?_⟩)
  refine cD (ints_Wrap_ok hr_23) ?_
  refine tt ?_
  repeat (first | (with_reducible intro _) | refine ⟨ss, ?_⟩)
  refine fe h F (fun h _ F => ?_) (fun h _ F => ?_)
  cases h; exact fin
  refine tt ?_
  repeat (first | (with_reducible intro _) | refine ⟨ss, ?_⟩)
  refine fe h F (fun h _ F => ?_) (fun h _ F => ?_)
  cases h; exact fin
  refine tt ?_
  repeat (first | (with_reducible intro _) | refine ⟨ss, ?_⟩)
  refine fe h F (fun h _ F => ?_) (fun h _ F => ?_)
  cases h; exact fin
  cases h
  refine fi h F (fun h _ F => ?_) (fun h _ F => ?_)
  refine bi h fun r_24 h hr_24 => ?_
  refine tt ?_
  repeat (first | (with_reducible intro _) | refine ⟨ss, ?_⟩)
  refine cS (blocks_bit_ok hr_24) ?_
  cases h; exact fin
  refine bi h fun r_25 h hr_25 => ?_
  refine tt ?_
  repeat (first | (with_reducible intro _) | refine ⟨ss, ?_⟩)
  refine cD (blocks_of_ok hr_25) ?_
  refine by_ h F fun x_26 h hx_26 F => ?_
  refine bi h fun r_27 h hr_27 => ?_
  refine tt ?_
  repeat (first | (with_reducible intro _) | refine ⟨ss, ?_⟩)
  refine cD (ints_Wrap_ok hr_27) ?_
  cases h; exact fin
  refine fi h F (fun h _ F => ?_) (fun h _ F => ?_)
  refine tt ?_
  repeat (first | (with_reducible intro _) | refine ⟨ss, ?_⟩)
  refine iS Try.func99 ?_
  simp only [Try.f99]
  refine tt ?_
  repeat (first | (with_reducible intro _) | refine ⟨ss, ?_⟩)
  refine fi h F (fun h _ F => ?_) (fun h _ F => ?_)
  cases h; exact fin
  refine fi h F (fun h _ F => ?_) (fun h _ F => ?_)
  cases h; exact fin
  refine tt ?_
  refine fi h F (fun h _ F => ?_) (fun h _ F => ?_)
  refine bi h fun r_28 h hr_28 => ?_
  refine tt ?_
  repeat (first | (with_reducible intro _) | refine ⟨ss, ?_⟩)
  refine cD (blocks_bit_ok hr_28) ?_
  refine bi h fun r_29 h hr_29 => ?_
  refine tt ?_
  repeat (first | (with_reducible intro _) | refine ⟨ss, ?_⟩)
  refine cD (blocks_bit_ok hr_29) ?_
  refine bi h fun r_30 h hr_30 => ?_
  refine tt ?_
  repeat (first | (with_reducible intro _) | refine ⟨ss, ?_⟩)
  refine cD (blocks_of_ok hr_30) ?_
  refine bx h F fun x_31 h hx_31 F => ?_
  refine bi h fun r_32 h hr_32 => ?_
  refine tt ?_
  repeat (first | (with_reducible intro _) | refine ⟨ss, ?_⟩)
  refine cD (ints_Wrap_ok hr_32) ?_
  refine tt ?_
  repeat (first | (with_reducible intro _) | refine ⟨ss, ?_⟩)
  refine fe h F (fun h _ F => ?_) (fun h _ F => ?_)
  cases h; exact fin
  refine tt ?_
  repeat (first | (with_reducible intro _) | refine ⟨ss, ?_⟩)
  refine fe h F (fun h _ F => ?_) (fun h _ F => ?_)
  cases h; exact fin
  refine tt ?_
  repeat (first | (with_reducible intro _) | refine ⟨ss, ?_⟩)
  refine fe h F (fun h _ F => ?_) (fun h _ F => ?_)
  cases h; exact fin
  cases h
  refine fi h F (fun h _ F => ?_) (fun h _ F => ?_)
  refine bi h fun r_33 h hr_33 => ?_
  refine tt ?_
  repeat (first | (with_reducible intro _) | refine ⟨ss, ?_⟩)
  refine cS (blocks_bit_ok hr_33) ?_
  cases h; exact fin
  refine bi h fun r_34 h hr_34 => ?_
  refine tt ?_
  repeat (first | (with_reducible intro _) | refine ⟨ss, ?_⟩)
  refine cD (blocks_of_ok hr_34) ?_
  refine by_ h F fun x_35 h hx_35 F => ?_
  refine bi h fun r_36 h hr_36 => ?_
  refine tt ?_
  repeat (first | (with_reducible intro _) | refine ⟨ss, ?_⟩)
  refine cD (ints_Wrap_ok hr_36) ?_
  cases h; exact fin
  refine tt ?_
  refine fi h F (fun h _ F => ?_) (fun h _ F => ?_)
  refine tt ?_
  repeat (first | (with_reducible intro _) | refine ⟨ss, ?_⟩)
  refine iS Try.func99 ?_
  simp only [Try.f99]
  refine tt ?_
  repeat (first | (with_reducible intro _) | refine ⟨ss, ?_⟩)
  refine fi h F (fun h _ F => ?_) (fun h _ F => ?_)
  cases h; exact fin
  refine fi h F (fun h _ F => ?_) (fun h _ F => ?_)
  cases h; exact fin
  refine tt ?_
  refine fi h F (fun h _ F => ?_) (fun h _ F => ?_)
  refine bi h fun r_37 h hr_37 => ?_
  refine tt ?_
  repeat (first | (with_reducible intro _) | refine ⟨ss, ?_⟩)
  refine cD (blocks_bit_ok hr_37) ?_
  refine bi h fun r_38 h hr_38 => ?_
  refine tt ?_
  repeat (first | (with_reducible intro _) | refine ⟨ss, ?_⟩)
  refine cD (blocks_bit_ok hr_38) ?_
  refine bi h fun r_39 h hr_39 => ?_
  refine tt ?_
  repeat (first | (with_reducible intro _) | refine ⟨ss, ?_⟩)
  refine cD (blocks_of_ok hr_39) ?_
  refine bx h F fun x_40 h hx_40 F => ?_
  refine bi h fun r_41 h hr_41 => ?_
  refine tt ?_
  repeat (first | (with_reducible intro _) | refine ⟨ss, ?_⟩)
  refine cD (ints_Wrap_ok hr_41) ?_
  refine tt ?_
  repeat (first | (with_reducible intro _) | refine ⟨ss, ?_⟩)
  refine fe h F (fun h _ F => ?_) (fun h _ F => ?_)
  cases h; exact fin
  refine tt ?_
  repeat (first | (with_reducible intro _) | refine ⟨ss, ?_⟩)
  refine fe h F (fun h _ F => ?_) (fun h _ F => ?_)
  cases h; exact fin
  refine tt ?_
  repeat (first | (with_reducible intro _) | refine ⟨ss, ?_⟩)
  refine fe h F (fun h _ F => ?_) (fun h _ F => ?_)
  cases h; exact fin
  cases h
  refine fi h F (fun h _ F => ?_) (fun h _ F => ?_)
  refine bi h fun r_42 h hr_42 => ?_
  refine tt ?_
  repeat (first | (with_reducible intro _) | refine ⟨ss, ?_⟩)
  refine cS (blocks_bit_ok hr_42) ?_
  cases h; exact fin
  refine bi h fun r_43 h hr_43 => ?_
  refine tt ?_
  repeat (first | (with_reducible intro _) | refine ⟨ss, ?_⟩)
  refine cD (blocks_of_ok hr_43) ?_
  refine by_ h F fun x_44 h hx_44 F => ?_
  refine bi h fun r_45 h hr_45 => ?_
  refine tt ?_
  repeat (first | (with_reducible intro _) | refine ⟨ss, ?_⟩)
  refine cD (ints_Wrap_ok hr_45) ?_
  cases h; exact fin
  refine fi h F (fun h _ F => ?_) (fun h _ F => ?_)
  refine tt ?_
  repeat (first | (with_reducible intro _) | refine ⟨ss, ?_⟩)
  refine fi h F (fun h _ F => ?_) (fun h _ F => ?_)
  cases h; exact fin
  refine fi h F (fun h _ F => ?_) (fun h _ F => ?_)
  cases h; exact fin
  refine bi h fun r_46 h hr_46 => ?_
  refine tt ?_
  repeat (first | (with_reducible intro _) | refine ⟨ss, ?_⟩)
  refine cD (blocks_bit_ok hr_46) ?_
  refine bi h fun r_47 h hr_47 => ?_
  refine tt ?_
  repeat (first | (with_reducible intro _) | refine ⟨ss, ?_⟩)
  refine cD (blocks_bit_ok hr_47) ?_
  refine bi h fun r_48 h hr_48 => ?_
  refine tt ?_
  repeat (first | (with_reducible intro _) | refine ⟨ss, ?_⟩)
  refine cD (blocks_of_ok hr_48) ?_
  refine bx h F fun x_49 h hx_49 F => ?_
  refine bi h fun r_50 h hr_50 => ?_
  refine tt ?_
  repeat (first | (with_reducible intro _) | refine ⟨ss, ?_⟩)
  refine cD (ints_Wrap_ok hr_50) ?_
  refine tt ?_
  repeat (first | (with_reducible intro _) | refine ⟨ss, ?_⟩)
  refine fe h F (fun h _ F => ?_) (fun h _ F => ?_)
  cases h; exact fin
  refine tt ?_
  repeat (first | (with_reducible intro _) | refine ⟨ss, ?_⟩)
  refine fe h F (fun h _ F => ?_) (fun h _ F => ?_)
  cases h; exact fin
  refine tt ?_
  repeat (first | (with_reducible intro _) | refine ⟨ss, ?_⟩)
  refine fe h F (fun h _ F => ?_) (fun h _ F => ?_)
  cases h; exact fin
  cases h
  refine fi h F (fun h _ F => ?_) (fun h _ F => ?_)
  refine tt ?_
  repeat (first | (with_reducible intro _) | refine ⟨ss, ?_⟩)
  refine iS Try.func99 ?_
  simp only [Try.f99]
  refine tt ?_
  repeat (first | (with_reducible intro _) | refine ⟨ss, ?_⟩)
  refine fi h F (fun h _ F => ?_) (fun h _ F => ?_)
  cases h; exact fin
  refine fi h F (fun h _ F => ?_) (fun h _ F => ?_)
  cases h; exact fin
  refine tt ?_
  refine fi h F (fun h _ F => ?_) (fun h _ F => ?_)
  refine bi h fun r_51 h hr_51 => ?_
  refine tt ?_
  repeat (first | (with_reducible intro _) | refine ⟨ss, ?_⟩)
  refine cS (blocks_bit_ok hr_51) ?_
  cases h; exact fin
  refine bi h fun r_52 h hr_52 => ?_
  refine tt ?_
  repeat (first | (with_reducible intro _) | refine ⟨ss, ?_⟩)
  refine cD (blocks_of_ok hr_52) ?_
  refine by_ h F fun x_53 h hx_53 F => ?_
  refine bi h fun r_54 h hr_54 => ?_
  refine tt ?_
  repeat (first | (with_reducible intro _) | refine ⟨ss, ?_⟩)
  refine cD (ints_Wrap_ok hr_54) ?_
  cases h; exact fin
  refine fi h F (fun h _ F => ?_) (fun h _ F => ?_)
  refine tt ?_
  repeat (first | (with_reducible intro _) | refine ⟨ss, ?_⟩)
  refine iS Try.func99 ?_
  simp only [Try.f99]
  refine tt ?_
  repeat (first | (with_reducible intro _) | refine ⟨ss, ?_⟩)
  refine fi h F (fun h _ F => ?_) (fun h _ F => ?_)
  cases h; exact fin
  refine fi h F (fun h _ F => ?_) (fun h _ F => ?_)
  cases h; exact fin
  refine tt ?_
  refine fi h F (fun h _ F => ?_) (fun h _ F => ?_)
  refine bi h fun r_55 h hr_55 => ?_
  refine tt ?_
  repeat (first | (with_reducible intro _) | refine ⟨ss, ?_⟩)
  refine cS (blocks_bit_ok hr_55) ?_
  cases h; exact fin
  refine bi h fun r_56 h hr_56 => ?_
  refine tt ?_
  repeat (first | (with_reducible intro _) | refine ⟨ss, ?_⟩)
  refine cD (blocks_of_ok hr_56) ?_
  refine by_ h F fun x_57 h hx_57 F => ?_
  refine bi h fun r_58 h hr_58 => ?_
  refine tt ?_
  repeat (first | (with_reducible intro _) | refine ⟨ss, ?_⟩)
  refine cD (ints_Wrap_ok hr_58) ?_
  cases h; exact fin
  refine tt ?_
  refine fi h F (fun h _ F => ?_) (fun h _ F => ?_)
  refine tt ?_
  repeat (first | (with_reducible intro _) | refine ⟨ss, ?_⟩)
  refine iS Try.func99 ?_
  simp only [Try.f99]
  refine tt ?_
  repeat (first | (with_reducible intro _) | refine ⟨ss, ?_⟩)
  refine fi h F (fun h _ F => ?_) (fun h _ F => ?_)
  cases h; exact fin
  refine fi h F (fun h _ F => ?_) (fun h _ F => ?_)
  cases h; exact fin
  refine tt ?_
  refine fi h F (fun h _ F => ?_) (fun h _ F => ?_)
  refine bi h fun r_59 h hr_59 => ?_
  refine tt ?_
  repeat (first | (with_reducible intro _) | refine ⟨ss, ?_⟩)
  refine cS (blocks_bit_ok hr_59) ?_
  cases h; exact fin
  refine bi h fun r_60 h hr_60 => ?_
  refine tt ?_
  repeat (first | (with_reducible intro _) | refine ⟨ss, ?_⟩)
  refine cD (blocks_of_ok hr_60) ?_
  refine by_ h F fun x_61 h hx_61 F => ?_
  refine bi h fun r_62 h hr_62 => ?_
  refine tt ?_
  repeat (first | (with_reducible intro _) | refine ⟨ss, ?_⟩)
  refine cD (ints_Wrap_ok hr_62) ?_
  cases h; exact fin
  refine fi h F (fun h _ F => ?_) (fun h _ F => ?_)
  refine tt ?_
  repeat (first | (with_reducible intro _) | refine ⟨ss, ?_⟩)
  refine iS Try.func99 ?_
  simp only [Try.f99]
  refine tt ?_
  repeat (first | (with_reducible intro _) | refine ⟨ss, ?_⟩)
  refine fi h F (fun h _ F => ?_) (fun h _ F => ?_)
  cases h; exact fin
  refine fi h F (fun h _ F => ?_) (fun h _ F => ?_)
  cases h; exact fin
  refine tt ?_
  refine fi h F (fun h _ F => ?_) (fun h _ F => ?_)
  refine bi h fun r_63 h hr_63 => ?_
  refine tt ?_
  repeat (first | (with_reducible intro _) | refine ⟨ss, ?_⟩)
  refine cS (blocks_bit_ok hr_63) ?_
  cases h; exact fin
  refine bi h fun r_64 h hr_64 => ?_
  refine tt ?_
  repeat (first | (with_reducible intro _) | refine ⟨ss, ?_⟩)
  refine cD (blocks_of_ok hr_64) ?_
  refine by_ h F fun x_65 h hx_65 F => ?_
  refine bi h fun r_66 h hr_66 => ?_
  refine tt ?_
  repeat (first | (with_reducible intro _) | refine ⟨ss, ?_⟩)
  refine cD (ints_Wrap_ok hr_66) ?_
  cases h; exact fin
  refine tt ?_
  repeat (first | (with_reducible intro _) | refine ⟨ss, ?_⟩)
  refine fi h F (fun h _ F => ?_) (fun h _ F => ?_)
  cases h; exact fin
  refine fi h F (fun h _ F => ?_) (fun h _ F => ?_)
  cases h; exact fin
  exact (by omega : False).elim
theorem blocks_Step_ok {name : Str} {s : A4 Int} {in_ : List Int} {now : Int} {r : A4 Int} (h : blocks_Step name s in_ now = some r) :
    Pu Try.prog 58 [.one (.str name), .agg ((eA4 eI) s), .one (.sl (in_.map eI)), .one (.int .i64 now)] (.agg ((eA4 eI) r)) := by
  have F := trivial; have R := trivial
  refine pA Try.func58 ?_
  simp only [Try.f58]
  unfold blocks_Step at h
  refine tt ?_
  repeat (first | (with_reducible intro _) | refine ⟨ss, ?_⟩)
  refine iS Try.func80 ?_
  simp only [Try.f80]
  refine tt ?_
  repeat (first | (with_reducible intro _) | refine ⟨ss, ?_⟩)
  refine fi h F (fun h _ F => ?_) (fun h _ F => ?_)
  refine tt ?_
  repeat (first | (with_reducible intro _) | refine ⟨ss, ?_⟩)
  refine iS Try.func99 ?_
  simp only [Try.f99]
  refine tt ?_
  repeat (first | (with_reducible intro _) | refine ⟨ss, ?_⟩)
  refine fi h F (fun h _ F => ?_) (fun h _ F => ?_)
  refine nd h F fun h F => ?_
  have R := And.intro (show List.replicate in_.length [.int .i64 0] = List.map eI (List.replicate in_.length 0) by simp [go_sem]) R
  refine bi h fun e_4 h he_4 => ?_
  refine tt ?_
  repeat (first | (with_reducible intro _) | refine ⟨ss, ?_⟩)
  refine lE (fun (s__ : (List Int) × Nat) (a__ : Unit) => match s__, a__ with | (l_2, x_3), _ => ⟨[(3, .one (.int .i64 now)), (5, .one (.ref 0 0 0 0)), (8, .one (.ref 1 0 0 0)), (9, .one (.ref 9 0 0 0)), (10, .one (.msl 10 0 0 l_2.length)), (30, .one (.sl (in_.map eI))), (31, .one (.int .i64 (in_.length : Int))), (32, .one (.int .i64 (x_3 : Int)))], [.cells 0 4 [[.int .i64 s.a0, .int .i64 s.a1, .int .i64 s.a2, .int .i64 s.a3]], .cells 0 4 [[.int .i64 0, .int .i64 0, .int .i64 0, .int .i64 0]], .cells 0 3 [[.slf ([1, 4].map eI), .slf ([1, 4].map eI), .fn 100 []]], .cells 0 3 [[.slf ([1, 4].map eI), .slf ([1, 4].map eI), .nilfn]], .cells 0 3 [[.slf ([1, 1, 2].map eI), .slf ([1, 2].map eI), .nilfn]], .cells 0 3 [[.slf ([1].map eI), .slf ([1].map eI), .nilfn]], .cells 0 3 [[.slf ([1, 1].map eI), .slf ([1].map eI), .nilfn]], .cells 0 3 [[.slf ([1, 4].map eI), .slf ([1, 4].map eI), .fn 100 []]], .cells 0 3 [[.slf ([1, 4].map eI), .slf ([1, 4].map eI), .fn 100 []]], .cells 0 3 [[.slf ([1, 4].map eI), .slf ([1, 4].map eI), .fn 100 []]], .cells 0 1 (l_2.map eI)]⟩) (fun (e__ : List Int) (b__ : Unit) => match e__, b__ with | e_4, _ => ⟨[(3, .one (.int .i64 now)), (5, .one (.ref 0 0 0 0)), (8, .one (.ref 1 0 0 0)), (9, .one (.ref 9 0 0 0)), (10, .one (.msl 10 0 0 e_4.length))], [.cells 0 4 [[.int .i64 s.a0, .int .i64 s.a1, .int .i64 s.a2, .int .i64 s.a3]], .cells 0 4 [[.int .i64 0, .int .i64 0, .int .i64 0, .int .i64 0]], .cells 0 3 [[.slf ([1, 4].map eI), .slf ([1, 4].map eI), .fn 100 []]], .cells 0 3 [[.slf ([1, 4].map eI), .slf ([1, 4].map eI), .nilfn]], .cells 0 3 [[.slf ([1, 1, 2].map eI), .slf ([1, 2].map eI), .nilfn]], .cells 0 3 [[.slf ([1].map eI), .slf ([1].map eI), .nilfn]], .cells 0 3 [[.slf ([1, 1].map eI), .slf ([1].map eI), .nilfn]], .cells 0 3 [[.slf ([1, 4].map eI), .slf ([1, 4].map eI), .fn 100 []]], .cells 0 3 [[.slf ([1, 4].map eI), .slf ([1, 4].map eI), .fn 100 []]], .cells 0 3 [[.slf ([1, 4].map eI), .slf ([1, 4].map eI), .fn 100 []]], .cells 0 1 (e_4.map eI)]⟩) (fun (_ : List Int) => some 0) () he_4 ?_ ?_
  intro i5 b5 hi5
  obtain rfl := Option.some.inj hi5
  obtain ⟨⟩ := b5
  dsimp only at h ⊢
  refine bi h fun r_11 h hr_11 => ?_
  refine tt ?_
  repeat (first | (with_reducible intro _) | refine ⟨ss, ?_⟩)
  refine cF [10] (blocks_ton_ok hr_11) ?_
  cases h; exact fin
  intro af5 m5 s5 a5 o5 hf5 ho5 ih5
  obtain ⟨l_2, x_3⟩ := s5
  obtain ⟨⟩ := a5
  dsimp only [blocks_Step_L1] at hf5 ⊢
  refine fl hf5 F (fun hf5 _ F => ?_) (fun hf5 _ F => ?_)
  refine bx hf5 F fun x_6 hf5 hx_6 F => ?_
  refine bx hf5 F fun x_7 hf5 hx_7 F => ?_
  refine ln F fun F => ?_
  have R := And.intro (show ([[.int .i64 1], [.int .i64 4]] : List (List C))[x_3]? = some [.int .i64 x_7] from q_map (f := eI) hx_7) R
  refine bi hf5 fun r_8 hf5 hr_8 => ?_
  refine tt ?_
  repeat (first | (with_reducible intro _) | refine ⟨ss, ?_⟩)
  refine cS (ints_Wrap_ok hr_8) ?_
  refine bx hf5 F fun x_9 hf5 hx_9 F => ?_
  have R := And.intro (show (List.map eI l_2).set x_3 [.int .i64 r_8] = List.map eI (l_2.set x_3 r_8) by simp [go_sem, List.map_set]) R
  cases hf5
  refine tt ?_
  repeat (first | (with_reducible intro _) | refine ⟨ss, ?_⟩)
  refine wn x_3 F fun F => ?_
  exact bk ih5 ho5 ()
  cases hf5
  refine tt ?_
  exact xt ho5 af5 ()
  cases h; exact fin
  refine fi h F (fun h _ F => ?_) (fun h _ F => ?_)
  refine tt ?_
  repeat (first | (with_reducible intro _) | refine ⟨ss, ?_⟩)
  refine iS Try.func99 ?_
  simp only [Try.f99]
  refine tt ?_
  repeat (first | (with_reducible intro _) | refine ⟨ss, ?_⟩)
  refine fi h F (fun h _ F => ?_) (fun h _ F => ?_)
  refine nd h F fun h F => ?_
  have R := And.intro (show List.replicate in_.length [.int .i64 0] = List.map eI (List.replicate in_.length 0) by simp [go_sem]) R
  refine bi h fun e_15 h he_15 => ?_
  refine tt ?_
  repeat (first | (with_reducible intro _) | refine ⟨ss, ?_⟩)
  refine lE (fun (s__ : (List Int) × Nat) (a__ : Unit) => match s__, a__ with | (l_13, x_14), _ => ⟨[(3, .one (.int .i64 now)), (5, .one (.ref 0 0 0 0)), (8, .one (.ref 1 0 0 0)), (9, .one (.ref 9 0 0 0)), (10, .one (.msl 10 0 0 l_13.length)), (30, .one (.sl (in_.map eI))), (31, .one (.int .i64 (in_.length : Int))), (32, .one (.int .i64 (x_14 : Int)))], [.cells 0 4 [[.int .i64 s.a0, .int .i64 s.a1, .int .i64 s.a2, .int .i64 s.a3]], .cells 0 4 [[.int .i64 0, .int .i64 0, .int .i64 0, .int .i64 0]], .cells 0 3 [[.slf ([1, 4].map eI), .slf ([1, 4].map eI), .fn 101 []]], .cells 0 3 [[.slf ([1, 4].map eI), .slf ([1, 4].map eI), .nilfn]], .cells 0 3 [[.slf ([1, 1, 2].map eI), .slf ([1, 2].map eI), .nilfn]], .cells 0 3 [[.slf ([1].map eI), .slf ([1].map eI), .nilfn]], .cells 0 3 [[.slf ([1, 1].map eI), .slf ([1].map eI), .nilfn]], .cells 0 3 [[.slf ([1, 4].map eI), .slf ([1, 4].map eI), .fn 101 []]], .cells 0 3 [[.slf ([1, 4].map eI), .slf ([1, 4].map eI), .fn 101 []]], .cells 0 3 [[.slf ([1, 4].map eI), .slf ([1, 4].map eI), .fn 101 []]], .cells 0 1 (l_13.map eI)]⟩) (fun (e__ : List Int) (b__ : Unit) => match e__, b__ with | e_15, _ => ⟨[(3, .one (.int .i64 now)), (5, .one (.ref 0 0 0 0)), (8, .one (.ref 1 0 0 0)), (9, .one (.ref 9 0 0 0)), (10, .one (.msl 10 0 0 e_15.length))], [.cells 0 4 [[.int .i64 s.a0, .int .i64 s.a1, .int .i64 s.a2, .int .i64 s.a3]], .cells 0 4 [[.int .i64 0, .int .i64 0, .int .i64 0, .int .i64 0]], .cells 0 3 [[.slf ([1, 4].map eI), .slf ([1, 4].map eI), .fn 101 []]], .cells 0 3 [[.slf ([1, 4].map eI), .slf ([1, 4].map eI), .nilfn]], .cells 0 3 [[.slf ([1, 1, 2].map eI), .slf ([1, 2].map eI), .nilfn]], .cells 0 3 [[.slf ([1].map eI), .slf ([1].map eI), .nilfn]], .cells 0 3 [[.slf ([1, 1].map eI), .slf ([1].map eI), .nilfn]], .cells 0 3 [[.slf ([1, 4].map eI), .slf ([1, 4].map eI), .fn 101 []]], .cells 0 3 [[.slf ([1, 4].map eI), .slf ([1, 4].map eI), .fn 101 []]], .cells 0 3 [[.slf ([1, 4].map eI), .slf ([1, 4].map eI), .fn 101 []]], .cells 0 1 (e_15.map eI)]⟩) (fun (_ : List Int) => some 0) () he_15 ?_ ?_
  intro i16 b16 hi16
  obtain rfl := Option.some.inj hi16
  obtain ⟨⟩ := b16
  dsimp only at h ⊢
  refine bi h fun r_22 h hr_22 => ?_
  refine tt ?_
  repeat (first | (with_reducible intro _) | refine ⟨ss, ?_⟩)
  refine cF [10] (blocks_tof_ok hr_22) ?_
  cases h; exact fin
  intro af16 m16 s16 a16 o16 hf16 ho16 ih16
  obtain ⟨l_13, x_14⟩ := s16
  obtain ⟨⟩ := a16
  dsimp only [blocks_Step_L2] at hf16 ⊢
  refine fl hf16 F (fun hf16 _ F => ?_) (fun hf16 _ F => ?_)
  refine bx hf16 F fun x_17 hf16 hx_17 F => ?_
  refine bx hf16 F fun x_18 hf16 hx_18 F => ?_
  refine ln F fun F => ?_
  have R := And.intro (show ([[.int .i64 1], [.int .i64 4]] : List (List C))[x_14]? = some [.int .i64 x_18] from q_map (f := eI) hx_18) R
  refine bi hf16 fun r_19 hf16 hr_19 => ?_
  refine tt ?_
  repeat (first | (with_reducible intro _) | refine ⟨ss, ?_⟩)
  refine cS (ints_Wrap_ok hr_19) ?_
  refine bx hf16 F fun x_20 hf16 hx_20 F => ?_
  have R := And.intro (show (List.map eI l_13).set x_14 [.int .i64 r_19] = List.map eI (l_13.set x_14 r_19) by simp [go_sem, List.map_set]) R
  cases hf16
  refine tt ?_
  repeat (first | (with_reducible intro _) | refine ⟨ss, ?_⟩)
  refine wn x_14 F fun F => ?_
  exact bk ih16 ho16 ()
  cases hf16
  refine tt ?_
  exact xt ho16 af16 ()
  cases h; exact fin
  refine fi h F (fun h _ F => ?_) (fun h _ F => ?_)
  refine tt ?_
  repeat (first | (with_reducible intro _) | refine ⟨ss, ?_⟩)
  refine iS Try.func99 ?_
  simp only [Try.f99]
  refine tt ?_
  repeat (first | (with_reducible intro _) | refine ⟨ss, ?_⟩)
  refine fi h F (fun h _ F => ?_) (fun h _ F => ?_)
  refine nd h F fun h F => ?_
  have R := And.intro (show List.replicate in_.length [.int .i64 0] = List.map eI (List.replicate in_.length 0) by simp [go_sem]) R
  refine bi h fun e_26 h he_26 => ?_
  refine tt ?_
  repeat (first | (with_reducible intro _) | refine ⟨ss, ?_⟩)
  refine lE (fun (s__ : (List Int) × Nat) (a__ : Unit) => match s__, a__ with | (l_24, x_25), _ => ⟨[(3, .one (.int .i64 now)), (5, .one (.ref 0 0 0 0)), (8, .one (.ref 1 0 0 0)), (9, .one (.ref 9 0 0 0)), (10, .one (.msl 10 0 0 l_24.length)), (30, .one (.sl (in_.map eI))), (31, .one (.int .i64 (in_.length : Int))), (32, .one (.int .i64 (x_25 : Int)))], [.cells 0 4 [[.int .i64 s.a0, .int .i64 s.a1, .int .i64 s.a2, .int .i64 s.a3]], .cells 0 4 [[.int .i64 0, .int .i64 0, .int .i64 0, .int .i64 0]], .cells 0 3 [[.slf ([1, 4].map eI), .slf ([1, 4].map eI), .fn 102 []]], .cells 0 3 [[.slf ([1, 4].map eI), .slf ([1, 4].map eI), .nilfn]], .cells 0 3 [[.slf ([1, 1, 2].map eI), .slf ([1, 2].map eI), .nilfn]], .cells 0 3 [[.slf ([1].map eI), .slf ([1].map eI), .nilfn]], .cells 0 3 [[.slf ([1, 1].map eI), .slf ([1].map eI), .nilfn]], .cells 0 3 [[.slf ([1, 4].map eI), .slf ([1, 4].map eI), .fn 102 []]], .cells 0 3 [[.slf ([1, 4].map eI), .slf ([1, 4].map eI), .fn 102 []]], .cells 0 3 [[.slf ([1, 4].map eI), .slf ([1, 4].map eI), .fn 102 []]], .cells 0 1 (l_24.map eI)]⟩) (fun (e__ : List Int) (b__ : Unit) => match e__, b__ with | e_26, _ => ⟨[(3, .one (.int .i64 now)), (5, .one (.ref 0 0 0 0)), (8, .one (.ref 1 0 0 0)), (9, .one (.ref 9 0 0 0)), (10, .one (.msl 10 0 0 e_26.length))], [.cells 0 4 [[.int .i64 s.a0, .int .i64 s.a1, .int .i64 s.a2, .int .i64 s.a3]], .cells 0 4 [[.int .i64 0, .int .i64 0, .int .i64 0, .int .i64 0]], .cells 0 3 [[.slf ([1, 4].map eI), .slf ([1, 4].map eI), .fn 102 []]], .cells 0 3 [[.slf ([1, 4].map eI), .slf ([1, 4].map eI), .nilfn]], .cells 0 3 [[.slf ([1, 1, 2].map eI), .slf ([1, 2].map eI), .nilfn]], .cells 0 3 [[.slf ([1].map eI), .slf ([1].map eI), .nilfn]], .cells 0 3 [[.slf ([1, 1].map eI), .slf ([1].map eI), .nilfn]], .cells 0 3 [[.slf ([1, 4].map eI), .slf ([1, 4].map eI), .fn 102 []]], .cells 0 3 [[.slf ([1, 4].map eI), .slf ([1, 4].map eI), .fn 102 []]], .cells 0 3 [[.slf ([1, 4].map eI), .slf ([1, 4].map eI), .fn 102 []]], .cells 0 1 (e_26.map eI)]⟩) (fun (_ : List Int) => some 0) () he_26 ?_ ?_
  intro i27 b27 hi27
  obtain rfl := Option.some.inj hi27
  obtain ⟨⟩ := b27
  dsimp only at h ⊢
  refine bi h fun r_33 h hr_33 => ?_
  refine tt ?_
  repeat (first | (with_reducible intro _) | refine ⟨ss, ?_⟩)
  refine cF [10] (blocks_tp_ok hr_33) ?_
  cases h; exact fin
  intro af27 m27 s27 a27 o27 hf27 ho27 ih27
  obtain ⟨l_24, x_25⟩ := s27
  obtain ⟨⟩ := a27
  dsimp only [blocks_Step_L3] at hf27 ⊢
  refine fl hf27 F (fun hf27 _ F => ?_) (fun hf27 _ F => ?_)
  refine bx hf27 F fun x_28 hf27 hx_28 F => ?_
  refine bx hf27 F fun x_29 hf27 hx_29 F => ?_
  refine ln F fun F => ?_
  have R := And.intro (show ([[.int .i64 1], [.int .i64 4]] : List (List C))[x_25]? = some [.int .i64 x_29] from q_map (f := eI) hx_29) R
  refine bi hf27 fun r_30 hf27 hr_30 => ?_
  refine tt ?_
  repeat (first | (with_reducible intro _) | refine ⟨ss, ?_⟩)
  refine cS (ints_Wrap_ok hr_30) ?_
  refine bx hf27 F fun x_31 hf27 hx_31 F => ?_
  have R := And.intro (show (List.map eI l_24).set x_25 [.int .i64 r_30] = List.map eI (l_24.set x_25 r_30) by simp [go_sem, List.map_set]) R
  cases hf27
  refine tt ?_
  repeat (first | (with_reducible intro _) | refine ⟨ss, ?_⟩)
  refine wn x_25 F fun F => ?_
  exact bk ih27 ho27 ()
  cases hf27
  refine tt ?_
  exact xt ho27 af27 ()
  cases h; exact fin
  refine fi h F (fun h _ F => ?_) (fun h _ F => ?_)
  refine tt ?_
  repeat (first | (with_reducible intro _) | refine ⟨ss, ?_⟩)
  refine iS Try.func99 ?_
  simp only [Try.f99]
  refine tt ?_
  repeat (first | (with_reducible intro _) | refine ⟨ss, ?_⟩)
  refine fi h F (fun h _ F => ?_) (fun h _ F => ?_)
  refine nd h F fun h F => ?_
  have R := And.intro (show List.replicate in_.length [.int .i64 0] = List.map eI (List.replicate in_.length 0) by simp [go_sem]) R
  refine bi h fun e_37 h he_37 => ?_
  refine tt ?_
  repeat (first | (with_reducible intro _) | refine ⟨ss, ?_⟩)
  refine lE (fun (s__ : (List Int) × Nat) (a__ : Unit) => match s__, a__ with | (l_35, x_36), _ => ⟨[(3, .one (.int .i64 now)), (5, .one (.ref 0 0 0 0)), (8, .one (.ref 1 0 0 0)), (9, .one (.ref 9 0 0 0)), (10, .one (.msl 10 0 0 l_35.length)), (30, .one (.sl (in_.map eI))), (31, .one (.int .i64 (in_.length : Int))), (32, .one (.int .i64 (x_36 : Int)))], [.cells 0 4 [[.int .i64 s.a0, .int .i64 s.a1, .int .i64 s.a2, .int .i64 s.a3]], .cells 0 4 [[.int .i64 0, .int .i64 0, .int .i64 0, .int .i64 0]], .cells 0 3 [[.slf ([1, 1, 2].map eI), .slf ([1, 2].map eI), .fn 103 []]], .cells 0 3 [[.slf ([1, 4].map eI), .slf ([1, 4].map eI), .nilfn]], .cells 0 3 [[.slf ([1, 1, 2].map eI), .slf ([1, 2].map eI), .nilfn]], .cells 0 3 [[.slf ([1].map eI), .slf ([1].map eI), .nilfn]], .cells 0 3 [[.slf ([1, 1].map eI), .slf ([1].map eI), .nilfn]], .cells 0 3 [[.slf ([1, 1, 2].map eI), .slf ([1, 2].map eI), .fn 103 []]], .cells 0 3 [[.slf ([1, 1, 2].map eI), .slf ([1, 2].map eI), .fn 103 []]], .cells 0 3 [[.slf ([1, 1, 2].map eI), .slf ([1, 2].map eI), .fn 103 []]], .cells 0 1 (l_35.map eI)]⟩) (fun (e__ : List Int) (b__ : Unit) => match e__, b__ with | e_37, _ => ⟨[(3, .one (.int .i64 now)), (5, .one (.ref 0 0 0 0)), (8, .one (.ref 1 0 0 0)), (9, .one (.ref 9 0 0 0)), (10, .one (.msl 10 0 0 e_37.length))], [.cells 0 4 [[.int .i64 s.a0, .int .i64 s.a1, .int .i64 s.a2, .int .i64 s.a3]], .cells 0 4 [[.int .i64 0, .int .i64 0, .int .i64 0, .int .i64 0]], .cells 0 3 [[.slf ([1, 1, 2].map eI), .slf ([1, 2].map eI), .fn 103 []]], .cells 0 3 [[.slf ([1, 4].map eI), .slf ([1, 4].map eI), .nilfn]], .cells 0 3 [[.slf ([1, 1, 2].map eI), .slf ([1, 2].map eI), .nilfn]], .cells 0 3 [[.slf ([1].map eI), .slf ([1].map eI), .nilfn]], .cells 0 3 [[.slf ([1, 1].map eI), .slf ([1].map eI), .nilfn]], .cells 0 3 [[.slf ([1, 1, 2].map eI), .slf ([1, 2].map eI), .fn 103 []]], .cells 0 3 [[.slf ([1, 1, 2].map eI), .slf ([1, 2].map eI), .fn 103 []]], .cells 0 3 [[.slf ([1, 1, 2].map eI), .slf ([1, 2].map eI), .fn 103 []]], .cells 0 1 (e_37.map eI)]⟩) (fun (_ : List Int) => some 0) () he_37 ?_ ?_
  intro i38 b38 hi38
  obtain rfl := Option.some.inj hi38
  obtain ⟨⟩ := b38
  dsimp only at h ⊢
  refine bi h fun r_44 h hr_44 => ?_
  refine tt ?_
  repeat (first | (with_reducible intro _) | refine ⟨ss, ?_⟩)
  refine cF [10] (blocks_ctu_ok hr_44) ?_
  cases h; exact fin
  intro af38 m38 s38 a38 o38 hf38 ho38 ih38
  obtain ⟨l_35, x_36⟩ := s38
  obtain ⟨⟩ := a38
  dsimp only [blocks_Step_L4] at hf38 ⊢
  refine fl hf38 F (fun hf38 _ F => ?_) (fun hf38 _ F => ?_)
  refine bx hf38 F fun x_39 hf38 hx_39 F => ?_
  refine bx hf38 F fun x_40 hf38 hx_40 F => ?_
  refine ln F fun F => ?_
  have R := And.intro (show ([[.int .i64 1], [.int .i64 1], [.int .i64 2]] : List (List C))[x_36]? = some [.int .i64 x_40] from q_map (f := eI) hx_40) R
  refine bi hf38 fun r_41 hf38 hr_41 => ?_
  refine tt ?_
  repeat (first | (with_reducible intro _) | refine ⟨ss, ?_⟩)
  refine cS (ints_Wrap_ok hr_41) ?_
  refine bx hf38 F fun x_42 hf38 hx_42 F => ?_
  have R := And.intro (show (List.map eI l_35).set x_36 [.int .i64 r_41] = List.map eI (l_35.set x_36 r_41) by simp [go_sem, List.map_set]) R
  cases hf38
  refine tt ?_
  repeat (first | (with_reducible intro _) | refine ⟨ss, ?_⟩)
  refine wn x_36 F fun F => ?_
  exact bk ih38 ho38 ()
  cases hf38
  refine tt ?_
  exact xt ho38 af38 ()
  cases h; exact fin
  refine tt ?_
  refine fi h F (fun h _ F => ?_) (fun h _ F => ?_)
  refine tt ?_
  repeat (first | (with_reducible intro _) | refine ⟨ss, ?_⟩)
  refine iS Try.func99 ?_
  simp only [Try.f99]
  refine tt ?_
  repeat (first | (with_reducible intro _) | refine ⟨ss, ?_⟩)
  refine fi h F (fun h _ F => ?_) (fun h _ F => ?_)
  refine nd h F fun h F => ?_
  have R := And.intro (show List.replicate in_.length [.int .i64 0] = List.map eI (List.replicate in_.length 0) by simp [go_sem]) R
  refine bi h fun e_48 h he_48 => ?_
  refine tt ?_
  repeat (first | (with_reducible intro _) | refine ⟨ss, ?_⟩)
  refine lE (fun (s__ : (List Int) × Nat) (a__ : Unit) => match s__, a__ with | (l_46, x_47), _ => ⟨[(3, .one (.int .i64 now)), (5, .one (.ref 0 0 0 0)), (8, .one (.ref 1 0 0 0)), (9, .one (.ref 9 0 0 0)), (10, .one (.msl 10 0 0 l_46.length)), (30, .one (.sl (in_.map eI))), (31, .one (.int .i64 (in_.length : Int))), (32, .one (.int .i64 (x_47 : Int)))], [.cells 0 4 [[.int .i64 s.a0, .int .i64 s.a1, .int .i64 s.a2, .int .i64 s.a3]], .cells 0 4 [[.int .i64 0, .int .i64 0, .int .i64 0, .int .i64 0]], .cells 0 3 [[.slf ([1, 1, 2].map eI), .slf ([1, 2].map eI), .fn 104 []]], .cells 0 3 [[.slf ([1, 4].map eI), .slf ([1, 4].map eI), .nilfn]], .cells 0 3 [[.slf ([1, 1, 2].map eI), .slf ([1, 2].map eI), .nilfn]], .cells 0 3 [[.slf ([1].map eI), .slf ([1].map eI), .nilfn]], .cells 0 3 [[.slf ([1, 1].map eI), .slf ([1].map eI), .nilfn]], .cells 0 3 [[.slf ([1, 1, 2].map eI), .slf ([1, 2].map eI), .fn 104 []]], .cells 0 3 [[.slf ([1, 1, 2].map eI), .slf ([1, 2].map eI), .fn 104 []]], .cells 0 3 [[.slf ([1, 1, 2].map eI), .slf ([1, 2].map eI), .fn 104 []]], .cells 0 1 (l_46.map eI)]⟩) (fun (e__ : List Int) (b__ : Unit) => match e__, b__ with | e_48, _ => ⟨[(3, .one (.int .i64 now)), (5, .one (.ref 0 0 0 0)), (8, .one (.ref 1 0 0 0)), (9, .one (.ref 9 0 0 0)), (10, .one (.msl 10 0 0 e_48.length))], [.cells 0 4 [[.int .i64 s.a0, .int .i64 s.a1, .int .i64 s.a2, .int .i64 s.a3]], .cells 0 4 [[.int .i64 0, .int .i64 0, .int .i64 0, .int .i64 0]], .cells 0 3 [[.slf ([1, 1, 2].map eI), .slf ([1, 2].map eI), .fn 104 []]], .cells 0 3 [[.slf ([1, 4].map eI), .slf ([1, 4].map eI), .nilfn]], .cells 0 3 [[.slf ([1, 1, 2].map eI), .slf ([1, 2].map eI), .nilfn]], .cells 0 3 [[.slf ([1].map eI), .slf ([1].map eI), .nilfn]], .cells 0 3 [[.slf ([1, 1].map eI), .slf ([1].map eI), .nilfn]], .cells 0 3 [[.slf ([1, 1, 2].map eI), .slf ([1, 2].map eI), .fn 104 []]], .cells 0 3 [[.slf ([1, 1, 2].map eI), .slf ([1, 2].map eI), .fn 104 []]], .cells 0 3 [[.slf ([1, 1, 2].map eI), .slf ([1, 2].map eI), .fn 104 []]], .cells 0 1 (e_48.map eI)]⟩) (fun (_ : List Int) => some 0) () he_48 ?_ ?_
  intro i49 b49 hi49
  obtain rfl := Option.some.inj hi49
  obtain ⟨⟩ := b49
  dsimp only at h ⊢
  refine bi h fun r_55 h hr_55 => ?_
  refine tt ?_
  repeat (first | (with_reducible intro _) | refine ⟨ss, ?_⟩)
  refine cF [10] (blocks_ctd_ok hr_55) ?_
  cases h; exact fin
  intro af49 m49 s49 a49 o49 hf49 ho49 ih49
  obtain ⟨l_46, x_47⟩ := s49
  obtain ⟨⟩ := a49
  dsimp only [blocks_Step_L5] at hf49 ⊢
  refine fl hf49 F (fun hf49 _ F => ?_) (fun hf49 _ F => ?_)
  refine bx hf49 F fun x_50 hf49 hx_50 F => ?_
  refine bx hf49 F fun x_51 hf49 hx_51 F => ?_
  refine ln F fun F => ?_
  have R := And.intro (show ([[.int .i64 1], [.int .i64 1], [.int .i64 2]] : List (List C))[x_47]? = some [.int .i64 x_51] from q_map (f := eI) hx_51) R
  refine bi hf49 fun r_52 hf49 hr_52 => ?_
  refine tt ?_
  repeat (first | (with_reducible intro _) | refine ⟨ss, ?_⟩)
  refine cS (ints_Wrap_ok hr_52) ?_
  refine bx hf49 F fun x_53 hf49 hx_53 F => ?_
  have R := And.intro (show (List.map eI l_46).set x_47 [.int .i64 r_52] = List.map eI (l_46.set x_47 r_52) by simp [go_sem, List.map_set]) R
  cases hf49
  refine tt ?_
  repeat (first | (with_reducible intro _) | refine ⟨ss, ?_⟩)
  refine wn x_47 F fun F => ?_
  exact bk ih49 ho49 ()
  cases hf49
  refine tt ?_
  exact xt ho49 af49 ()
  cases h; exact fin
  refine fi h F (fun h _ F => ?_) (fun h _ F => ?_)
  refine tt ?_
  repeat (first | (with_reducible intro _) | refine ⟨ss, ?_⟩)
  refine fi h F (fun h _ F => ?_) (fun h _ F => ?_)
  refine nd h F fun h F => ?_
  have R := And.intro (show List.replicate in_.length [.int .i64 0] = List.map eI (List.replicate in_.length 0) by simp [go_sem]) R
  refine bi h fun e_59 h he_59 => ?_
  refine tt ?_
  repeat (first | (with_reducible intro _) | refine ⟨ss, ?_⟩)
  refine lE (fun (s__ : (List Int) × Nat) (a__ : Unit) => match s__, a__ with | (l_57, x_58), _ => ⟨[(3, .one (.int .i64 now)), (5, .one (.ref 0 0 0 0)), (8, .one (.ref 1 0 0 0)), (9, .one (.ref 7 0 0 0)), (10, .one (.msl 8 0 0 l_57.length)), (30, .one (.sl (in_.map eI))), (31, .one (.int .i64 (in_.length : Int))), (32, .one (.int .i64 (x_58 : Int)))], [.cells 0 4 [[.int .i64 s.a0, .int .i64 s.a1, .int .i64 s.a2, .int .i64 s.a3]], .cells 0 4 [[.int .i64 0, .int .i64 0, .int .i64 0, .int .i64 0]], .cells 0 3 [[.slf ([1, 1, 1, 1, 2].map eI), .slf ([1, 1, 2].map eI), .fn 105 []]], .cells 0 3 [[.slf ([1, 4].map eI), .slf ([1, 4].map eI), .nilfn]], .cells 0 3 [[.slf ([1, 1, 2].map eI), .slf ([1, 2].map eI), .nilfn]], .cells 0 3 [[.slf ([1].map eI), .slf ([1].map eI), .nilfn]], .cells 0 3 [[.slf ([1, 1].map eI), .slf ([1].map eI), .nilfn]], .cells 0 3 [[.slf ([1, 1, 1, 1, 2].map eI), .slf ([1, 1, 2].map eI), .fn 105 []]], .cells 0 1 (l_57.map eI)]⟩) (fun (e__ : List Int) (b__ : Unit) => match e__, b__ with | e_59, _ => ⟨[(3, .one (.int .i64 now)), (5, .one (.ref 0 0 0 0)), (8, .one (.ref 1 0 0 0)), (9, .one (.ref 7 0 0 0)), (10, .one (.msl 8 0 0 e_59.length))], [.cells 0 4 [[.int .i64 s.a0, .int .i64 s.a1, .int .i64 s.a2, .int .i64 s.a3]], .cells 0 4 [[.int .i64 0, .int .i64 0, .int .i64 0, .int .i64 0]], .cells 0 3 [[.slf ([1, 1, 1, 1, 2].map eI), .slf ([1, 1, 2].map eI), .fn 105 []]], .cells 0 3 [[.slf ([1, 4].map eI), .slf ([1, 4].map eI), .nilfn]], .cells 0 3 [[.slf ([1, 1, 2].map eI), .slf ([1, 2].map eI), .nilfn]], .cells 0 3 [[.slf ([1].map eI), .slf ([1].map eI), .nilfn]], .cells 0 3 [[.slf ([1, 1].map eI), .slf ([1].map eI), .nilfn]], .cells 0 3 [[.slf ([1, 1, 1, 1, 2].map eI), .slf ([1, 1, 2].map eI), .fn 105 []]], .cells 0 1 (e_59.map eI)]⟩) (fun (_ : List Int) => some 0) () he_59 ?_ ?_
  intro i60 b60 hi60
  obtain rfl := Option.some.inj hi60
  obtain ⟨⟩ := b60
  dsimp only at h ⊢
  refine bi h fun r_66 h hr_66 => ?_
  refine tt ?_
  repeat (first | (with_reducible intro _) | refine ⟨ss, ?_⟩)
  refine cF [8] (blocks_ctud_ok hr_66) ?_
  cases h; exact fin
  intro af60 m60 s60 a60 o60 hf60 ho60 ih60
  obtain ⟨l_57, x_58⟩ := s60
  obtain ⟨⟩ := a60
  dsimp only [blocks_Step_L6] at hf60 ⊢
  refine fl hf60 F (fun hf60 _ F => ?_) (fun hf60 _ F => ?_)
  refine bx hf60 F fun x_61 hf60 hx_61 F => ?_
  refine bx hf60 F fun x_62 hf60 hx_62 F => ?_
  refine ln F fun F => ?_
  have R := And.intro (show ([[.int .i64 1], [.int .i64 1], [.int .i64 1], [.int .i64 1], [.int .i64 2]] : List (List C))[x_58]? = some [.int .i64 x_62] from q_map (f := eI) hx_62) R
  refine bi hf60 fun r_63 hf60 hr_63 => ?_
  refine tt ?_
  repeat (first | (with_reducible intro _) | refine ⟨ss, ?_⟩)
  refine cS (ints_Wrap_ok hr_63) ?_
  refine bx hf60 F fun x_64 hf60 hx_64 F => ?_
  have R := And.intro (show (List.map eI l_57).set x_58 [.int .i64 r_63] = List.map eI (l_57.set x_58 r_63) by simp [go_sem, List.map_set]) R
  cases hf60
  refine tt ?_
  repeat (first | (with_reducible intro _) | refine ⟨ss, ?_⟩)
  refine wn x_58 F fun F => ?_
  exact bk ih60 ho60 ()
  cases hf60
  refine tt ?_
  exact xt ho60 af60 ()
  cases h; exact fin
  refine fi h F (fun h _ F => ?_) (fun h _ F => ?_)
  refine tt ?_
  repeat (first | (with_reducible intro _) | refine ⟨ss, ?_⟩)
  refine iS Try.func99 ?_
  simp only [Try.f99]
  refine tt ?_
  repeat (first | (with_reducible intro _) | refine ⟨ss, ?_⟩)
  refine fi h F (fun h _ F => ?_) (fun h _ F => ?_)
  refine nd h F fun h F => ?_
  have R := And.intro (show List.replicate in_.length [.int .i64 0] = List.map eI (List.replicate in_.length 0) by simp [go_sem]) R
  refine bi h fun e_70 h he_70 => ?_
  refine tt ?_
  repeat (first | (with_reducible intro _) | refine ⟨ss, ?_⟩)
  refine lE (fun (s__ : (List Int) × Nat) (a__ : Unit) => match s__, a__ with | (l_68, x_69), _ => ⟨[(3, .one (.int .i64 now)), (5, .one (.ref 0 0 0 0)), (8, .one (.ref 1 0 0 0)), (9, .one (.ref 9 0 0 0)), (10, .one (.msl 10 0 0 l_68.length)), (30, .one (.sl (in_.map eI))), (31, .one (.int .i64 (in_.length : Int))), (32, .one (.int .i64 (x_69 : Int)))], [.cells 0 4 [[.int .i64 s.a0, .int .i64 s.a1, .int .i64 s.a2, .int .i64 s.a3]], .cells 0 4 [[.int .i64 0, .int .i64 0, .int .i64 0, .int .i64 0]], .cells 0 3 [[.slf ([1].map eI), .slf ([1].map eI), .fn 106 []]], .cells 0 3 [[.slf ([1, 4].map eI), .slf ([1, 4].map eI), .nilfn]], .cells 0 3 [[.slf ([1, 1, 2].map eI), .slf ([1, 2].map eI), .nilfn]], .cells 0 3 [[.slf ([1].map eI), .slf ([1].map eI), .nilfn]], .cells 0 3 [[.slf ([1, 1].map eI), .slf ([1].map eI), .nilfn]], .cells 0 3 [[.slf ([1].map eI), .slf ([1].map eI), .fn 106 []]], .cells 0 3 [[.slf ([1].map eI), .slf ([1].map eI), .fn 106 []]], .cells 0 3 [[.slf ([1].map eI), .slf ([1].map eI), .fn 106 []]], .cells 0 1 (l_68.map eI)]⟩) (fun (e__ : List Int) (b__ : Unit) => match e__, b__ with | e_70, _ => ⟨[(3, .one (.int .i64 now)), (5, .one (.ref 0 0 0 0)), (8, .one (.ref 1 0 0 0)), (9, .one (.ref 9 0 0 0)), (10, .one (.msl 10 0 0 e_70.length))], [.cells 0 4 [[.int .i64 s.a0, .int .i64 s.a1, .int .i64 s.a2, .int .i64 s.a3]], .cells 0 4 [[.int .i64 0, .int .i64 0, .int .i64 0, .int .i64 0]], .cells 0 3 [[.slf ([1].map eI), .slf ([1].map eI), .fn 106 []]], .cells 0 3 [[.slf ([1, 4].map eI), .slf ([1, 4].map eI), .nilfn]], .cells 0 3 [[.slf ([1, 1, 2].map eI), .slf ([1, 2].map eI), .nilfn]], .cells 0 3 [[.slf ([1].map eI), .slf ([1].map eI), .nilfn]], .cells 0 3 [[.slf ([1, 1].map eI), .slf ([1].map eI), .nilfn]], .cells 0 3 [[.slf ([1].map eI), .slf ([1].map eI), .fn 106 []]], .cells 0 3 [[.slf ([1].map eI), .slf ([1].map eI), .fn 106 []]], .cells 0 3 [[.slf ([1].map eI), .slf ([1].map eI), .fn 106 []]], .cells 0 1 (e_70.map eI)]⟩) (fun (_ : List Int) => some 0) () he_70 ?_ ?_
  intro i71 b71 hi71
  obtain rfl := Option.some.inj hi71
  obtain ⟨⟩ := b71
  dsimp only at h ⊢
  refine bi h fun r_77 h hr_77 => ?_
  refine tt ?_
  repeat (first | (with_reducible intro _) | refine ⟨ss, ?_⟩)
  refine cF [10] (blocks_rises_ok hr_77) ?_
  cases h; exact fin
  intro af71 m71 s71 a71 o71 hf71 ho71 ih71
  obtain ⟨l_68, x_69⟩ := s71
  obtain ⟨⟩ := a71
  dsimp only [blocks_Step_L7] at hf71 ⊢
  refine fl hf71 F (fun hf71 _ F => ?_) (fun hf71 _ F => ?_)
  refine bx hf71 F fun x_72 hf71 hx_72 F => ?_
  refine bx hf71 F fun x_73 hf71 hx_73 F => ?_
  refine ln F fun F => ?_
  have R := And.intro (show ([[.int .i64 1]] : List (List C))[x_69]? = some [.int .i64 x_73] from q_map (f := eI) hx_73) R
  refine bi hf71 fun r_74 hf71 hr_74 => ?_
  refine tt ?_
  repeat (first | (with_reducible intro _) | refine ⟨ss, ?_⟩)
  refine cS (ints_Wrap_ok hr_74) ?_
  refine bx hf71 F fun x_75 hf71 hx_75 F => ?_
  have R := And.intro (show (List.map eI l_68).set x_69 [.int .i64 r_74] = List.map eI (l_68.set x_69 r_74) by simp [go_sem, List.map_set]) R
  cases hf71
  refine tt ?_
  repeat (first | (with_reducible intro _) | refine ⟨ss, ?_⟩)
  refine wn x_69 F fun F => ?_
  exact bk ih71 ho71 ()
  cases hf71
  refine tt ?_
  exact xt ho71 af71 ()
  cases h; exact fin
  refine fi h F (fun h _ F => ?_) (fun h _ F => ?_)
  refine tt ?_
  repeat (first | (with_reducible intro _) | refine ⟨ss, ?_⟩)
  refine iS Try.func99 ?_
  simp only [Try.f99]
  refine tt ?_
  repeat (first | (with_reducible intro _) | refine ⟨ss, ?_⟩)
  refine fi h F (fun h _ F => ?_) (fun h _ F => ?_)
  refine nd h F fun h F => ?_
  have R := And.intro (show List.replicate in_.length [.int .i64 0] = List.map eI (List.replicate in_.length 0) by simp [go_sem]) R
  refine bi h fun e_81 h he_81 => ?_
  refine tt ?_
  repeat (first | (with_reducible intro _) | refine ⟨ss, ?_⟩)
  refine lE (fun (s__ : (List Int) × Nat) (a__ : Unit) => match s__, a__ with | (l_79, x_80), _ => ⟨[(3, .one (.int .i64 now)), (5, .one (.ref 0 0 0 0)), (8, .one (.ref 1 0 0 0)), (9, .one (.ref 9 0 0 0)), (10, .one (.msl 10 0 0 l_79.length)), (30, .one (.sl (in_.map eI))), (31, .one (.int .i64 (in_.length : Int))), (32, .one (.int .i64 (x_80 : Int)))], [.cells 0 4 [[.int .i64 s.a0, .int .i64 s.a1, .int .i64 s.a2, .int .i64 s.a3]], .cells 0 4 [[.int .i64 0, .int .i64 0, .int .i64 0, .int .i64 0]], .cells 0 3 [[.slf ([1].map eI), .slf ([1].map eI), .fn 107 []]], .cells 0 3 [[.slf ([1, 4].map eI), .slf ([1, 4].map eI), .nilfn]], .cells 0 3 [[.slf ([1, 1, 2].map eI), .slf ([1, 2].map eI), .nilfn]], .cells 0 3 [[.slf ([1].map eI), .slf ([1].map eI), .nilfn]], .cells 0 3 [[.slf ([1, 1].map eI), .slf ([1].map eI), .nilfn]], .cells 0 3 [[.slf ([1].map eI), .slf ([1].map eI), .fn 107 []]], .cells 0 3 [[.slf ([1].map eI), .slf ([1].map eI), .fn 107 []]], .cells 0 3 [[.slf ([1].map eI), .slf ([1].map eI), .fn 107 []]], .cells 0 1 (l_79.map eI)]⟩) (fun (e__ : List Int) (b__ : Unit) => match e__, b__ with | e_81, _ => ⟨[(3, .one (.int .i64 now)), (5, .one (.ref 0 0 0 0)), (8, .one (.ref 1 0 0 0)), (9, .one (.ref 9 0 0 0)), (10, .one (.msl 10 0 0 e_81.length))], [.cells 0 4 [[.int .i64 s.a0, .int .i64 s.a1, .int .i64 s.a2, .int .i64 s.a3]], .cells 0 4 [[.int .i64 0, .int .i64 0, .int .i64 0, .int .i64 0]], .cells 0 3 [[.slf ([1].map eI), .slf ([1].map eI), .fn 107 []]], .cells 0 3 [[.slf ([1, 4].map eI), .slf ([1, 4].map eI), .nilfn]], .cells 0 3 [[.slf ([1, 1, 2].map eI), .slf ([1, 2].map eI), .nilfn]], .cells 0 3 [[.slf ([1].map eI), .slf ([1].map eI), .nilfn]], .cells 0 3 [[.slf ([1, 1].map eI), .slf ([1].map eI), .nilfn]], .cells 0 3 [[.slf ([1].map eI), .slf ([1].map eI), .fn 107 []]], .cells 0 3 [[.slf ([1].map eI), .slf ([1].map eI), .fn 107 []]], .cells 0 3 [[.slf ([1].map eI), .slf ([1].map eI), .fn 107 []]], .cells 0 1 (e_81.map eI)]⟩) (fun (_ : List Int) => some 0) () he_81 ?_ ?_
  intro i82 b82 hi82
  obtain rfl := Option.some.inj hi82
  obtain ⟨⟩ := b82
  dsimp only at h ⊢
  refine bi h fun r_88 h hr_88 => ?_
  refine tt ?_
  repeat (first | (with_reducible intro _) | refine ⟨ss, ?_⟩)
  refine cF [10] (blocks_falls_ok hr_88) ?_
  cases h; exact fin
  intro af82 m82 s82 a82 o82 hf82 ho82 ih82
  obtain ⟨l_79, x_80⟩ := s82
  obtain ⟨⟩ := a82
  dsimp only [blocks_Step_L8] at hf82 ⊢
  refine fl hf82 F (fun hf82 _ F => ?_) (fun hf82 _ F => ?_)
  refine bx hf82 F fun x_83 hf82 hx_83 F => ?_
  refine bx hf82 F fun x_84 hf82 hx_84 F => ?_
  refine ln F fun F => ?_
  have R := And.intro (show ([[.int .i64 1]] : List (List C))[x_80]? = some [.int .i64 x_84] from q_map (f := eI) hx_84) R
  refine bi hf82 fun r_85 hf82 hr_85 => ?_
  refine tt ?_
  repeat (first | (with_reducible intro _) | refine ⟨ss, ?_⟩)
  refine cS (ints_Wrap_ok hr_85) ?_
  refine bx hf82 F fun x_86 hf82 hx_86 F => ?_
  have R := And.intro (show (List.map eI l_79).set x_80 [.int .i64 r_85] = List.map eI (l_79.set x_80 r_85) by simp [go_sem, List.map_set]) R
  cases hf82
  refine tt ?_
  repeat (first | (with_reducible intro _) | refine ⟨ss, ?_⟩)
  refine wn x_80 F fun F => ?_
  exact bk ih82 ho82 ()
  cases hf82
  refine tt ?_
  exact xt ho82 af82 ()
  cases h; exact fin
  refine tt ?_
  refine fi h F (fun h _ F => ?_) (fun h _ F => ?_)
  refine tt ?_
  repeat (first | (with_reducible intro _) | refine ⟨ss, ?_⟩)
  refine iS Try.func99 ?_
  simp only [Try.f99]
  refine tt ?_
  repeat (first | (with_reducible intro _) | refine ⟨ss, ?_⟩)
  refine fi h F (fun h _ F => ?_) (fun h _ F => ?_)
  refine nd h F fun h F => ?_
  have R := And.intro (show List.replicate in_.length [.int .i64 0] = List.map eI (List.replicate in_.length 0) by simp [go_sem]) R
  refine bi h fun e_92 h he_92 => ?_
  refine tt ?_
  repeat (first | (with_reducible intro _) | refine ⟨ss, ?_⟩)
  refine lE (fun (s__ : (List Int) × Nat) (a__ : Unit) => match s__, a__ with | (l_90, x_91), _ => ⟨[(3, .one (.int .i64 now)), (5, .one (.ref 0 0 0 0)), (8, .one (.ref 1 0 0 0)), (9, .one (.ref 9 0 0 0)), (10, .one (.msl 10 0 0 l_90.length)), (30, .one (.sl (in_.map eI))), (31, .one (.int .i64 (in_.length : Int))), (32, .one (.int .i64 (x_91 : Int)))], [.cells 0 4 [[.int .i64 s.a0, .int .i64 s.a1, .int .i64 s.a2, .int .i64 s.a3]], .cells 0 4 [[.int .i64 0, .int .i64 0, .int .i64 0, .int .i64 0]], .cells 0 3 [[.slf ([1, 1].map eI), .slf ([1].map eI), .fn 108 []]], .cells 0 3 [[.slf ([1, 4].map eI), .slf ([1, 4].map eI), .nilfn]], .cells 0 3 [[.slf ([1, 1, 2].map eI), .slf ([1, 2].map eI), .nilfn]], .cells 0 3 [[.slf ([1].map eI), .slf ([1].map eI), .nilfn]], .cells 0 3 [[.slf ([1, 1].map eI), .slf ([1].map eI), .nilfn]], .cells 0 3 [[.slf ([1, 1].map eI), .slf ([1].map eI), .fn 108 []]], .cells 0 3 [[.slf ([1, 1].map eI), .slf ([1].map eI), .fn 108 []]], .cells 0 3 [[.slf ([1, 1].map eI), .slf ([1].map eI), .fn 108 []]], .cells 0 1 (l_90.map eI)]⟩) (fun (e__ : List Int) (b__ : Unit) => match e__, b__ with | e_92, _ => ⟨[(3, .one (.int .i64 now)), (5, .one (.ref 0 0 0 0)), (8, .one (.ref 1 0 0 0)), (9, .one (.ref 9 0 0 0)), (10, .one (.msl 10 0 0 e_92.length))], [.cells 0 4 [[.int .i64 s.a0, .int .i64 s.a1, .int .i64 s.a2, .int .i64 s.a3]], .cells 0 4 [[.int .i64 0, .int .i64 0, .int .i64 0, .int .i64 0]], .cells 0 3 [[.slf ([1, 1].map eI), .slf ([1].map eI), .fn 108 []]], .cells 0 3 [[.slf ([1, 4].map eI), .slf ([1, 4].map eI), .nilfn]], .cells 0 3 [[.slf ([1, 1, 2].map eI), .slf ([1, 2].map eI), .nilfn]], .cells 0 3 [[.slf ([1].map eI), .slf ([1].map eI), .nilfn]], .cells 0 3 [[.slf ([1, 1].map eI), .slf ([1].map eI), .nilfn]], .cells 0 3 [[.slf ([1, 1].map eI), .slf ([1].map eI), .fn 108 []]], .cells 0 3 [[.slf ([1, 1].map eI), .slf ([1].map eI), .fn 108 []]], .cells 0 3 [[.slf ([1, 1].map eI), .slf ([1].map eI), .fn 108 []]], .cells 0 1 (e_92.map eI)]⟩) (fun (_ : List Int) => some 0) () he_92 ?_ ?_
  intro i93 b93 hi93
  obtain rfl := Option.some.inj hi93
  obtain ⟨⟩ := b93
  dsimp only at h ⊢
  refine bi h fun r_99 h hr_99 => ?_
  refine tt ?_
  repeat (first | (with_reducible intro _) | refine ⟨ss, ?_⟩)
  refine cF [10] (blocks_sr_ok hr_99) ?_
  cases h; exact fin
  intro af93 m93 s93 a93 o93 hf93 ho93 ih93
  obtain ⟨l_90, x_91⟩ := s93
  obtain ⟨⟩ := a93
  dsimp only [blocks_Step_L9] at hf93 ⊢
  refine fl hf93 F (fun hf93 _ F => ?_) (fun hf93 _ F => ?_)
  refine bx hf93 F fun x_94 hf93 hx_94 F => ?_
  refine bx hf93 F fun x_95 hf93 hx_95 F => ?_
  refine ln F fun F => ?_
  have R := And.intro (show ([[.int .i64 1], [.int .i64 1]] : List (List C))[x_91]? = some [.int .i64 x_95] from q_map (f := eI) hx_95) R
  refine bi hf93 fun r_96 hf93 hr_96 => ?_
  refine tt ?_
  repeat (first | (with_reducible intro _) | refine ⟨ss, ?_⟩)
  refine cS (ints_Wrap_ok hr_96) ?_
  refine bx hf93 F fun x_97 hf93 hx_97 F => ?_
  have R := And.intro (show (List.map eI l_90).set x_91 [.int .i64 r_96] = List.map eI (l_90.set x_91 r_96) by simp [go_sem, List.map_set]) R
  cases hf93
  refine tt ?_
  repeat (first | (with_reducible intro _) | refine ⟨ss, ?_⟩)
  refine wn x_91 F fun F => ?_
  exact bk ih93 ho93 ()
  cases hf93
  refine tt ?_
  exact xt ho93 af93 ()
  cases h; exact fin
  refine fi h F (fun h _ F => ?_) (fun h _ F => ?_)
  refine tt ?_
  repeat (first | (with_reducible intro _) | refine ⟨ss, ?_⟩)
  refine iS Try.func99 ?_
  simp only [Try.f99]
  refine tt ?_
  repeat (first | (with_reducible intro _) | refine ⟨ss, ?_⟩)
  refine fi h F (fun h _ F => ?_) (fun h _ F => ?_)
  refine nd h F fun h F => ?_
  have R := And.intro (show List.replicate in_.length [.int .i64 0] = List.map eI (List.replicate in_.length 0) by simp [go_sem]) R
  refine bi h fun e_103 h he_103 => ?_
  refine tt ?_
  repeat (first | (with_reducible intro _) | refine ⟨ss, ?_⟩)
  refine lE (fun (s__ : (List Int) × Nat) (a__ : Unit) => match s__, a__ with | (l_101, x_102), _ => ⟨[(3, .one (.int .i64 now)), (5, .one (.ref 0 0 0 0)), (8, .one (.ref 1 0 0 0)), (9, .one (.ref 9 0 0 0)), (10, .one (.msl 10 0 0 l_101.length)), (30, .one (.sl (in_.map eI))), (31, .one (.int .i64 (in_.length : Int))), (32, .one (.int .i64 (x_102 : Int)))], [.cells 0 4 [[.int .i64 s.a0, .int .i64 s.a1, .int .i64 s.a2, .int .i64 s.a3]], .cells 0 4 [[.int .i64 0, .int .i64 0, .int .i64 0, .int .i64 0]], .cells 0 3 [[.slf ([1, 1].map eI), .slf ([1].map eI), .fn 109 []]], .cells 0 3 [[.slf ([1, 4].map eI), .slf ([1, 4].map eI), .nilfn]], .cells 0 3 [[.slf ([1, 1, 2].map eI), .slf ([1, 2].map eI), .nilfn]], .cells 0 3 [[.slf ([1].map eI), .slf ([1].map eI), .nilfn]], .cells 0 3 [[.slf ([1, 1].map eI), .slf ([1].map eI), .nilfn]], .cells 0 3 [[.slf ([1, 1].map eI), .slf ([1].map eI), .fn 109 []]], .cells 0 3 [[.slf ([1, 1].map eI), .slf ([1].map eI), .fn 109 []]], .cells 0 3 [[.slf ([1, 1].map eI), .slf ([1].map eI), .fn 109 []]], .cells 0 1 (l_101.map eI)]⟩) (fun (e__ : List Int) (b__ : Unit) => match e__, b__ with | e_103, _ => ⟨[(3, .one (.int .i64 now)), (5, .one (.ref 0 0 0 0)), (8, .one (.ref 1 0 0 0)), (9, .one (.ref 9 0 0 0)), (10, .one (.msl 10 0 0 e_103.length))], [.cells 0 4 [[.int .i64 s.a0, .int .i64 s.a1, .int .i64 s.a2, .int .i64 s.a3]], .cells 0 4 [[.int .i64 0, .int .i64 0, .int .i64 0, .int .i64 0]], .cells 0 3 [[.slf ([1, 1].map eI), .slf ([1].map eI), .fn 109 []]], .cells 0 3 [[.slf ([1, 4].map eI), .slf ([1, 4].map eI), .nilfn]], .cells 0 3 [[.slf ([1, 1, 2].map eI), .slf ([1, 2].map eI), .nilfn]], .cells 0 3 [[.slf ([1].map eI), .slf ([1].map eI), .nilfn]], .cells 0 3 [[.slf ([1, 1].map eI), .slf ([1].map eI), .nilfn]], .cells 0 3 [[.slf ([1, 1].map eI), .slf ([1].map eI), .fn 109 []]], .cells 0 3 [[.slf ([1, 1].map eI), .slf ([1].map eI), .fn 109 []]], .cells 0 3 [[.slf ([1, 1].map eI), .slf ([1].map eI), .fn 109 []]], .cells 0 1 (e_103.map eI)]⟩) (fun (_ : List Int) => some 0) () he_103 ?_ ?_
  intro i104 b104 hi104
  obtain rfl := Option.some.inj hi104
  obtain ⟨⟩ := b104
  dsimp only at h ⊢
  refine bi h fun r_110 h hr_110 => ?_
  refine tt ?_
  repeat (first | (with_reducible intro _) | refine ⟨ss, ?_⟩)
  refine cF [10] (blocks_rs_ok hr_110) ?_
  cases h; exact fin
  intro af104 m104 s104 a104 o104 hf104 ho104 ih104
  obtain ⟨l_101, x_102⟩ := s104
  obtain ⟨⟩ := a104
  dsimp only [blocks_Step_L10] at hf104 ⊢
  refine fl hf104 F (fun hf104 _ F => ?_) (fun hf104 _ F => ?_)
  refine bx hf104 F fun x_105 hf104 hx_105 F => ?_
  refine bx hf104 F fun x_106 hf104 hx_106 F => ?_
  refine ln F fun F => ?_
  have R := And.intro (show ([[.int .i64 1], [.int .i64 1]] : List (List C))[x_102]? = some [.int .i64 x_106] from q_map (f := eI) hx_106) R
  refine bi hf104 fun r_107 hf104 hr_107 => ?_
  refine tt ?_
  repeat (first | (with_reducible intro _) | refine ⟨ss, ?_⟩)
  refine cS (ints_Wrap_ok hr_107) ?_
  refine bx hf104 F fun x_108 hf104 hx_108 F => ?_
  have R := And.intro (show (List.map eI l_101).set x_102 [.int .i64 r_107] = List.map eI (l_101.set x_102 r_107) by simp [go_sem, List.map_set]) R
  cases hf104
  refine tt ?_
  repeat (first | (with_reducible intro _) | refine ⟨ss, ?_⟩)
  refine wn x_102 F fun F => ?_
  exact bk ih104 ho104 ()
  cases hf104
  refine tt ?_
  exact xt ho104 af104 ()
  cases h; exact fin
  cases h; exact fin
theorem lazarettolaw11_awake_ok {r : Bool} (h : lazarettolaw11_awake = some r) :
    Pu Try.prog 54 [] (.one (.bool r)) := by
  have F := trivial; have R := trivial
  refine pA Try.func54 ?_
  simp only [Try.f54]
  unfold lazarettolaw11_awake at h
  refine bi h fun r_1 h hr_1 => ?_
  refine tt ?_
  repeat (first | (with_reducible intro _) | refine ⟨ss, ?_⟩)
  refine cS (blocks_Step_ok hr_1) ?_
  refine bi h fun r_2 h hr_2 => ?_
  refine tt ?_
  repeat (first | (with_reducible intro _) | refine ⟨ss, ?_⟩)
  refine cD (blocks_Out_ok hr_2) ?_
  refine bi h fun r_3 h hr_3 => ?_
  refine tt ?_
  repeat (first | (with_reducible intro _) | refine ⟨ss, ?_⟩)
  refine cD (blocks_Out_ok hr_3) ?_
  refine bi h fun r_4 h hr_4 => ?_
  refine tt ?_
  repeat (first | (with_reducible intro _) | refine ⟨ss, ?_⟩)
  refine cS (blocks_Step_ok hr_4) ?_
  refine bi h fun r_5 h hr_5 => ?_
  refine tt ?_
  repeat (first | (with_reducible intro _) | refine ⟨ss, ?_⟩)
  refine cS (blocks_Out_ok hr_5) ?_
  refine bi h fun r_6 h hr_6 => ?_
  refine tt ?_
  repeat (first | (with_reducible intro _) | refine ⟨ss, ?_⟩)
  refine cS (blocks_Step_ok hr_6) ?_
  refine bi h fun r_7 h hr_7 => ?_
  refine tt ?_
  repeat (first | (with_reducible intro _) | refine ⟨ss, ?_⟩)
  refine cS (blocks_Step_ok hr_7) ?_
  refine fi h F (fun h _ F => ?_) (fun h _ F => ?_)
  refine tt ?_
  refine fi h F (fun h _ F => ?_) (fun h _ F => ?_)
  refine fi h F (fun h _ F => ?_) (fun h _ F => ?_)
  refine bi h fun r_8 h hr_8 => ?_
  refine tt ?_
  repeat (first | (with_reducible intro _) | refine ⟨ss, ?_⟩)
  refine cS (blocks_Out_ok hr_8) ?_
  refine fi h F (fun h _ F => ?_) (fun h _ F => ?_)
  refine bi h fun r_9 h hr_9 => ?_
  refine tt ?_
  repeat (first | (with_reducible intro _) | refine ⟨ss, ?_⟩)
  refine cS (blocks_Out_ok hr_9) ?_
  refine fi h F (fun h _ F => ?_) (fun h _ F => ?_)
  refine bi h fun r_10 h hr_10 => ?_
  refine tt ?_
  repeat (first | (with_reducible intro _) | refine ⟨ss, ?_⟩)
  refine cS (blocks_Out_ok hr_10) ?_
  refine fi h F (fun h _ F => ?_) (fun h _ F => ?_)
  refine bi h fun r_11 h hr_11 => ?_
  refine tt ?_
  repeat (first | (with_reducible intro _) | refine ⟨ss, ?_⟩)
  refine cS (blocks_Kinds_ok hr_11) ?_
  refine tt ?_
  repeat (first | (with_reducible intro _) | refine ⟨ss, ?_⟩)
  refine fi h F (fun h _ F => ?_) (fun h _ F => ?_)
  refine bi h fun r_12 h hr_12 => ?_
  refine tt ?_
  repeat (first | (with_reducible intro _) | refine ⟨ss, ?_⟩)
  refine cS (blocks_Inputs_ok hr_12) ?_
  refine tt ?_
  repeat (first | (with_reducible intro _) | refine ⟨ss, ?_⟩)
  refine fi h F (fun h _ F => ?_) (fun h _ F => ?_)
  refine bi h fun r_13 h hr_13 => ?_
  refine tt ?_
  repeat (first | (with_reducible intro _) | refine ⟨ss, ?_⟩)
  refine cS (blocks_Outputs_ok hr_13) ?_
  cases h; exact fin
  cases h; exact fin
  cases h; exact fin
  cases h; exact fin
  cases h; exact fin
  cases h; exact fin
  cases h; exact fin
  cases h; exact fin
  cases h; exact fin
end Go.Lz
