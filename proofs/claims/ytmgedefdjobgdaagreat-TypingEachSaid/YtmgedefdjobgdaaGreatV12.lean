/- V12 -/
import Derived.Test.YtmgedefdjobgdaaGreatV10
namespace Go.Lz
set_option linter.unusedVariables false
set_option linter.unusedSimpArgs false
open Go.Proofs
attribute [-go_sem] q_cond g_b gd_b
set_option maxRecDepth 100000
set_option maxHeartbeats 4000000
noncomputable section
def slices_ContainsFunc_api_Var_api_Var (s : List api_Var) (f : (api_Var → Option Bool)) : Option Bool :=
  (slices_IndexFunc_api_Var_api_Var s f).bind fun r_1 => some (decide (0 ≤ r_1))
def ints_Bits (kind : Int) : Option Int :=
  if kind = 1 then (some 1) else (if kind = 2 then (some 16) else (if kind = 3 then (some 32) else (if kind = 4 then (some 32) else (some 0))))
def cells_Check (t : api_Type) : Option Int :=
  if (-32768) ≤ t.Low then ((ints_Bits t.Kind).bind fun r_1 => if r_1 = 0 then (some 6) else (if t.Len < 0 then (some 6) else (if 32 < t.Len then (some 6) else (if t.Low < 32768 then (if t.Len = 0 then (if t.Low = 0 then (some 0) else (some 6)) else (some 0)) else (some 6))))) else ((ints_Bits t.Kind).bind fun r_2 => if r_2 = 0 then (some 6) else (if t.Len < 0 then (some 6) else (if 32 < t.Len then (some 6) else (some 6))))
def ints_bit (b : Bool) : Option Int :=
  if b = true then (some 1) else (some 0)
def ints_Wrap (kind : Int) (n : Int) : Option Int :=
  some (wrapS kind n)
def ints_Valid (kind : Int) (n : Int) : Option Bool :=
  (ints_Bits kind).bind fun r_1 => if 0 < r_1 then ((ints_Wrap kind n).bind fun r_2 => some (decide (r_2 = n))) else (some false)
def typing_Check_1 (v : api_Var) : Option Bool :=
  (cells_Check v.Type_).bind fun r_1 => if r_1 = 0 then (if v.Mode = 0 then ((ints_Valid v.Type_.Kind v.Safe).bind fun r_2 => some (!r_2)) else (if v.Type_.Len = 0 then ((ints_Valid v.Type_.Kind v.Safe).bind fun r_3 => some (!r_3)) else (some true))) else (some true)
def slices_ContainsFunc_api_Block_api_Block (s : List api_Block) (f : (api_Block → Option Bool)) : Option Bool :=
  (slices_IndexFunc_api_Block_api_Block s f).bind fun r_1 => some (decide (0 ≤ r_1))
def blocks_since (now : Int) (from_ : Int) (most : Int) : Option Int :=
  if now ≤ from_ then (some 0) else (if most ≤ 0 then (some 0) else (if (IntKind.u64.wrap most) < (IntKind.u64.wrap ((IntKind.u64.wrap now) - (IntKind.u64.wrap from_))) then (some most) else (some (w64 (now - from_)))))
def blocks_bit (b : Bool) : Option Int :=
  if b = true then (some 1) else (some 0)
def blocks_ton (s : A4 Int) (in_ : List Int) (now : Int) : Option (A4 Int) :=
  (in_[0]?).bind fun x_1 => if x_1 = 0 then (some (⟨0, 0, s.a2, 0⟩ : A4 Int)) else (if s.a3 = 0 then ((in_[1]?).bind fun x_2 => (blocks_since now now x_2).bind fun r_3 => (blocks_bit (decide (x_2 ≤ r_3))).bind fun r_4 => some (⟨r_4, r_3, now, 1⟩ : A4 Int)) else ((in_[1]?).bind fun x_5 => (blocks_since now s.a2 x_5).bind fun r_6 => (blocks_bit (decide (x_5 ≤ r_6))).bind fun r_7 => some (⟨r_7, r_6, s.a2, 1⟩ : A4 Int)))
def blocks_run (s : A4 Int) (now : Int) (pt : Int) : Option (A4 Int) :=
  if s.a0 = 0 then (some s) else ((blocks_since now s.a2 pt).bind fun r_1 => if pt ≤ r_1 then (some (⟨0, r_1, s.a2, s.a3⟩ : A4 Int)) else (some (⟨s.a0, r_1, s.a2, s.a3⟩ : A4 Int)))
def blocks_tof (s : A4 Int) (in_ : List Int) (now : Int) : Option (A4 Int) :=
  (in_[0]?).bind fun x_1 => if x_1 = 1 then (some (⟨1, 0, s.a2, 1⟩ : A4 Int)) else (if s.a3 = 0 then ((in_[1]?).bind fun x_2 => (blocks_run (⟨s.a0, s.a1, s.a2, 0⟩ : A4 Int) now x_2).bind fun r_3 => some r_3) else ((in_[1]?).bind fun x_4 => (blocks_run (⟨s.a0, s.a1, now, 0⟩ : A4 Int) now x_4).bind fun r_5 => some r_5))
def blocks_tp (s : A4 Int) (in_ : List Int) (now : Int) : Option (A4 Int) :=
  (in_[1]?).bind fun x_1 => (blocks_run s now x_1).bind fun r_2 => (in_[0]?).bind fun x_3 => if x_3 = 1 then (if r_2.a3 = 0 then (if r_2.a0 = 0 then ((blocks_bit (decide (0 < x_1))).bind fun r_4 => if x_3 = 0 then none else (some (⟨r_4, 0, now, x_3⟩ : A4 Int))) else (if x_3 = 0 then none else (some (⟨r_2.a0, r_2.a1, r_2.a2, x_3⟩ : A4 Int)))) else (if x_3 = 0 then none else (some (⟨r_2.a0, r_2.a1, r_2.a2, x_3⟩ : A4 Int)))) else (if x_3 = 0 then (if r_2.a0 = 0 then (some (⟨r_2.a0, 0, r_2.a2, x_3⟩ : A4 Int)) else (some (⟨r_2.a0, r_2.a1, r_2.a2, x_3⟩ : A4 Int))) else (some (⟨r_2.a0, r_2.a1, r_2.a2, x_3⟩ : A4 Int)))
def blocks_up (n : Int) : Option Int :=
  if 32767 ≤ n then (some 32767) else (some (w64 (n + 1)))
def blocks_ctu (s : A4 Int) (in_ : List Int) (p2 : Int) : Option (A4 Int) :=
  (in_[1]?).bind fun x_1 => if x_1 = 1 then ((in_[2]?).bind fun x_2 => (blocks_bit (decide (x_2 ≤ 0))).bind fun r_3 => (in_[0]?).bind fun x_4 => some (⟨r_3, 0, s.a2, x_4⟩ : A4 Int)) else ((in_[0]?).bind fun x_5 => if x_5 = 1 then (if s.a3 = 0 then ((blocks_up s.a1).bind fun r_6 => (in_[2]?).bind fun x_7 => (blocks_bit (decide (x_7 ≤ r_6))).bind fun r_8 => some (⟨r_8, r_6, s.a2, x_5⟩ : A4 Int)) else ((in_[2]?).bind fun x_9 => (blocks_bit (decide (x_9 ≤ s.a1))).bind fun r_10 => some (⟨r_10, s.a1, s.a2, x_5⟩ : A4 Int))) else ((in_[2]?).bind fun x_11 => (blocks_bit (decide (x_11 ≤ s.a1))).bind fun r_12 => some (⟨r_12, s.a1, s.a2, x_5⟩ : A4 Int)))
def blocks_down (n : Int) : Option Int :=
  if n ≤ (-32768) then (some (-32768)) else (some (w64 (n - 1)))
def blocks_ctd (s : A4 Int) (in_ : List Int) (p2 : Int) : Option (A4 Int) :=
  (in_[1]?).bind fun x_1 => if x_1 = 1 then ((in_[2]?).bind fun x_2 => (blocks_bit (decide (x_2 ≤ 0))).bind fun r_3 => (in_[0]?).bind fun x_4 => some (⟨r_3, x_2, s.a2, x_4⟩ : A4 Int)) else ((in_[0]?).bind fun x_5 => if x_5 = 1 then (if s.a3 = 0 then ((blocks_down s.a1).bind fun r_6 => (blocks_bit (decide (r_6 ≤ 0))).bind fun r_7 => some (⟨r_7, r_6, s.a2, x_5⟩ : A4 Int)) else ((blocks_bit (decide (s.a1 ≤ 0))).bind fun r_8 => some (⟨r_8, s.a1, s.a2, x_5⟩ : A4 Int))) else ((blocks_bit (decide (s.a1 ≤ 0))).bind fun r_9 => some (⟨r_9, s.a1, s.a2, x_5⟩ : A4 Int)))
def blocks_ctud (s : A4 Int) (in_ : List Int) (p2 : Int) : Option (A4 Int) :=
  (in_[0]?).bind fun x_1 => if x_1 = 1 then ((in_[1]?).bind fun x_2 => if x_2 = 1 then ((in_[2]?).bind fun x_3 => if x_3 = 1 then ((in_[4]?).bind fun x_4 => some (⟨0, x_1, x_2, x_4⟩ : A4 Int)) else ((in_[3]?).bind fun x_5 => if x_5 = 1 then ((in_[4]?).bind fun x_6 => some (⟨x_6, x_1, x_2, x_6⟩ : A4 Int)) else (if ((decide (s.a1 = 0)) == (decide (s.a2 = 0))) = true then ((in_[4]?).bind fun x_7 => some (⟨s.a0, x_1, x_2, x_7⟩ : A4 Int)) else (if s.a1 = 0 then ((blocks_up s.a0).bind fun r_8 => (in_[4]?).bind fun x_9 => some (⟨r_8, x_1, x_2, x_9⟩ : A4 Int)) else ((blocks_down s.a0).bind fun r_10 => (in_[4]?).bind fun x_11 => some (⟨r_10, x_1, x_2, x_11⟩ : A4 Int)))))) else ((in_[2]?).bind fun x_12 => if x_12 = 1 then ((in_[4]?).bind fun x_13 => some (⟨0, x_1, x_2, x_13⟩ : A4 Int)) else ((in_[3]?).bind fun x_14 => if x_14 = 1 then ((in_[4]?).bind fun x_15 => some (⟨x_15, x_1, x_2, x_15⟩ : A4 Int)) else (if s.a1 = 0 then ((blocks_up s.a0).bind fun r_16 => (in_[4]?).bind fun x_17 => some (⟨r_16, x_1, x_2, x_17⟩ : A4 Int)) else ((in_[4]?).bind fun x_18 => some (⟨s.a0, x_1, x_2, x_18⟩ : A4 Int)))))) else ((in_[1]?).bind fun x_19 => if x_19 = 1 then ((in_[2]?).bind fun x_20 => if x_20 = 1 then ((in_[4]?).bind fun x_21 => some (⟨0, x_1, x_19, x_21⟩ : A4 Int)) else ((in_[3]?).bind fun x_22 => if x_22 = 1 then ((in_[4]?).bind fun x_23 => some (⟨x_23, x_1, x_19, x_23⟩ : A4 Int)) else (if s.a2 = 0 then ((blocks_down s.a0).bind fun r_24 => (in_[4]?).bind fun x_25 => some (⟨r_24, x_1, x_19, x_25⟩ : A4 Int)) else ((in_[4]?).bind fun x_26 => some (⟨s.a0, x_1, x_19, x_26⟩ : A4 Int))))) else ((in_[2]?).bind fun x_27 => if x_27 = 1 then ((in_[4]?).bind fun x_28 => some (⟨0, x_1, x_19, x_28⟩ : A4 Int)) else ((in_[3]?).bind fun x_29 => if x_29 = 1 then ((in_[4]?).bind fun x_30 => some (⟨x_30, x_1, x_19, x_30⟩ : A4 Int)) else ((in_[4]?).bind fun x_31 => some (⟨s.a0, x_1, x_19, x_31⟩ : A4 Int)))))
def blocks_rises (s : A4 Int) (in_ : List Int) (p2 : Int) : Option (A4 Int) :=
  (in_[0]?).bind fun x_1 => if x_1 = 1 then ((blocks_bit (decide (s.a3 = 0))).bind fun r_2 => some (⟨r_2, s.a1, s.a2, x_1⟩ : A4 Int)) else ((blocks_bit false).bind fun r_3 => some (⟨r_3, s.a1, s.a2, x_1⟩ : A4 Int))
def blocks_falls (s : A4 Int) (in_ : List Int) (p2 : Int) : Option (A4 Int) :=
  (in_[0]?).bind fun x_1 => if x_1 = 0 then ((blocks_bit (!(decide (s.a3 = 0)))).bind fun r_2 => some (⟨r_2, s.a1, s.a2, x_1⟩ : A4 Int)) else ((blocks_bit false).bind fun r_3 => some (⟨r_3, s.a1, s.a2, x_1⟩ : A4 Int))
def blocks_sr (s : A4 Int) (in_ : List Int) (p2 : Int) : Option (A4 Int) :=
  (in_[0]?).bind fun x_1 => if x_1 = 1 then ((blocks_bit true).bind fun r_2 => some (⟨r_2, s.a1, s.a2, s.a3⟩ : A4 Int)) else (if s.a0 = 0 then ((blocks_bit false).bind fun r_3 => some (⟨r_3, s.a1, s.a2, s.a3⟩ : A4 Int)) else ((in_[1]?).bind fun x_4 => (blocks_bit (decide (x_4 = 0))).bind fun r_5 => some (⟨r_5, s.a1, s.a2, s.a3⟩ : A4 Int)))
def blocks_rs (s : A4 Int) (in_ : List Int) (p2 : Int) : Option (A4 Int) :=
  (in_[1]?).bind fun x_1 => if x_1 = 0 then ((in_[0]?).bind fun x_2 => if x_2 = 1 then ((blocks_bit true).bind fun r_3 => some (⟨r_3, s.a1, s.a2, s.a3⟩ : A4 Int)) else ((blocks_bit (!(decide (s.a0 = 0)))).bind fun r_4 => some (⟨r_4, s.a1, s.a2, s.a3⟩ : A4 Int))) else ((blocks_bit false).bind fun r_5 => some (⟨r_5, s.a1, s.a2, s.a3⟩ : A4 Int))
def blocks_of (name : Str) : Option blocks_kind :=
  if name = ([84, 79, 78] : Str) then (some (⟨[1, 4], [1, 4], (some 83)⟩ : blocks_kind)) else (if name = ([84, 79, 70] : Str) then (some (⟨[1, 4], [1, 4], (some 84)⟩ : blocks_kind)) else (if name = ([84, 80] : Str) then (some (⟨[1, 4], [1, 4], (some 85)⟩ : blocks_kind)) else (if name = ([67, 84, 85] : Str) then (some (⟨[1, 1, 2], [1, 2], (some 86)⟩ : blocks_kind)) else (if name = ([67, 84, 68] : Str) then (some (⟨[1, 1, 2], [1, 2], (some 87)⟩ : blocks_kind)) else (if name = ([67, 84, 85, 68] : Str) then (some (⟨[1, 1, 1, 1, 2], [1, 1, 2], (some 88)⟩ : blocks_kind)) else (if name = ([82, 95, 84, 82, 73, 71] : Str) then (some (⟨[1], [1], (some 89)⟩ : blocks_kind)) else (if name = ([70, 95, 84, 82, 73, 71] : Str) then (some (⟨[1], [1], (some 90)⟩ : blocks_kind)) else (if name = ([83, 82] : Str) then (some (⟨[1, 1], [1], (some 91)⟩ : blocks_kind)) else (if name = ([82, 83] : Str) then (some (⟨[1, 1], [1], (some 92)⟩ : blocks_kind)) else (some (⟨[], [], none⟩ : blocks_kind)))))))))))
def blocks_Inputs (name : Str) : Option (List Int) :=
  if name = ([84, 79, 78] : Str) then (some [1, 4]) else (if name = ([84, 79, 70] : Str) then (some [1, 4]) else (if name = ([84, 80] : Str) then (some [1, 4]) else (if name = ([67, 84, 85] : Str) then (some [1, 1, 2]) else (if name = ([67, 84, 68] : Str) then (some [1, 1, 2]) else (if name = ([67, 84, 85, 68] : Str) then (some [1, 1, 1, 1, 2]) else (if name = ([82, 95, 84, 82, 73, 71] : Str) then (some [1]) else (if name = ([70, 95, 84, 82, 73, 71] : Str) then (some [1]) else (if name = ([83, 82] : Str) then (some [1, 1]) else (if name = ([82, 83] : Str) then (some [1, 1]) else (some []))))))))))
def typing_Check_2 (b : api_Block) : Option Bool :=
  (blocks_Inputs b.Kind).bind fun r_1 => some (decide ((r_1.length : Int) = 0))
def slices_IndexFunc_api_Task_api_Task_L1 (s : List api_Task) (f : (api_Task → Option Bool)) : Nat → Option ((Nat) ⊕ (Int ⊕ Unit))
  | x_1 => if (x_1 : Int) < (s.length : Int) then ((s[x_1]?).bind fun x_4 => (f x_4).bind fun r_5 => if r_5 = true then (some (.inr (.inl ((x_1 : Int))))) else (some (.inl (x_1 + 1)))) else (some (.inr (.inr (()))))
def slices_IndexFunc_api_Task_api_Task (s : List api_Task) (f : (api_Task → Option Bool)) : Option Int :=
  (loop (slices_IndexFunc_api_Task_api_Task_L1 s f) 0).bind (fun e__ => match e__ with | (.inl e_6) => some e_6 | (.inr ()) => some (-1))
def slices_ContainsFunc_api_Task_api_Task (s : List api_Task) (f : (api_Task → Option Bool)) : Option Bool :=
  (slices_IndexFunc_api_Task_api_Task s f).bind fun r_1 => some (decide (0 ≤ r_1))
def slices_IndexFunc_api_Stmt_api_Stmt_L1 (s : List api_Stmt) (f : (api_Stmt → Option Bool)) : Nat → Option ((Nat) ⊕ (Int ⊕ Unit))
  | x_1 => if (x_1 : Int) < (s.length : Int) then ((s[x_1]?).bind fun x_4 => (f x_4).bind fun r_5 => if r_5 = true then (some (.inr (.inl ((x_1 : Int))))) else (some (.inl (x_1 + 1)))) else (some (.inr (.inr (()))))
def slices_IndexFunc_api_Stmt_api_Stmt (s : List api_Stmt) (f : (api_Stmt → Option Bool)) : Option Int :=
  (loop (slices_IndexFunc_api_Stmt_api_Stmt_L1 s f) 0).bind (fun e__ => match e__ with | (.inl e_6) => some e_6 | (.inr ()) => some (-1))
def slices_ContainsFunc_api_Stmt_api_Stmt (s : List api_Stmt) (f : (api_Stmt → Option Bool)) : Option Bool :=
  (slices_IndexFunc_api_Stmt_api_Stmt s f).bind fun r_1 => some (decide (0 ≤ r_1))
def blocks_Outputs (name : Str) : Option (List Int) :=
  if name = ([84, 79, 78] : Str) then (some [1, 4]) else (if name = ([84, 79, 70] : Str) then (some [1, 4]) else (if name = ([84, 80] : Str) then (some [1, 4]) else (if name = ([67, 84, 85] : Str) then (some [1, 2]) else (if name = ([67, 84, 68] : Str) then (some [1, 2]) else (if name = ([67, 84, 85, 68] : Str) then (some [1, 1, 2]) else (if name = ([82, 95, 84, 82, 73, 71] : Str) then (some [1]) else (if name = ([70, 95, 84, 82, 73, 71] : Str) then (some [1]) else (if name = ([83, 82] : Str) then (some [1]) else (if name = ([82, 83] : Str) then (some [1]) else (some []))))))))))
def slices_IndexFunc_int_int_L1 (s : List Int) (f : (Int → Option Bool)) : Nat → Option ((Nat) ⊕ (Int ⊕ Unit))
  | x_1 => if (x_1 : Int) < (s.length : Int) then ((s[x_1]?).bind fun x_4 => (f x_4).bind fun r_5 => if r_5 = true then (some (.inr (.inl ((x_1 : Int))))) else (some (.inl (x_1 + 1)))) else (some (.inr (.inr (()))))
def slices_IndexFunc_int_int (s : List Int) (f : (Int → Option Bool)) : Option Int :=
  (loop (slices_IndexFunc_int_int_L1 s f) 0).bind (fun e__ => match e__ with | (.inl e_6) => some e_6 | (.inr ()) => some (-1))
def slices_ContainsFunc_int_int (s : List Int) (f : (Int → Option Bool)) : Option Bool :=
  (slices_IndexFunc_int_int s f).bind fun r_1 => some (decide (0 ≤ r_1))
def typing_kind_1 (c0 : List Int) (k : Int) : Option Bool :=
  (c0[0]?).bind fun x_1 => some (!(decide (k = x_1)))
def ints_Result (op : Int) (kind : Int) : Option Int :=
  (ints_Bits kind).bind fun r_1 => if r_1 = 0 then (some 0) else (if op = 5 then (if kind = 1 then (some 0) else (some kind)) else (if op = 7 then (if kind = 1 then (some 0) else (some kind)) else (if op = 8 then (if kind = 1 then (some 0) else (some kind)) else (if op = 9 then (if kind = 1 then (some 0) else (some kind)) else (if op = 10 then (if kind = 1 then (some 0) else (some kind)) else (if op = 11 then (if kind = 1 then (some 0) else (some kind)) else (if op = 6 then (if kind = 4 then (some 0) else (some kind)) else (if op = 18 then (if kind = 4 then (some 0) else (some kind)) else (if op = 19 then (if kind = 4 then (some 0) else (some kind)) else (if op = 20 then (if kind = 4 then (some 0) else (some kind)) else (if op = 12 then (some 1) else (if op = 13 then (some 1) else (if op = 14 then (if kind = 1 then (some 0) else (some 1)) else (if op = 15 then (if kind = 1 then (some 0) else (some 1)) else (if op = 16 then (if kind = 1 then (some 0) else (some 1)) else (if op = 17 then (if kind = 1 then (some 0) else (some 1)) else (some 0)))))))))))))))))
def typing_kind_L1 (typing_kind_r : api_Program → api_Expr → Option Int) (p : api_Program) (e : api_Expr) : ((List Int) × Nat) → Option (((List Int) × Nat) ⊕ (List Int))
  | (xs_2, x_3) => if (x_3 : Int) < (e.Args.length : Int) then ((e.Args[x_3]?).bind fun x_6 => (typing_kind_r p x_6).bind fun r_7 => (xs_2[x_3]?).bind fun x_8 => some (.inl ((xs_2.set x_3 r_7), (x_3 + 1)))) else (some (.inr (xs_2)))
def typing_kind_b (typing_kind_r : api_Program → api_Expr → Option Int) (p : api_Program) (e : api_Expr) : Option Int :=
  need (0 ≤ (e.Args.length : Int) ∧ 8 * (e.Args.length : Int) ≤ 140737488355328) ((loop (typing_kind_L1 typing_kind_r p e) ((List.replicate e.Args.length 0), 0)).bind (fun e_4 => if e.Op = 1 then (some e.Kind) else (if e.Op = 2 then ((names_Var p e.Name).bind fun r_10 => if r_10 < 0 then (some 0) else ((idx p.Vars r_10).bind fun x_11 => if ((decide (0 < x_11.Type_.Len)) == (decide (e.Op = 3))) = true then (if e.Op = 3 then none else (some x_11.Type_.Kind)) else (some 0))) else (if e.Op = 3 then ((names_Var p e.Name).bind fun r_12 => if r_12 < 0 then (some 0) else ((idx p.Vars r_12).bind fun x_13 => if 0 < x_13.Type_.Len then (if (e_4.length : Int) = 1 then ((e_4[0]?).bind fun x_14 => if x_14 = 2 then (some x_13.Type_.Kind) else (some 0)) else (some 0)) else (some 0))) else (if e.Op = 4 then ((names_Block p e.Name).bind fun r_15 => if r_15 < 0 then (some 0) else ((idx p.Blocks r_15).bind fun x_16 => (blocks_Outputs x_16.Kind).bind fun r_17 => if 0 ≤ e.N then (if e.N < (r_17.length : Int) then ((idx r_17 e.N).bind fun x_18 => some x_18) else (some 0)) else (some 0))) else (if e.Op = 21 then ((names_Site p e.Name).bind fun r_19 => if 0 ≤ r_19 then (if (e_4.length : Int) = 1 then ((e_4[0]?).bind fun x_20 => some x_20) else (some 0)) else (some 0)) else (if 0 < (e_4.length : Int) then ((slices_ContainsFunc_int_int e_4 (typing_kind_1 e_4)).bind fun r_21 => if r_21 = true then (some 0) else ((e_4[0]?).bind fun x_22 => (ints_Result e.Op x_22).bind fun r_23 => some r_23)) else (some 0))))))))
def typing_kind_g : Nat → (api_Program → api_Expr → Option Int)
  | 0 => fun _ _ => none
  | n + 1 => typing_kind_b (typing_kind_g n)
def typing_kind_n (n : Nat) (p : api_Program) (e : api_Expr) : Option Int := (typing_kind_g n) p e
def typing_kind (p : api_Program) (e : api_Expr) : Option Int := typing_kind_n 1000000 p e
def slices_EqualFunc_api_Expr_int_api_Expr_int_L1 (s1 : List api_Expr) (s2 : List Int) (eq : (api_Expr → Int → Option Bool)) : Nat → Option ((Nat) ⊕ (Bool ⊕ Unit))
  | x_1 => if (x_1 : Int) < (s1.length : Int) then ((s1[x_1]?).bind fun x_4 => (s2[x_1]?).bind fun x_5 => (eq x_4 x_5).bind fun r_6 => if r_6 = true then (some (.inl (x_1 + 1))) else (some (.inr (.inl (false))))) else (some (.inr (.inr (()))))
def slices_EqualFunc_api_Expr_int_api_Expr_int (s1 : List api_Expr) (s2 : List Int) (eq : (api_Expr → Int → Option Bool)) : Option Bool :=
  if (s1.length : Int) = (s2.length : Int) then ((loop (slices_EqualFunc_api_Expr_int_api_Expr_int_L1 s1 s2 eq) 0).bind (fun e__ => match e__ with | (.inl e_7) => some e_7 | (.inr ()) => some true)) else (some false)
def typing_are_1 (c0 : api_Program) (e : api_Expr) (k : Int) : Option Bool :=
  (typing_kind c0 e).bind fun r_1 => some (decide (r_1 = k))
def typing_are (p : api_Program) (l : List api_Expr) (kinds : List Int) : Option Bool :=
  (slices_EqualFunc_api_Expr_int_api_Expr_int l kinds (typing_are_1 p)).bind fun r_1 => some r_1
def typing_sets_b (typing_sets_r : (List api_Stmt) → Str → Option Bool) (typing_sets_1_r : Str → api_Stmt → Option Bool) (l : List api_Stmt) (name : Str) : Option Bool :=
  (slices_ContainsFunc_api_Stmt_api_Stmt l (typing_sets_1_r name)).bind fun r_1 => some r_1
def typing_sets_1_b (typing_sets_r : (List api_Stmt) → Str → Option Bool) (typing_sets_1_r : Str → api_Stmt → Option Bool) (c0 : Str) (s : api_Stmt) : Option Bool :=
  if s.Kind = 1 then (if s.Target.Name = c0 then (some true) else (if s.Kind = 4 then none else ((typing_sets_r s.Body c0).bind fun r_1 => if r_1 = true then (some true) else ((typing_sets_r s.Else c0).bind fun r_2 => some r_2)))) else (if s.Kind = 4 then (if s.Name = c0 then (some true) else ((typing_sets_r s.Body c0).bind fun r_3 => if r_3 = true then (some true) else ((typing_sets_r s.Else c0).bind fun r_4 => some r_4))) else ((typing_sets_r s.Body c0).bind fun r_5 => if r_5 = true then (some true) else ((typing_sets_r s.Else c0).bind fun r_6 => some r_6)))
def typing_sets_g : Nat → ((List api_Stmt) → Str → Option Bool) × (Str → api_Stmt → Option Bool)
  | 0 => (fun _ _ => none, fun _ _ => none)
  | n + 1 => (typing_sets_b (typing_sets_g n).1 (typing_sets_g n).2, typing_sets_1_b (typing_sets_g n).1 (typing_sets_g n).2)
def typing_sets_n (n : Nat) (l : List api_Stmt) (name : Str) : Option Bool := (typing_sets_g n).1 l name
def typing_sets (l : List api_Stmt) (name : Str) : Option Bool := typing_sets_n 1000000 l name
def typing_sets_1_n (n : Nat) (c0 : Str) (s : api_Stmt) : Option Bool := (typing_sets_g n).2 c0 s
def typing_sets_1 (c0 : Str) (s : api_Stmt) : Option Bool := typing_sets_1_n 1000000 c0 s
def typing_loop (p : api_Program) (s : api_Stmt) : Option Bool :=
  (names_Var p s.Name).bind fun r_1 => if r_1 < 0 then (some false) else ((idx p.Vars r_1).bind fun x_2 => if x_2.Mode = 0 then (if x_2.Type_.Len = 0 then (if x_2.Type_.Kind = 2 then ((typing_are p s.Args [x_2.Type_.Kind, x_2.Type_.Kind]).bind fun r_3 => if r_3 = true then ((typing_sets s.Body s.Name).bind fun r_4 => some (!r_4)) else (some false)) else (if x_2.Type_.Kind = 3 then ((typing_are p s.Args [x_2.Type_.Kind, x_2.Type_.Kind]).bind fun r_5 => if r_5 = true then ((typing_sets s.Body s.Name).bind fun r_6 => some (!r_6)) else (some false)) else (some false))) else (some false)) else (some false))
def typing_one (p : api_Program) (s : api_Stmt) : Option Bool :=
  if s.Kind = 1 then ((names_Var p s.Target.Name).bind fun r_1 => (typing_kind p s.Target).bind fun r_2 => if 0 ≤ r_1 then (if 0 < r_2 then ((idx p.Vars r_1).bind fun x_3 => if x_3.Mode = 1 then (some false) else ((typing_kind p s.Value).bind fun r_4 => some (decide (r_4 = r_2)))) else (some false)) else (some false)) else (if s.Kind = 2 then ((typing_kind p s.Value).bind fun r_5 => some (decide (r_5 = 1))) else (if s.Kind = 3 then ((typing_kind p s.Value).bind fun r_6 => some (decide (r_6 = 1))) else (if s.Kind = 4 then ((typing_loop p s).bind fun r_7 => some r_7) else ((names_Block p s.Name).bind fun r_8 => if 0 ≤ r_8 then ((idx p.Blocks r_8).bind fun x_9 => (blocks_Inputs x_9.Kind).bind fun r_10 => (typing_are p s.Args r_10).bind fun r_11 => some r_11) else (some false)))))
def typing_Stmts_b (typing_Stmts_r : api_Program → (List api_Stmt) → Option Bool) (typing_Stmts_1_r : api_Program → api_Stmt → Option Bool) (p : api_Program) (l : List api_Stmt) : Option Bool :=
  (slices_ContainsFunc_api_Stmt_api_Stmt l (typing_Stmts_1_r p)).bind fun r_1 => some (!r_1)
def typing_Stmts_1_b (typing_Stmts_r : api_Program → (List api_Stmt) → Option Bool) (typing_Stmts_1_r : api_Program → api_Stmt → Option Bool) (c0 : api_Program) (s : api_Stmt) : Option Bool :=
  (typing_one c0 s).bind fun r_1 => if r_1 = true then ((typing_Stmts_r c0 s.Body).bind fun r_2 => if r_2 = true then ((typing_Stmts_r c0 s.Else).bind fun r_3 => some (!r_3)) else (some true)) else (some true)
def typing_Stmts_g : Nat → (api_Program → (List api_Stmt) → Option Bool) × (api_Program → api_Stmt → Option Bool)
  | 0 => (fun _ _ => none, fun _ _ => none)
  | n + 1 => (typing_Stmts_b (typing_Stmts_g n).1 (typing_Stmts_g n).2, typing_Stmts_1_b (typing_Stmts_g n).1 (typing_Stmts_g n).2)
def typing_Stmts_n (n : Nat) (p : api_Program) (l : List api_Stmt) : Option Bool := (typing_Stmts_g n).1 p l
def typing_Stmts (p : api_Program) (l : List api_Stmt) : Option Bool := typing_Stmts_n 1000000 p l
def typing_Stmts_1_n (n : Nat) (c0 : api_Program) (s : api_Stmt) : Option Bool := (typing_Stmts_g n).2 c0 s
def typing_Stmts_1 (c0 : api_Program) (s : api_Stmt) : Option Bool := typing_Stmts_1_n 1000000 c0 s
def typing_Check_3 (c0 : api_Program) (t : api_Task) : Option Bool :=
  (typing_Stmts c0 t.Body).bind fun r_1 => some (!r_1)
def typing_Check (p : api_Program) : Option Int :=
  (slices_ContainsFunc_api_Var_api_Var p.Vars typing_Check_1).bind fun r_1 => if r_1 = true then (some 6) else ((slices_ContainsFunc_api_Block_api_Block p.Blocks typing_Check_2).bind fun r_2 => if r_2 = true then (some 6) else ((slices_ContainsFunc_api_Task_api_Task p.Tasks (typing_Check_3 p)).bind fun r_3 => if r_3 = true then (some 6) else (some 0)))
def typing_Expr (p : api_Program) (e : api_Expr) : Option (Int × Bool) :=
  (typing_kind p e).bind fun r_1 => some (r_1, (!(decide (r_1 = 0))))
def lazarettoref03_Result (op : Int) (kind : Int) : Option Int :=
  (lazarettoref03_Bits kind).bind fun r_1 => if r_1 = 0 then (some 0) else (if op = 5 then (if kind = 1 then (some 0) else (some kind)) else (if 7 ≤ op then (if op ≤ 11 then (if kind = 1 then (some 0) else (some kind)) else (if op = 6 then (if kind = 4 then (some 0) else (some kind)) else (if 18 ≤ op then (if op ≤ 20 then (if kind = 4 then (some 0) else (some kind)) else (if op = 12 then (some 1) else (if op = 13 then (some 1) else (if 14 ≤ op then (if op ≤ 17 then (if kind = 1 then (some 0) else (some 1)) else (some 0)) else (some 0))))) else (if op = 12 then (some 1) else (if op = 13 then (some 1) else (if 14 ≤ op then (if op ≤ 17 then (if kind = 1 then (some 0) else (some 1)) else (some 0)) else (some 0))))))) else (if op = 6 then (if kind = 4 then (some 0) else (some kind)) else (if 18 ≤ op then (if op ≤ 20 then (if kind = 4 then (some 0) else (some kind)) else (if op = 12 then (some 1) else (if op = 13 then (some 1) else (if 14 ≤ op then (if op ≤ 17 then (if kind = 1 then (some 0) else (some 1)) else (some 0)) else (some 0))))) else (if op = 12 then (some 1) else (if op = 13 then (some 1) else (if 14 ≤ op then (if op ≤ 17 then (if kind = 1 then (some 0) else (some 1)) else (some 0)) else (some 0))))))))
def lazarettoref11_Outputs (kind : Str) : Option (List Int) :=
  if kind = ([84, 79, 78] : Str) then (some [1, 4]) else (if kind = ([84, 79, 70] : Str) then (some [1, 4]) else (if kind = ([84, 80] : Str) then (some [1, 4]) else (if kind = ([67, 84, 85] : Str) then (some [1, 2]) else (if kind = ([67, 84, 68] : Str) then (some [1, 2]) else (if kind = ([67, 84, 85, 68] : Str) then (some [1, 1, 2]) else (if kind = ([82, 95, 84, 82, 73, 71] : Str) then (some [1]) else (if kind = ([70, 95, 84, 82, 73, 71] : Str) then (some [1]) else (if kind = ([83, 82] : Str) then (some [1]) else (if kind = ([82, 83] : Str) then (some [1]) else (some []))))))))))
def lazarettoref12_Expr_b (lazarettoref12_Expr_r : api_Program → api_Expr → Option Int) (p : api_Program) (e : api_Expr) : Option Int :=
  if e.Op = 1 then (some e.Kind) else (if e.Op = 2 then ((lazarettoref10_Var p e.Name).bind fun r_1 => if r_1 < 0 then (some 0) else ((idx p.Vars r_1).bind fun x_2 => if ((decide (0 < x_2.Type_.Len)) == (decide (e.Op = 3))) = true then (if e.Op = 3 then none else (some x_2.Type_.Kind)) else (some 0))) else (if e.Op = 3 then ((lazarettoref10_Var p e.Name).bind fun r_3 => if r_3 < 0 then (some 0) else ((idx p.Vars r_3).bind fun x_4 => if 0 < x_4.Type_.Len then ((e.Args[0]?).bind fun x_5 => (lazarettoref12_Expr_r p x_5).bind fun r_6 => if r_6 = 2 then (some x_4.Type_.Kind) else (some 0)) else (some 0))) else (if e.Op = 4 then ((lazarettoref10_Block p e.Name).bind fun r_7 => if r_7 < 0 then (some 0) else ((idx p.Blocks r_7).bind fun x_8 => (lazarettoref11_Outputs x_8.Kind).bind fun r_9 => if e.N < 0 then (some 0) else (if (r_9.length : Int) ≤ e.N then (some 0) else ((idx r_9 e.N).bind fun x_10 => some x_10)))) else (if e.Op = 21 then ((lazarettoref10_Site p e.Name).bind fun r_11 => if r_11 < 0 then (some 0) else ((e.Args[0]?).bind fun x_12 => (lazarettoref12_Expr_r p x_12).bind fun r_13 => some r_13)) else ((e.Args[0]?).bind fun x_14 => (lazarettoref12_Expr_r p x_14).bind fun r_15 => if 1 < (e.Args.length : Int) then ((e.Args[1]?).bind fun x_16 => (lazarettoref12_Expr_r p x_16).bind fun r_17 => if r_17 = r_15 then ((lazarettoref03_Result e.Op r_15).bind fun r_18 => some r_18) else (some 0)) else ((lazarettoref03_Result e.Op r_15).bind fun r_19 => some r_19))))))
def lazarettoref12_Expr_g : Nat → (api_Program → api_Expr → Option Int)
  | 0 => fun _ _ => none
  | n + 1 => lazarettoref12_Expr_b (lazarettoref12_Expr_g n)
def lazarettoref12_Expr_n (n : Nat) (p : api_Program) (e : api_Expr) : Option Int := (lazarettoref12_Expr_g n) p e
def lazarettoref12_Expr (p : api_Program) (e : api_Expr) : Option Int := lazarettoref12_Expr_n 1000000 p e
def lazarettoref12_sets_L1 (lazarettoref12_sets_r : (List api_Stmt) → Str → Option Bool) (l : List api_Stmt) (name : Str) : Nat → Option ((Nat) ⊕ (Bool ⊕ Unit))
  | i_1 => if (i_1 : Int) < (l.length : Int) then ((l[i_1]?).bind fun x_4 => if x_4.Kind = 1 then (if x_4.Target.Name = name then (some (.inr (.inl (true)))) else (if x_4.Kind = 4 then none else ((lazarettoref12_sets_r x_4.Body name).bind fun r_5 => if r_5 = true then (some (.inr (.inl (true)))) else ((lazarettoref12_sets_r x_4.Else name).bind fun r_6 => if r_6 = true then (some (.inr (.inl (true)))) else (some (.inl (i_1 + 1))))))) else (if x_4.Kind = 4 then (if x_4.Name = name then (some (.inr (.inl (true)))) else ((lazarettoref12_sets_r x_4.Body name).bind fun r_7 => if r_7 = true then (some (.inr (.inl (true)))) else ((lazarettoref12_sets_r x_4.Else name).bind fun r_8 => if r_8 = true then (some (.inr (.inl (true)))) else (some (.inl (i_1 + 1)))))) else ((lazarettoref12_sets_r x_4.Body name).bind fun r_9 => if r_9 = true then (some (.inr (.inl (true)))) else ((lazarettoref12_sets_r x_4.Else name).bind fun r_10 => if r_10 = true then (some (.inr (.inl (true)))) else (some (.inl (i_1 + 1))))))) else (some (.inr (.inr (()))))
def lazarettoref12_sets_b (lazarettoref12_sets_r : (List api_Stmt) → Str → Option Bool) (l : List api_Stmt) (name : Str) : Option Bool :=
  (loop (lazarettoref12_sets_L1 lazarettoref12_sets_r l name) 0).bind (fun e__ => match e__ with | (.inl e_11) => some e_11 | (.inr ()) => some false)
def lazarettoref12_sets_g : Nat → ((List api_Stmt) → Str → Option Bool)
  | 0 => fun _ _ => none
  | n + 1 => lazarettoref12_sets_b (lazarettoref12_sets_g n)
def lazarettoref12_sets_n (n : Nat) (l : List api_Stmt) (name : Str) : Option Bool := (lazarettoref12_sets_g n) l name
def lazarettoref12_sets (l : List api_Stmt) (name : Str) : Option Bool := lazarettoref12_sets_n 1000000 l name
def lazarettoref12_loop (p : api_Program) (s : api_Stmt) : Option Bool :=
  (lazarettoref10_Var p s.Name).bind fun r_1 => if r_1 < 0 then (some false) else ((idx p.Vars r_1).bind fun x_2 => if x_2.Mode = 0 then (if x_2.Type_.Len = 0 then (if x_2.Type_.Kind = 2 then ((s.Args[0]?).bind fun x_3 => (lazarettoref12_Expr p x_3).bind fun r_4 => if r_4 = x_2.Type_.Kind then ((s.Args[1]?).bind fun x_5 => (lazarettoref12_Expr p x_5).bind fun r_6 => if r_6 = x_2.Type_.Kind then ((lazarettoref12_sets s.Body s.Name).bind fun r_7 => some (!r_7)) else (some false)) else (some false)) else (if x_2.Type_.Kind = 3 then ((s.Args[0]?).bind fun x_8 => (lazarettoref12_Expr p x_8).bind fun r_9 => if r_9 = x_2.Type_.Kind then ((s.Args[1]?).bind fun x_10 => (lazarettoref12_Expr p x_10).bind fun r_11 => if r_11 = x_2.Type_.Kind then ((lazarettoref12_sets s.Body s.Name).bind fun r_12 => some (!r_12)) else (some false)) else (some false)) else (some false))) else (some false)) else (some false))
def lazarettoref11_Inputs (kind : Str) : Option (List Int) :=
  if kind = ([84, 79, 78] : Str) then (some [1, 4]) else (if kind = ([84, 79, 70] : Str) then (some [1, 4]) else (if kind = ([84, 80] : Str) then (some [1, 4]) else (if kind = ([67, 84, 85] : Str) then (some [1, 1, 2]) else (if kind = ([67, 84, 68] : Str) then (some [1, 1, 2]) else (if kind = ([67, 84, 85, 68] : Str) then (some [1, 1, 1, 1, 2]) else (if kind = ([82, 95, 84, 82, 73, 71] : Str) then (some [1]) else (if kind = ([70, 95, 84, 82, 73, 71] : Str) then (some [1]) else (if kind = ([83, 82] : Str) then (some [1, 1]) else (if kind = ([82, 83] : Str) then (some [1, 1]) else (some []))))))))))
def lazarettoref12_call_L1 (p : api_Program) (s : api_Stmt) (r_3 : (List Int)) : Nat → Option ((Nat) ⊕ (Bool ⊕ Unit))
  | n_4 => if (n_4 : Int) < (r_3.length : Int) then ((s.Args[n_4]?).bind fun x_7 => (lazarettoref12_Expr p x_7).bind fun r_8 => (r_3[n_4]?).bind fun x_9 => if r_8 = x_9 then (some (.inl (n_4 + 1))) else (some (.inr (.inl (false))))) else (some (.inr (.inr (()))))
def lazarettoref12_call (p : api_Program) (s : api_Stmt) : Option Bool :=
  (lazarettoref10_Block p s.Name).bind fun r_1 => if r_1 < 0 then (some false) else ((idx p.Blocks r_1).bind fun x_2 => (lazarettoref11_Inputs x_2.Kind).bind fun r_3 => if (r_3.length : Int) = (s.Args.length : Int) then ((loop (lazarettoref12_call_L1 p s r_3) 0).bind (fun e__ => match e__ with | (.inl e_10) => some e_10 | (.inr ()) => some true)) else (some false))
def lazarettoref12_one (p : api_Program) (s : api_Stmt) : Option Bool :=
  if s.Kind = 1 then ((lazarettoref10_Var p s.Target.Name).bind fun r_1 => (lazarettoref12_Expr p s.Target).bind fun r_2 => if 0 ≤ r_1 then ((idx p.Vars r_1).bind fun x_3 => if x_3.Mode = 1 then (some false) else (if r_2 = 0 then (some false) else ((lazarettoref12_Expr p s.Value).bind fun r_4 => some (decide (r_2 = r_4))))) else (some false)) else (if s.Kind = 2 then ((lazarettoref12_Expr p s.Value).bind fun r_5 => some (decide (r_5 = 1))) else (if s.Kind = 3 then ((lazarettoref12_Expr p s.Value).bind fun r_6 => some (decide (r_6 = 1))) else (if s.Kind = 4 then ((lazarettoref12_loop p s).bind fun r_7 => some r_7) else ((lazarettoref12_call p s).bind fun r_8 => some r_8))))
def lazarettoref12_Stmts_L1 (lazarettoref12_Stmts_r : api_Program → (List api_Stmt) → Option Bool) (p : api_Program) (l : List api_Stmt) : Nat → Option ((Nat) ⊕ (Bool ⊕ Unit))
  | i_1 => if (i_1 : Int) < (l.length : Int) then ((l[i_1]?).bind fun x_4 => (lazarettoref12_one p x_4).bind fun r_5 => if r_5 = true then ((lazarettoref12_Stmts_r p x_4.Body).bind fun r_6 => if r_6 = true then ((lazarettoref12_Stmts_r p x_4.Else).bind fun r_7 => if r_7 = true then (some (.inl (i_1 + 1))) else (some (.inr (.inl (false))))) else (some (.inr (.inl (false))))) else (some (.inr (.inl (false))))) else (some (.inr (.inr (()))))
def lazarettoref12_Stmts_b (lazarettoref12_Stmts_r : api_Program → (List api_Stmt) → Option Bool) (p : api_Program) (l : List api_Stmt) : Option Bool :=
  (loop (lazarettoref12_Stmts_L1 lazarettoref12_Stmts_r p l) 0).bind (fun e__ => match e__ with | (.inl e_8) => some e_8 | (.inr ()) => some true)
def lazarettoref12_Stmts_g : Nat → (api_Program → (List api_Stmt) → Option Bool)
  | 0 => fun _ _ => none
  | n + 1 => lazarettoref12_Stmts_b (lazarettoref12_Stmts_g n)
def lazarettoref12_Stmts_n (n : Nat) (p : api_Program) (l : List api_Stmt) : Option Bool := (lazarettoref12_Stmts_g n) p l
def lazarettoref12_Stmts (p : api_Program) (l : List api_Stmt) : Option Bool := lazarettoref12_Stmts_n 1000000 p l
def lazarettoref12_Check_L3 (p : api_Program) : Nat → Option ((Nat) ⊕ (Int ⊕ Unit))
  | i_15 => if (i_15 : Int) < (p.Tasks.length : Int) then ((p.Tasks[i_15]?).bind fun x_18 => (lazarettoref12_Stmts p x_18.Body).bind fun r_19 => if r_19 = true then (some (.inl (i_15 + 1))) else (some (.inr (.inl (6))))) else (some (.inr (.inr (()))))
def lazarettoref12_Check_L2 (p : api_Program) : Nat → Option ((Nat) ⊕ (Int ⊕ Unit))
  | i_9 => if (i_9 : Int) < (p.Blocks.length : Int) then ((p.Blocks[i_9]?).bind fun x_12 => (lazarettoref11_Inputs x_12.Kind).bind fun r_13 => if (r_13.length : Int) = 0 then (some (.inr (.inl (6)))) else (some (.inl (i_9 + 1)))) else (some (.inr (.inr (()))))
def lazarettoref12_Check_L1 (p : api_Program) : Nat → Option ((Nat) ⊕ (Int ⊕ Unit))
  | i_1 => if (i_1 : Int) < (p.Vars.length : Int) then ((p.Vars[i_1]?).bind fun x_4 => (lazarettoref04_Check x_4.Type_).bind fun r_5 => if r_5 = 0 then (if x_4.Mode = 0 then ((lazarettoref03_Valid x_4.Type_.Kind x_4.Safe).bind fun r_6 => if r_6 = true then (some (.inl (i_1 + 1))) else (some (.inr (.inl (6))))) else (if x_4.Type_.Len = 0 then ((lazarettoref03_Valid x_4.Type_.Kind x_4.Safe).bind fun r_7 => if r_7 = true then (some (.inl (i_1 + 1))) else (some (.inr (.inl (6))))) else (some (.inr (.inl (6)))))) else (some (.inr (.inl (6))))) else (some (.inr (.inr (()))))
def lazarettoref12_Check (p : api_Program) : Option Int :=
  (loop (lazarettoref12_Check_L1 p) 0).bind (fun e__ => match e__ with | (.inl e_8) => some e_8 | (.inr ()) => (loop (lazarettoref12_Check_L2 p) 0).bind (fun e__ => match e__ with | (.inl e_14) => some e_14 | (.inr ()) => (loop (lazarettoref12_Check_L3 p) 0).bind (fun e__ => match e__ with | (.inl e_20) => some e_20 | (.inr ()) => some 0)))
end
theorem slices_ContainsFunc_api_Var_api_Var_ok {s : List api_Var} {f : (api_Var → Option Bool)} {r : Bool}
    {f_f : FuncId} {f_c : List C} (f_cl : Clo f_c) (f_ok : ∀ (x0 : api_Var) (r : Bool), f x0 = some r → Pu Tryz.prog f_f ([.agg (e_api_Var x0)] ++ f_c.map V.one) (.one (.bool r))) (h : slices_ContainsFunc_api_Var_api_Var s f = some r) :
    Pu Tryz.prog 21 [.one (.sl (s.map e_api_Var)), .one (.fn f_f f_c)] (.one (.bool r)) := by
  have F := trivial; have R := trivial
  refine pA Tryz.func21 ?_
  simp only [Tryz.f21]
  unfold slices_ContainsFunc_api_Var_api_Var at h
  have F := And.intro f_cl.all F
  refine bi h fun r_1 h hr_1 => ?_
  refine tt ?_
  repeat (first | (with_reducible intro _) | (with_reducible refine and_i ?_ ?_; exact ss))
  refine cS (slices_IndexFunc_api_Var_api_Var_ok (f_f := f_f) (f_c := f_c) f_cl f_ok hr_1) ?_
  cases h; exact fin
theorem ints_Bits_ok {kind : Int} {r : Int} (h : ints_Bits kind = some r) :
    Pu Tryz.prog 50 [.one (.int .i64 kind)] (.one (.int .i64 r)) := by
  have F := trivial; have R := trivial
  refine pA Tryz.func50 ?_
  simp only [Tryz.f50]
  unfold ints_Bits at h
  refine fi h F (fun h _ F => ?_) (fun h _ F => ?_)
  cases h; exact fin
  refine fi h F (fun h _ F => ?_) (fun h _ F => ?_)
  cases h; exact fin
  refine tt ?_
  refine fi h F (fun h _ F => ?_) (fun h _ F => ?_)
  cases h; exact fin
  refine fi h F (fun h _ F => ?_) (fun h _ F => ?_)
  cases h; exact fin
  cases h; exact fin
theorem cells_Check_ok {t : api_Type} {r : Int} (h : cells_Check t = some r) :
    Pu Tryz.prog 23 [.agg (e_api_Type t)] (.one (.int .i64 r)) := by
  have F := trivial; have R := trivial
  refine pA Tryz.func23 ?_
  simp only [Tryz.f23]
  unfold cells_Check at h
  refine fi h F (fun h _ F => ?_) (fun h _ F => ?_)
  refine bi h fun r_1 h hr_1 => ?_
  refine tt ?_
  repeat (first | (with_reducible intro _) | (with_reducible refine and_i ?_ ?_; exact ss))
  refine cS (ints_Bits_ok hr_1) ?_
  refine fi h F (fun h _ F => ?_) (fun h _ F => ?_)
  cases h; exact fin
  refine tt ?_
  refine fi h F (fun h _ F => ?_) (fun h _ F => ?_)
  cases h; exact fin
  refine fi h F (fun h _ F => ?_) (fun h _ F => ?_)
  cases h; exact fin
  refine tt ?_
  refine fi h F (fun h _ F => ?_) (fun h _ F => ?_)
  refine fi h F (fun h _ F => ?_) (fun h _ F => ?_)
  refine tt ?_
  refine fi h F (fun h _ F => ?_) (fun h _ F => ?_)
  cases h; exact fin
  cases h; exact fin
  cases h; exact fin
  cases h; exact fin
  refine bi h fun r_2 h hr_2 => ?_
  refine tt ?_
  repeat (first | (with_reducible intro _) | (with_reducible refine and_i ?_ ?_; exact ss))
  refine cS (ints_Bits_ok hr_2) ?_
  refine fi h F (fun h _ F => ?_) (fun h _ F => ?_)
  cases h; exact fin
  refine tt ?_
  refine fi h F (fun h _ F => ?_) (fun h _ F => ?_)
  cases h; exact fin
  refine fi h F (fun h _ F => ?_) (fun h _ F => ?_)
  cases h; exact fin
  cases h; exact fin
theorem ints_bit_ok {b : Bool} {r : Int} (h : ints_bit b = some r) :
    Pu Tryz.prog 81 [.one (.bool b)] (.one (.int .i64 r)) := by
  have F := trivial; have R := trivial
  refine pA Tryz.func81 ?_
  simp only [Tryz.f81]
  unfold ints_bit at h
  refine fv h F (fun h _ F => ?_) (fun h _ F => ?_)
  cases h; exact fin
  cases h; exact fin
theorem ints_Wrap_ok {kind : Int} {n : Int} {r : Int} (h : ints_Wrap kind n = some r) :
    Pu Tryz.prog 51 [.one (.int .i64 kind), .one (.int .i64 n)] (.one (.int .i64 r)) := by
  have F := trivial; have R := trivial
  cases h
  refine pA Tryz.func51 ?_
  simp only [Tryz.f51]
  refine tt ?_
  rcases kinds kind with rfl | rfl | rfl | rfl | ⟨h1, h2, h3, h4⟩
  · refine cS (ints_Bits_ok (show ints_Bits 1 = some 1 by simp [ints_Bits])) ?_
    refine tt ?_
    refine cS (ints_bit_ok (show ints_bit (!decide (n = 0)) = some (wrapS 1 n) by by_cases hn : n = 0 <;> simp [ints_bit, wrapS, hn])) ?_
    exact fin
  · refine cS (ints_Bits_ok (show ints_Bits 2 = some 16 by simp [ints_Bits])) ?_
    refine tt ?_
    iterate 6
      refine scope_S (by rfl) (by kernel_rfl) ?_
      refine tt ?_
    rw [wrap_2]
    simp only [show ∀ n : Int, IntKind.i64.wrap n = _ from w64_eq]
    rw [Int.fdiv_eq_ediv_of_nonneg _ (by decide)]
    simp only [V.one.injEq, C.int.injEq, true_and]
    omega
  · refine cS (ints_Bits_ok (show ints_Bits 3 = some 32 by simp [ints_Bits])) ?_
    refine tt ?_
    iterate 4
      refine scope_S (by rfl) (by kernel_rfl) ?_
      refine tt ?_
    rw [wrap_3]
    simp only [show ∀ n : Int, IntKind.i64.wrap n = _ from w64_eq]
    rw [Int.fdiv_eq_ediv_of_nonneg _ (by decide)]
    simp only [V.one.injEq, C.int.injEq, true_and]
    omega
  · refine cS (ints_Bits_ok (show ints_Bits 4 = some 32 by simp [ints_Bits])) ?_
    refine tt ?_
    iterate 4
      refine scope_S (by rfl) (by kernel_rfl) ?_
      refine tt ?_
    rw [wrap_4]
    simp only [show ∀ n : Int, IntKind.i64.wrap n = _ from w64_eq]
    rw [Int.fdiv_eq_ediv_of_nonneg _ (by decide)]
    simp only [V.one.injEq, C.int.injEq, true_and]
    omega
  · refine cS (ints_Bits_ok (show ints_Bits kind = some 0 by simp [ints_Bits, h1, h2, h3, h4])) ?_
    rw [wrap_o h1 h2 h3 h4]
    have F := And.intro (eq_false h1) F
    exact fin
theorem ints_Valid_ok {kind : Int} {n : Int} {r : Bool} (h : ints_Valid kind n = some r) :
    Pu Tryz.prog 24 [.one (.int .i64 kind), .one (.int .i64 n)] (.one (.bool r)) := by
  have F := trivial; have R := trivial
  refine pA Tryz.func24 ?_
  simp only [Tryz.f24]
  unfold ints_Valid at h
  refine bi h fun r_1 h hr_1 => ?_
  refine tt ?_
  repeat (first | (with_reducible intro _) | (with_reducible refine and_i ?_ ?_; exact ss))
  refine cS (ints_Bits_ok hr_1) ?_
  refine fi h F (fun h _ F => ?_) (fun h _ F => ?_)
  refine bi h fun r_2 h hr_2 => ?_
  refine tt ?_
  repeat (first | (with_reducible intro _) | (with_reducible refine and_i ?_ ?_; exact ss))
  refine cS (ints_Wrap_ok hr_2) ?_
  cases h; exact fin
  cases h; exact fin
theorem typing_Check_1_ok {v : api_Var} {r : Bool} (h : typing_Check_1 v = some r) :
    Pu Tryz.prog 22 [.agg (e_api_Var v)] (.one (.bool r)) := by
  have F := trivial; have R := trivial
  refine pA Tryz.func22 ?_
  simp only [Tryz.f22]
  unfold typing_Check_1 at h
  refine bi h fun r_1 h hr_1 => ?_
  refine tt ?_
  repeat (first | (with_reducible intro _) | (with_reducible refine and_i ?_ ?_; exact ss))
  refine cS (cells_Check_ok hr_1) ?_
  refine fi h F (fun h _ F => ?_) (fun h _ F => ?_)
  refine fi h F (fun h _ F => ?_) (fun h _ F => ?_)
  refine bi h fun r_2 h hr_2 => ?_
  refine tt ?_
  repeat (first | (with_reducible intro _) | (with_reducible refine and_i ?_ ?_; exact ss))
  refine cS (ints_Valid_ok hr_2) ?_
  cases h; exact fin
  refine tt ?_
  refine fi h F (fun h _ F => ?_) (fun h _ F => ?_)
  refine bi h fun r_3 h hr_3 => ?_
  refine tt ?_
  repeat (first | (with_reducible intro _) | (with_reducible refine and_i ?_ ?_; exact ss))
  refine cS (ints_Valid_ok hr_3) ?_
  cases h; exact fin
  cases h; exact fin
  cases h; exact fin
theorem slices_ContainsFunc_api_Block_api_Block_ok {s : List api_Block} {f : (api_Block → Option Bool)} {r : Bool}
    {f_f : FuncId} {f_c : List C} (f_cl : Clo f_c) (f_ok : ∀ (x0 : api_Block) (r : Bool), f x0 = some r → Pu Tryz.prog f_f ([.agg (e_api_Block x0)] ++ f_c.map V.one) (.one (.bool r))) (h : slices_ContainsFunc_api_Block_api_Block s f = some r) :
    Pu Tryz.prog 25 [.one (.sl (s.map e_api_Block)), .one (.fn f_f f_c)] (.one (.bool r)) := by
  have F := trivial; have R := trivial
  refine pA Tryz.func25 ?_
  simp only [Tryz.f25]
  unfold slices_ContainsFunc_api_Block_api_Block at h
  have F := And.intro f_cl.all F
  refine bi h fun r_1 h hr_1 => ?_
  refine tt ?_
  repeat (first | (with_reducible intro _) | (with_reducible refine and_i ?_ ?_; exact ss))
  refine cS (slices_IndexFunc_api_Block_api_Block_ok (f_f := f_f) (f_c := f_c) f_cl f_ok hr_1) ?_
  cases h; exact fin
theorem blocks_since_ok {now : Int} {from_ : Int} {most : Int} {r : Int} (h : blocks_since now from_ most = some r) :
    Pu Tryz.prog 116 [.one (.int .i64 now), .one (.int .i64 from_), .one (.int .i64 most)] (.one (.int .i64 r)) := by
  have F := trivial; have R := trivial
  refine pA Tryz.func116 ?_
  simp only [Tryz.f116]
  unfold blocks_since at h
  refine fi h F (fun h _ F => ?_) (fun h _ F => ?_)
  cases h; exact fin
  refine tt ?_
  refine fi h F (fun h _ F => ?_) (fun h _ F => ?_)
  cases h; exact fin
  refine tt ?_
  refine fi h F (fun h _ F => ?_) (fun h _ F => ?_)
  cases h; exact fin
  cases h; exact fin
theorem blocks_bit_ok {b : Bool} {r : Int} (h : blocks_bit b = some r) :
    Pu Tryz.prog 117 [.one (.bool b)] (.one (.int .i64 r)) := by
  have F := trivial; have R := trivial
  refine pA Tryz.func117 ?_
  simp only [Tryz.f117]
  unfold blocks_bit at h
  refine fv h F (fun h _ F => ?_) (fun h _ F => ?_)
  cases h; exact fin
  cases h; exact fin
theorem blocks_ton_ok {s : A4 Int} {in_ : List Int} {now : Int} {r : A4 Int} (h : blocks_ton s in_ now = some r) :
    Pu Tryz.prog 83 [.agg ((eA4 eI) s), .one (.sl (in_.map eI)), .one (.int .i64 now)] (.agg ((eA4 eI) r)) := by
  have F := trivial; have R := trivial
  refine pA Tryz.func83 ?_
  simp only [Tryz.f83]
  unfold blocks_ton at h
  refine bx h F fun x_1 h hx_1 F => ?_
  refine tt ?_
  repeat (first | (with_reducible intro _) | (with_reducible refine and_i ?_ ?_; exact ss))
  refine fi h F (fun h _ F => ?_) (fun h _ F => ?_)
  cases h; exact fin
  refine tt ?_
  repeat (first | (with_reducible intro _) | (with_reducible refine and_i ?_ ?_; exact ss))
  refine fi h F (fun h _ F => ?_) (fun h _ F => ?_)
  refine bx h F fun x_2 h hx_2 F => ?_
  refine bi h fun r_3 h hr_3 => ?_
  refine tt ?_
  repeat (first | (with_reducible intro _) | (with_reducible refine and_i ?_ ?_; exact ss))
  refine cD (blocks_since_ok hr_3) ?_
  refine bi h fun r_4 h hr_4 => ?_
  refine tt ?_
  repeat (first | (with_reducible intro _) | (with_reducible refine and_i ?_ ?_; exact ss))
  refine cD (blocks_bit_ok hr_4) ?_
  cases h; exact fin
  refine bx h F fun x_5 h hx_5 F => ?_
  refine bi h fun r_6 h hr_6 => ?_
  refine tt ?_
  repeat (first | (with_reducible intro _) | (with_reducible refine and_i ?_ ?_; exact ss))
  refine cD (blocks_since_ok hr_6) ?_
  refine bi h fun r_7 h hr_7 => ?_
  refine tt ?_
  repeat (first | (with_reducible intro _) | (with_reducible refine and_i ?_ ?_; exact ss))
  refine cD (blocks_bit_ok hr_7) ?_
  cases h; exact fin
theorem blocks_run_ok {s : A4 Int} {now : Int} {pt : Int} {r : A4 Int} (h : blocks_run s now pt = some r) :
    Pu Tryz.prog 118 [.agg ((eA4 eI) s), .one (.int .i64 now), .one (.int .i64 pt)] (.agg ((eA4 eI) r)) := by
  have F := trivial; have R := trivial
  refine pA Tryz.func118 ?_
  simp only [Tryz.f118]
  unfold blocks_run at h
  refine tt ?_
  repeat (first | (with_reducible intro _) | (with_reducible refine and_i ?_ ?_; exact ss))
  refine fi h F (fun h _ F => ?_) (fun h _ F => ?_)
  cases h; exact fin
  refine bi h fun r_1 h hr_1 => ?_
  refine tt ?_
  repeat (first | (with_reducible intro _) | (with_reducible refine and_i ?_ ?_; exact ss))
  refine cS (blocks_since_ok hr_1) ?_
  refine tt ?_
  repeat (first | (with_reducible intro _) | (with_reducible refine and_i ?_ ?_; exact ss))
  refine fi h F (fun h _ F => ?_) (fun h _ F => ?_)
  cases h; exact fin
  cases h; exact fin
theorem blocks_tof_ok {s : A4 Int} {in_ : List Int} {now : Int} {r : A4 Int} (h : blocks_tof s in_ now = some r) :
    Pu Tryz.prog 84 [.agg ((eA4 eI) s), .one (.sl (in_.map eI)), .one (.int .i64 now)] (.agg ((eA4 eI) r)) := by
  have F := trivial; have R := trivial
  refine pA Tryz.func84 ?_
  simp only [Tryz.f84]
  unfold blocks_tof at h
  refine bx h F fun x_1 h hx_1 F => ?_
  refine tt ?_
  repeat (first | (with_reducible intro _) | (with_reducible refine and_i ?_ ?_; exact ss))
  refine fi h F (fun h _ F => ?_) (fun h _ F => ?_)
  cases h; exact fin
  refine tt ?_
  repeat (first | (with_reducible intro _) | (with_reducible refine and_i ?_ ?_; exact ss))
  refine fi h F (fun h _ F => ?_) (fun h _ F => ?_)
  refine bx h F fun x_2 h hx_2 F => ?_
  refine bi h fun r_3 h hr_3 => ?_
  refine tt ?_
  repeat (first | (with_reducible intro _) | (with_reducible refine and_i ?_ ?_; exact ss))
  refine cD (blocks_run_ok hr_3) ?_
  cases h; exact fin
  refine bx h F fun x_4 h hx_4 F => ?_
  refine bi h fun r_5 h hr_5 => ?_
  refine tt ?_
  repeat (first | (with_reducible intro _) | (with_reducible refine and_i ?_ ?_; exact ss))
  refine cD (blocks_run_ok hr_5) ?_
  cases h; exact fin
theorem blocks_tp_ok {s : A4 Int} {in_ : List Int} {now : Int} {r : A4 Int} (h : blocks_tp s in_ now = some r) :
    Pu Tryz.prog 85 [.agg ((eA4 eI) s), .one (.sl (in_.map eI)), .one (.int .i64 now)] (.agg ((eA4 eI) r)) := by
  have F := trivial; have R := trivial
  refine pA Tryz.func85 ?_
  simp only [Tryz.f85]
  unfold blocks_tp at h
  refine bx h F fun x_1 h hx_1 F => ?_
  refine bi h fun r_2 h hr_2 => ?_
  refine tt ?_
  repeat (first | (with_reducible intro _) | (with_reducible refine and_i ?_ ?_; exact ss))
  refine cD (blocks_run_ok hr_2) ?_
  refine bx h F fun x_3 h hx_3 F => ?_
  refine tt ?_
  repeat (first | (with_reducible intro _) | (with_reducible refine and_i ?_ ?_; exact ss))
  refine fi h F (fun h _ F => ?_) (fun h _ F => ?_)
  refine tt ?_
  repeat (first | (with_reducible intro _) | (with_reducible refine and_i ?_ ?_; exact ss))
  refine fi h F (fun h _ F => ?_) (fun h _ F => ?_)
  refine tt ?_
  repeat (first | (with_reducible intro _) | (with_reducible refine and_i ?_ ?_; exact ss))
  refine fi h F (fun h _ F => ?_) (fun h _ F => ?_)
  refine bi h fun r_4 h hr_4 => ?_
  refine tt ?_
  repeat (first | (with_reducible intro _) | (with_reducible refine and_i ?_ ?_; exact ss))
  refine cS (blocks_bit_ok hr_4) ?_
  refine tt ?_
  repeat (first | (with_reducible intro _) | (with_reducible refine and_i ?_ ?_; exact ss))
  refine fi h F (fun h _ F => ?_) (fun h _ F => ?_)
  exact (by omega : False).elim
  cases h; exact fin
  refine tt ?_
  repeat (first | (with_reducible intro _) | (with_reducible refine and_i ?_ ?_; exact ss))
  refine fi h F (fun h _ F => ?_) (fun h _ F => ?_)
  exact (by omega : False).elim
  cases h; exact fin
  refine tt ?_
  repeat (first | (with_reducible intro _) | (with_reducible refine and_i ?_ ?_; exact ss))
  refine fi h F (fun h _ F => ?_) (fun h _ F => ?_)
  exact (by omega : False).elim
  cases h; exact fin
  refine tt ?_
  repeat (first | (with_reducible intro _) | (with_reducible refine and_i ?_ ?_; exact ss))
  refine fi h F (fun h _ F => ?_) (fun h _ F => ?_)
  refine tt ?_
  repeat (first | (with_reducible intro _) | (with_reducible refine and_i ?_ ?_; exact ss))
  refine fi h F (fun h _ F => ?_) (fun h _ F => ?_)
  cases h; exact fin
  cases h; exact fin
  cases h; exact fin
theorem blocks_up_ok {n : Int} {r : Int} (h : blocks_up n = some r) :
    Pu Tryz.prog 119 [.one (.int .i64 n)] (.one (.int .i64 r)) := by
  have F := trivial; have R := trivial
  refine pA Tryz.func119 ?_
  simp only [Tryz.f119]
  unfold blocks_up at h
  refine fi h F (fun h _ F => ?_) (fun h _ F => ?_)
  cases h; exact fin
  cases h; exact fin
theorem blocks_ctu_ok {s : A4 Int} {in_ : List Int} {p2 : Int} {r : A4 Int} (h : blocks_ctu s in_ p2 = some r) :
    Pu Tryz.prog 86 [.agg ((eA4 eI) s), .one (.sl (in_.map eI)), .one (.int .i64 p2)] (.agg ((eA4 eI) r)) := by
  have F := trivial; have R := trivial
  refine pA Tryz.func86 ?_
  simp only [Tryz.f86]
  unfold blocks_ctu at h
  refine bx h F fun x_1 h hx_1 F => ?_
  refine tt ?_
  repeat (first | (with_reducible intro _) | (with_reducible refine and_i ?_ ?_; exact ss))
  refine fi h F (fun h _ F => ?_) (fun h _ F => ?_)
  refine bx h F fun x_2 h hx_2 F => ?_
  refine bi h fun r_3 h hr_3 => ?_
  refine tt ?_
  repeat (first | (with_reducible intro _) | (with_reducible refine and_i ?_ ?_; exact ss))
  refine cD (blocks_bit_ok hr_3) ?_
  refine bx h F fun x_4 h hx_4 F => ?_
  cases h; exact fin
  refine bx h F fun x_5 h hx_5 F => ?_
  refine tt ?_
  repeat (first | (with_reducible intro _) | (with_reducible refine and_i ?_ ?_; exact ss))
  refine fi h F (fun h _ F => ?_) (fun h _ F => ?_)
  refine tt ?_
  repeat (first | (with_reducible intro _) | (with_reducible refine and_i ?_ ?_; exact ss))
  refine fi h F (fun h _ F => ?_) (fun h _ F => ?_)
  refine bi h fun r_6 h hr_6 => ?_
  refine tt ?_
  repeat (first | (with_reducible intro _) | (with_reducible refine and_i ?_ ?_; exact ss))
  refine cS (blocks_up_ok hr_6) ?_
  refine bx h F fun x_7 h hx_7 F => ?_
  refine bi h fun r_8 h hr_8 => ?_
  refine tt ?_
  repeat (first | (with_reducible intro _) | (with_reducible refine and_i ?_ ?_; exact ss))
  refine cD (blocks_bit_ok hr_8) ?_
  cases h; exact fin
  refine bx h F fun x_9 h hx_9 F => ?_
  refine bi h fun r_10 h hr_10 => ?_
  refine tt ?_
  repeat (first | (with_reducible intro _) | (with_reducible refine and_i ?_ ?_; exact ss))
  refine cD (blocks_bit_ok hr_10) ?_
  cases h; exact fin
  refine bx h F fun x_11 h hx_11 F => ?_
  refine bi h fun r_12 h hr_12 => ?_
  refine tt ?_
  repeat (first | (with_reducible intro _) | (with_reducible refine and_i ?_ ?_; exact ss))
  refine cD (blocks_bit_ok hr_12) ?_
  cases h; exact fin
theorem blocks_down_ok {n : Int} {r : Int} (h : blocks_down n = some r) :
    Pu Tryz.prog 120 [.one (.int .i64 n)] (.one (.int .i64 r)) := by
  have F := trivial; have R := trivial
  refine pA Tryz.func120 ?_
  simp only [Tryz.f120]
  unfold blocks_down at h
  refine fi h F (fun h _ F => ?_) (fun h _ F => ?_)
  cases h; exact fin
  cases h; exact fin
theorem blocks_ctd_ok {s : A4 Int} {in_ : List Int} {p2 : Int} {r : A4 Int} (h : blocks_ctd s in_ p2 = some r) :
    Pu Tryz.prog 87 [.agg ((eA4 eI) s), .one (.sl (in_.map eI)), .one (.int .i64 p2)] (.agg ((eA4 eI) r)) := by
  have F := trivial; have R := trivial
  refine pA Tryz.func87 ?_
  simp only [Tryz.f87]
  unfold blocks_ctd at h
  refine bx h F fun x_1 h hx_1 F => ?_
  refine tt ?_
  repeat (first | (with_reducible intro _) | (with_reducible refine and_i ?_ ?_; exact ss))
  refine fi h F (fun h _ F => ?_) (fun h _ F => ?_)
  refine bx h F fun x_2 h hx_2 F => ?_
  refine bi h fun r_3 h hr_3 => ?_
  refine tt ?_
  repeat (first | (with_reducible intro _) | (with_reducible refine and_i ?_ ?_; exact ss))
  refine cD (blocks_bit_ok hr_3) ?_
  refine bx h F fun x_4 h hx_4 F => ?_
  cases h; exact fin
  refine bx h F fun x_5 h hx_5 F => ?_
  refine tt ?_
  repeat (first | (with_reducible intro _) | (with_reducible refine and_i ?_ ?_; exact ss))
  refine fi h F (fun h _ F => ?_) (fun h _ F => ?_)
  refine tt ?_
  repeat (first | (with_reducible intro _) | (with_reducible refine and_i ?_ ?_; exact ss))
  refine fi h F (fun h _ F => ?_) (fun h _ F => ?_)
  refine bi h fun r_6 h hr_6 => ?_
  refine tt ?_
  repeat (first | (with_reducible intro _) | (with_reducible refine and_i ?_ ?_; exact ss))
  refine cS (blocks_down_ok hr_6) ?_
  refine bi h fun r_7 h hr_7 => ?_
  refine tt ?_
  repeat (first | (with_reducible intro _) | (with_reducible refine and_i ?_ ?_; exact ss))
  refine cD (blocks_bit_ok hr_7) ?_
  cases h; exact fin
  refine bi h fun r_8 h hr_8 => ?_
  refine tt ?_
  repeat (first | (with_reducible intro _) | (with_reducible refine and_i ?_ ?_; exact ss))
  refine cD (blocks_bit_ok hr_8) ?_
  cases h; exact fin
  refine bi h fun r_9 h hr_9 => ?_
  refine tt ?_
  repeat (first | (with_reducible intro _) | (with_reducible refine and_i ?_ ?_; exact ss))
  refine cD (blocks_bit_ok hr_9) ?_
  cases h; exact fin
theorem blocks_ctud_ok {s : A4 Int} {in_ : List Int} {p2 : Int} {r : A4 Int} (h : blocks_ctud s in_ p2 = some r) :
    Pu Tryz.prog 88 [.agg ((eA4 eI) s), .one (.sl (in_.map eI)), .one (.int .i64 p2)] (.agg ((eA4 eI) r)) := by
  have F := trivial; have R := trivial
  refine pA Tryz.func88 ?_
  simp only [Tryz.f88]
  unfold blocks_ctud at h
  refine bx h F fun x_1 h hx_1 F => ?_
  refine tt ?_
  repeat (first | (with_reducible intro _) | (with_reducible refine and_i ?_ ?_; exact ss))
  refine fi h F (fun h _ F => ?_) (fun h _ F => ?_)
  refine bx h F fun x_2 h hx_2 F => ?_
  refine tt ?_
  repeat (first | (with_reducible intro _) | (with_reducible refine and_i ?_ ?_; exact ss))
  refine fi h F (fun h _ F => ?_) (fun h _ F => ?_)
  refine bx h F fun x_3 h hx_3 F => ?_
  refine tt ?_
  repeat (first | (with_reducible intro _) | (with_reducible refine and_i ?_ ?_; exact ss))
  refine fi h F (fun h _ F => ?_) (fun h _ F => ?_)
  refine bx h F fun x_4 h hx_4 F => ?_
  cases h; exact fin
  refine bx h F fun x_5 h hx_5 F => ?_
  refine tt ?_
  repeat (first | (with_reducible intro _) | (with_reducible refine and_i ?_ ?_; exact ss))
  refine fi h F (fun h _ F => ?_) (fun h _ F => ?_)
  refine bx h F fun x_6 h hx_6 F => ?_
  cases h; exact fin
  refine fv h F (fun h _ F => ?_) (fun h _ F => ?_)
  refine bx h F fun x_7 h hx_7 F => ?_
  cases h; exact fin
  refine tt ?_
  refine fi h F (fun h _ F => ?_) (fun h _ F => ?_)
  refine bi h fun r_8 h hr_8 => ?_
  refine tt ?_
  repeat (first | (with_reducible intro _) | (with_reducible refine and_i ?_ ?_; exact ss))
  refine cS (blocks_up_ok hr_8) ?_
  refine bx h F fun x_9 h hx_9 F => ?_
  cases h; exact fin
  refine bi h fun r_10 h hr_10 => ?_
  refine tt ?_
  repeat (first | (with_reducible intro _) | (with_reducible refine and_i ?_ ?_; exact ss))
  refine cS (blocks_down_ok hr_10) ?_
  refine bx h F fun x_11 h hx_11 F => ?_
  cases h; exact fin
  refine bx h F fun x_12 h hx_12 F => ?_
  refine tt ?_
  repeat (first | (with_reducible intro _) | (with_reducible refine and_i ?_ ?_; exact ss))
  refine fi h F (fun h _ F => ?_) (fun h _ F => ?_)
  refine bx h F fun x_13 h hx_13 F => ?_
  cases h; exact fin
  refine bx h F fun x_14 h hx_14 F => ?_
  refine tt ?_
  repeat (first | (with_reducible intro _) | (with_reducible refine and_i ?_ ?_; exact ss))
  refine fi h F (fun h _ F => ?_) (fun h _ F => ?_)
  refine bx h F fun x_15 h hx_15 F => ?_
  cases h; exact fin
  refine fi h F (fun h _ F => ?_) (fun h _ F => ?_)
  refine bi h fun r_16 h hr_16 => ?_
  refine tt ?_
  repeat (first | (with_reducible intro _) | (with_reducible refine and_i ?_ ?_; exact ss))
  refine cS (blocks_up_ok hr_16) ?_
  refine bx h F fun x_17 h hx_17 F => ?_
  cases h; exact fin
  refine bx h F fun x_18 h hx_18 F => ?_
  cases h; exact fin
  refine bx h F fun x_19 h hx_19 F => ?_
  refine tt ?_
  repeat (first | (with_reducible intro _) | (with_reducible refine and_i ?_ ?_; exact ss))
  refine fi h F (fun h _ F => ?_) (fun h _ F => ?_)
  refine bx h F fun x_20 h hx_20 F => ?_
  refine tt ?_
  repeat (first | (with_reducible intro _) | (with_reducible refine and_i ?_ ?_; exact ss))
  refine fi h F (fun h _ F => ?_) (fun h _ F => ?_)
  refine bx h F fun x_21 h hx_21 F => ?_
  cases h; exact fin
  refine bx h F fun x_22 h hx_22 F => ?_
  refine tt ?_
  repeat (first | (with_reducible intro _) | (with_reducible refine and_i ?_ ?_; exact ss))
  refine fi h F (fun h _ F => ?_) (fun h _ F => ?_)
  refine bx h F fun x_23 h hx_23 F => ?_
  cases h; exact fin
  refine fi h F (fun h _ F => ?_) (fun h _ F => ?_)
  refine bi h fun r_24 h hr_24 => ?_
  refine tt ?_
  repeat (first | (with_reducible intro _) | (with_reducible refine and_i ?_ ?_; exact ss))
  refine cS (blocks_down_ok hr_24) ?_
  refine bx h F fun x_25 h hx_25 F => ?_
  cases h; exact fin
  refine bx h F fun x_26 h hx_26 F => ?_
  cases h; exact fin
  refine bx h F fun x_27 h hx_27 F => ?_
  refine tt ?_
  repeat (first | (with_reducible intro _) | (with_reducible refine and_i ?_ ?_; exact ss))
  refine fi h F (fun h _ F => ?_) (fun h _ F => ?_)
  refine bx h F fun x_28 h hx_28 F => ?_
  cases h; exact fin
  refine bx h F fun x_29 h hx_29 F => ?_
  refine tt ?_
  repeat (first | (with_reducible intro _) | (with_reducible refine and_i ?_ ?_; exact ss))
  refine fi h F (fun h _ F => ?_) (fun h _ F => ?_)
  refine bx h F fun x_30 h hx_30 F => ?_
  cases h; exact fin
  refine bx h F fun x_31 h hx_31 F => ?_
  cases h; exact fin
theorem blocks_rises_ok {s : A4 Int} {in_ : List Int} {p2 : Int} {r : A4 Int} (h : blocks_rises s in_ p2 = some r) :
    Pu Tryz.prog 89 [.agg ((eA4 eI) s), .one (.sl (in_.map eI)), .one (.int .i64 p2)] (.agg ((eA4 eI) r)) := by
  have F := trivial; have R := trivial
  refine pA Tryz.func89 ?_
  simp only [Tryz.f89]
  unfold blocks_rises at h
  refine bx h F fun x_1 h hx_1 F => ?_
  refine tt ?_
  repeat (first | (with_reducible intro _) | (with_reducible refine and_i ?_ ?_; exact ss))
  refine fi h F (fun h _ F => ?_) (fun h _ F => ?_)
  refine bi h fun r_2 h hr_2 => ?_
  refine tt ?_
  repeat (first | (with_reducible intro _) | (with_reducible refine and_i ?_ ?_; exact ss))
  refine cD (blocks_bit_ok hr_2) ?_
  refine tt ?_
  repeat (first | (with_reducible intro _) | refine ⟨sb, ?_⟩)
  refine ⟨lt_ [10, 11, 12], ?_⟩
  cases h; exact fin
  refine bi h fun r_3 h hr_3 => ?_
  refine tt ?_
  repeat (first | (with_reducible intro _) | (with_reducible refine and_i ?_ ?_; exact ss))
  refine cD (blocks_bit_ok hr_3) ?_
  refine tt ?_
  repeat (first | (with_reducible intro _) | refine ⟨sb, ?_⟩)
  refine ⟨lt_ [10, 11, 12], ?_⟩
  cases h; exact fin
theorem blocks_falls_ok {s : A4 Int} {in_ : List Int} {p2 : Int} {r : A4 Int} (h : blocks_falls s in_ p2 = some r) :
    Pu Tryz.prog 90 [.agg ((eA4 eI) s), .one (.sl (in_.map eI)), .one (.int .i64 p2)] (.agg ((eA4 eI) r)) := by
  have F := trivial; have R := trivial
  refine pA Tryz.func90 ?_
  simp only [Tryz.f90]
  unfold blocks_falls at h
  refine bx h F fun x_1 h hx_1 F => ?_
  refine tt ?_
  repeat (first | (with_reducible intro _) | (with_reducible refine and_i ?_ ?_; exact ss))
  refine fi h F (fun h _ F => ?_) (fun h _ F => ?_)
  refine bi h fun r_2 h hr_2 => ?_
  refine tt ?_
  repeat (first | (with_reducible intro _) | (with_reducible refine and_i ?_ ?_; exact ss))
  refine cD (blocks_bit_ok hr_2) ?_
  refine tt ?_
  repeat (first | (with_reducible intro _) | refine ⟨sb, ?_⟩)
  refine ⟨lt_ [10, 11, 12], ?_⟩
  cases h; exact fin
  refine bi h fun r_3 h hr_3 => ?_
  refine tt ?_
  repeat (first | (with_reducible intro _) | (with_reducible refine and_i ?_ ?_; exact ss))
  refine cD (blocks_bit_ok hr_3) ?_
  refine tt ?_
  repeat (first | (with_reducible intro _) | refine ⟨sb, ?_⟩)
  refine ⟨lt_ [10, 11, 12], ?_⟩
  cases h; exact fin
theorem blocks_sr_ok {s : A4 Int} {in_ : List Int} {p2 : Int} {r : A4 Int} (h : blocks_sr s in_ p2 = some r) :
    Pu Tryz.prog 91 [.agg ((eA4 eI) s), .one (.sl (in_.map eI)), .one (.int .i64 p2)] (.agg ((eA4 eI) r)) := by
  have F := trivial; have R := trivial
  refine pA Tryz.func91 ?_
  simp only [Tryz.f91]
  unfold blocks_sr at h
  refine bx h F fun x_1 h hx_1 F => ?_
  refine tt ?_
  repeat (first | (with_reducible intro _) | (with_reducible refine and_i ?_ ?_; exact ss))
  refine fi h F (fun h _ F => ?_) (fun h _ F => ?_)
  refine bi h fun r_2 h hr_2 => ?_
  refine tt ?_
  repeat (first | (with_reducible intro _) | (with_reducible refine and_i ?_ ?_; exact ss))
  refine cS (blocks_bit_ok hr_2) ?_
  cases h; exact fin
  refine tt ?_
  repeat (first | (with_reducible intro _) | (with_reducible refine and_i ?_ ?_; exact ss))
  refine fi h F (fun h _ F => ?_) (fun h _ F => ?_)
  refine bi h fun r_3 h hr_3 => ?_
  refine tt ?_
  repeat (first | (with_reducible intro _) | (with_reducible refine and_i ?_ ?_; exact ss))
  refine cS (blocks_bit_ok hr_3) ?_
  cases h; exact fin
  refine bx h F fun x_4 h hx_4 F => ?_
  refine bi h fun r_5 h hr_5 => ?_
  refine tt ?_
  repeat (first | (with_reducible intro _) | (with_reducible refine and_i ?_ ?_; exact ss))
  refine cS (blocks_bit_ok hr_5) ?_
  cases h; exact fin
theorem blocks_rs_ok {s : A4 Int} {in_ : List Int} {p2 : Int} {r : A4 Int} (h : blocks_rs s in_ p2 = some r) :
    Pu Tryz.prog 92 [.agg ((eA4 eI) s), .one (.sl (in_.map eI)), .one (.int .i64 p2)] (.agg ((eA4 eI) r)) := by
  have F := trivial; have R := trivial
  refine pA Tryz.func92 ?_
  simp only [Tryz.f92]
  unfold blocks_rs at h
  refine bx h F fun x_1 h hx_1 F => ?_
  refine tt ?_
  repeat (first | (with_reducible intro _) | (with_reducible refine and_i ?_ ?_; exact ss))
  refine fi h F (fun h _ F => ?_) (fun h _ F => ?_)
  refine bx h F fun x_2 h hx_2 F => ?_
  refine tt ?_
  repeat (first | (with_reducible intro _) | (with_reducible refine and_i ?_ ?_; exact ss))
  refine fi h F (fun h _ F => ?_) (fun h _ F => ?_)
  refine bi h fun r_3 h hr_3 => ?_
  refine tt ?_
  repeat (first | (with_reducible intro _) | (with_reducible refine and_i ?_ ?_; exact ss))
  refine cS (blocks_bit_ok hr_3) ?_
  cases h; exact fin
  refine bi h fun r_4 h hr_4 => ?_
  refine tt ?_
  repeat (first | (with_reducible intro _) | (with_reducible refine and_i ?_ ?_; exact ss))
  refine cS (blocks_bit_ok hr_4) ?_
  cases h; exact fin
  refine bi h fun r_5 h hr_5 => ?_
  refine tt ?_
  repeat (first | (with_reducible intro _) | (with_reducible refine and_i ?_ ?_; exact ss))
  refine cS (blocks_bit_ok hr_5) ?_
  cases h; exact fin
theorem blocks_of_ok {name : Str} {r : blocks_kind} (h : blocks_of name = some r) :
    Pu Tryz.prog 53 [.one (.str name)] (.agg (e_blocks_kind r)) := by
  have F := trivial; have R := trivial
  refine pA Tryz.func53 ?_
  simp only [Tryz.f53]
  unfold blocks_of at h
  refine tt ?_
  repeat (first | (with_reducible intro _) | (with_reducible refine and_i ?_ ?_; exact ss))
  refine fi h F (fun h _ F => ?_) (fun h _ F => ?_)
  refine tt ?_
  repeat (first | (with_reducible intro _) | (with_reducible refine and_i ?_ ?_; exact ss))
  refine iS Tryz.func82 ?_
  simp only [Tryz.f82]
  cases h; exact fin
  refine fi h F (fun h _ F => ?_) (fun h _ F => ?_)
  refine tt ?_
  repeat (first | (with_reducible intro _) | (with_reducible refine and_i ?_ ?_; exact ss))
  refine iS Tryz.func82 ?_
  simp only [Tryz.f82]
  cases h; exact fin
  refine fi h F (fun h _ F => ?_) (fun h _ F => ?_)
  refine tt ?_
  repeat (first | (with_reducible intro _) | (with_reducible refine and_i ?_ ?_; exact ss))
  refine iS Tryz.func82 ?_
  simp only [Tryz.f82]
  cases h; exact fin
  refine fi h F (fun h _ F => ?_) (fun h _ F => ?_)
  refine tt ?_
  repeat (first | (with_reducible intro _) | (with_reducible refine and_i ?_ ?_; exact ss))
  refine iS Tryz.func82 ?_
  simp only [Tryz.f82]
  cases h; exact fin
  refine tt ?_
  refine fi h F (fun h _ F => ?_) (fun h _ F => ?_)
  refine tt ?_
  repeat (first | (with_reducible intro _) | (with_reducible refine and_i ?_ ?_; exact ss))
  refine iS Tryz.func82 ?_
  simp only [Tryz.f82]
  cases h; exact fin
  refine fi h F (fun h _ F => ?_) (fun h _ F => ?_)
  cases h; exact fin
  refine fi h F (fun h _ F => ?_) (fun h _ F => ?_)
  refine tt ?_
  repeat (first | (with_reducible intro _) | (with_reducible refine and_i ?_ ?_; exact ss))
  refine iS Tryz.func82 ?_
  simp only [Tryz.f82]
  cases h; exact fin
  refine fi h F (fun h _ F => ?_) (fun h _ F => ?_)
  refine tt ?_
  repeat (first | (with_reducible intro _) | (with_reducible refine and_i ?_ ?_; exact ss))
  refine iS Tryz.func82 ?_
  simp only [Tryz.f82]
  cases h; exact fin
  refine tt ?_
  refine fi h F (fun h _ F => ?_) (fun h _ F => ?_)
  refine tt ?_
  repeat (first | (with_reducible intro _) | (with_reducible refine and_i ?_ ?_; exact ss))
  refine iS Tryz.func82 ?_
  simp only [Tryz.f82]
  cases h; exact fin
  refine fi h F (fun h _ F => ?_) (fun h _ F => ?_)
  refine tt ?_
  repeat (first | (with_reducible intro _) | (with_reducible refine and_i ?_ ?_; exact ss))
  refine iS Tryz.func82 ?_
  simp only [Tryz.f82]
  cases h; exact fin
  cases h; exact fin
theorem blocks_Inputs_ok {name : Str} {r : List Int} (h : blocks_Inputs name = some r) :
    Pu Tryz.prog 27 [.one (.str name)] (.one (.sl (r.map eI))) := by
  have F := trivial; have R := trivial
  refine pA Tryz.func27 ?_
  simp only [Tryz.f27]
  unfold blocks_Inputs at h
  refine tt ?_
  repeat (first | (with_reducible intro _) | (with_reducible refine and_i ?_ ?_; exact ss))
  refine iS Tryz.func53 ?_
  simp only [Tryz.f53]
  refine tt ?_
  repeat (first | (with_reducible intro _) | (with_reducible refine and_i ?_ ?_; exact ss))
  refine fi h F (fun h _ F => ?_) (fun h _ F => ?_)
  refine tt ?_
  repeat (first | (with_reducible intro _) | (with_reducible refine and_i ?_ ?_; exact ss))
  refine iS Tryz.func82 ?_
  simp only [Tryz.f82]
  cases h; exact fin
  refine fi h F (fun h _ F => ?_) (fun h _ F => ?_)
  refine tt ?_
  repeat (first | (with_reducible intro _) | (with_reducible refine and_i ?_ ?_; exact ss))
  refine iS Tryz.func82 ?_
  simp only [Tryz.f82]
  cases h; exact fin
  refine fi h F (fun h _ F => ?_) (fun h _ F => ?_)
  refine tt ?_
  repeat (first | (with_reducible intro _) | (with_reducible refine and_i ?_ ?_; exact ss))
  refine iS Tryz.func82 ?_
  simp only [Tryz.f82]
  cases h; exact fin
  refine fi h F (fun h _ F => ?_) (fun h _ F => ?_)
  refine tt ?_
  repeat (first | (with_reducible intro _) | (with_reducible refine and_i ?_ ?_; exact ss))
  refine iS Tryz.func82 ?_
  simp only [Tryz.f82]
  cases h; exact fin
  refine tt ?_
  refine fi h F (fun h _ F => ?_) (fun h _ F => ?_)
  refine tt ?_
  repeat (first | (with_reducible intro _) | (with_reducible refine and_i ?_ ?_; exact ss))
  refine iS Tryz.func82 ?_
  simp only [Tryz.f82]
  cases h; exact fin
  refine fi h F (fun h _ F => ?_) (fun h _ F => ?_)
  cases h; exact fin
  refine fi h F (fun h _ F => ?_) (fun h _ F => ?_)
  refine tt ?_
  repeat (first | (with_reducible intro _) | (with_reducible refine and_i ?_ ?_; exact ss))
  refine iS Tryz.func82 ?_
  simp only [Tryz.f82]
  cases h; exact fin
  refine fi h F (fun h _ F => ?_) (fun h _ F => ?_)
  refine tt ?_
  repeat (first | (with_reducible intro _) | (with_reducible refine and_i ?_ ?_; exact ss))
  refine iS Tryz.func82 ?_
  simp only [Tryz.f82]
  cases h; exact fin
  refine tt ?_
  refine fi h F (fun h _ F => ?_) (fun h _ F => ?_)
  refine tt ?_
  repeat (first | (with_reducible intro _) | (with_reducible refine and_i ?_ ?_; exact ss))
  refine iS Tryz.func82 ?_
  simp only [Tryz.f82]
  cases h; exact fin
  refine fi h F (fun h _ F => ?_) (fun h _ F => ?_)
  refine tt ?_
  repeat (first | (with_reducible intro _) | (with_reducible refine and_i ?_ ?_; exact ss))
  refine iS Tryz.func82 ?_
  simp only [Tryz.f82]
  cases h; exact fin
  cases h; exact fin
theorem typing_Check_2_ok {b : api_Block} {r : Bool} (h : typing_Check_2 b = some r) :
    Pu Tryz.prog 26 [.agg (e_api_Block b)] (.one (.bool r)) := by
  have F := trivial; have R := trivial
  refine pA Tryz.func26 ?_
  simp only [Tryz.f26]
  unfold typing_Check_2 at h
  refine bi h fun r_1 h hr_1 => ?_
  refine tt ?_
  repeat (first | (with_reducible intro _) | (with_reducible refine and_i ?_ ?_; exact ss))
  refine cS (blocks_Inputs_ok hr_1) ?_
  cases h; exact fin
theorem slices_IndexFunc_api_Task_api_Task_ok {s : List api_Task} {f : (api_Task → Option Bool)} {r : Int}
    {f_f : FuncId} {f_c : List C} (f_cl : Clo f_c) (f_ok : ∀ (x0 : api_Task) (r : Bool), f x0 = some r → Pu Tryz.prog f_f ([.agg (e_api_Task x0)] ++ f_c.map V.one) (.one (.bool r))) (h : slices_IndexFunc_api_Task_api_Task s f = some r) :
    Pu Tryz.prog 54 [.one (.sl (s.map e_api_Task)), .one (.fn f_f f_c)] (.one (.int .i64 r)) := by
  have F := trivial; have R := trivial
  refine pA Tryz.func54 ?_
  simp only [Tryz.f54]
  unfold slices_IndexFunc_api_Task_api_Task at h
  have F := And.intro f_cl.all F
  refine bi h fun e_2 h he_2 => ?_
  refine tt ?_
  repeat (first | (with_reducible intro _) | (with_reducible refine and_i ?_ ?_; exact ss))
  refine lE (fun (s__ : Nat) (a__ : Unit) => match s__, a__ with | x_1, _ => ⟨[(0, .one (.sl (s.map e_api_Task))), (1, .one (.fn f_f f_c)), (7, .one (.int .i64 (s.length : Int))), (8, .one (.int .i64 (x_1 : Int)))], []⟩) (fun (e__ : Int ⊕ Unit) (b__ : Unit) => match e__, b__ with | (.inl e_6), _ => ⟨[], []⟩ | (.inr ()), _ => ⟨[], []⟩) (fun (e__ : Int ⊕ Unit) => match e__ with | (.inl _) => none | (.inr _) => some 0) () he_2 ?_ ?_
  intro i3 b3 hi3
  rcases e_2 with e_case | ⟨⟩
  cases hi3
  obtain rfl := Option.some.inj hi3
  obtain ⟨⟩ := b3
  dsimp only at h ⊢
  cases h; exact fin
  intro af3 m3 x_1 a3 o3 hf3 ho3 ih3
  obtain ⟨⟩ := a3
  dsimp only [slices_IndexFunc_api_Task_api_Task_L1] at hf3 ⊢
  refine fl hf3 F (fun hf3 _ F => ?_) (fun hf3 _ F => ?_)
  refine bx hf3 F fun x_4 hf3 hx_4 F => ?_
  refine bi hf3 fun r_5 hf3 hr_5 => ?_
  refine tt ?_
  repeat (first | (with_reducible intro _) | (with_reducible refine and_i ?_ ?_; exact ss))
  refine cS (f_ok _ _ hr_5) ?_
  refine fv hf3 F (fun hf3 _ F => ?_) (fun hf3 _ F => ?_)
  cases hf3
  obtain rfl := sr ho3
  try dsimp only at h
  cases h
  exact fin
  cases hf3
  refine tt ?_
  refine wn x_1 F fun F => ?_
  exact bk ih3 ho3 ()
  cases hf3
  refine tt ?_
  exact xt ho3 af3 ()
theorem slices_ContainsFunc_api_Task_api_Task_ok {s : List api_Task} {f : (api_Task → Option Bool)} {r : Bool}
    {f_f : FuncId} {f_c : List C} (f_cl : Clo f_c) (f_ok : ∀ (x0 : api_Task) (r : Bool), f x0 = some r → Pu Tryz.prog f_f ([.agg (e_api_Task x0)] ++ f_c.map V.one) (.one (.bool r))) (h : slices_ContainsFunc_api_Task_api_Task s f = some r) :
    Pu Tryz.prog 28 [.one (.sl (s.map e_api_Task)), .one (.fn f_f f_c)] (.one (.bool r)) := by
  have F := trivial; have R := trivial
  refine pA Tryz.func28 ?_
  simp only [Tryz.f28]
  unfold slices_ContainsFunc_api_Task_api_Task at h
  have F := And.intro f_cl.all F
  refine bi h fun r_1 h hr_1 => ?_
  refine tt ?_
  repeat (first | (with_reducible intro _) | (with_reducible refine and_i ?_ ?_; exact ss))
  refine cS (slices_IndexFunc_api_Task_api_Task_ok (f_f := f_f) (f_c := f_c) f_cl f_ok hr_1) ?_
  cases h; exact fin
theorem slices_IndexFunc_api_Stmt_api_Stmt_ok {s : List api_Stmt} {f : (api_Stmt → Option Bool)} {r : Int}
    {f_f : FuncId} {f_c : List C} (f_cl : Clo f_c) (f_ok : ∀ (x0 : api_Stmt) (r : Bool), f x0 = some r → Pu Tryz.prog f_f ([.agg (e_api_Stmt x0)] ++ f_c.map V.one) (.one (.bool r))) (h : slices_IndexFunc_api_Stmt_api_Stmt s f = some r) :
    Pu Tryz.prog 56 [.one (.sl (s.map e_api_Stmt)), .one (.fn f_f f_c)] (.one (.int .i64 r)) := by
  have F := trivial; have R := trivial
  refine pA Tryz.func56 ?_
  simp only [Tryz.f56]
  unfold slices_IndexFunc_api_Stmt_api_Stmt at h
  have F := And.intro f_cl.all F
  refine bi h fun e_2 h he_2 => ?_
  refine tt ?_
  repeat (first | (with_reducible intro _) | (with_reducible refine and_i ?_ ?_; exact ss))
  refine lE (fun (s__ : Nat) (a__ : Unit) => match s__, a__ with | x_1, _ => ⟨[(0, .one (.sl (s.map e_api_Stmt))), (1, .one (.fn f_f f_c)), (7, .one (.int .i64 (s.length : Int))), (8, .one (.int .i64 (x_1 : Int)))], []⟩) (fun (e__ : Int ⊕ Unit) (b__ : Unit) => match e__, b__ with | (.inl e_6), _ => ⟨[], []⟩ | (.inr ()), _ => ⟨[], []⟩) (fun (e__ : Int ⊕ Unit) => match e__ with | (.inl _) => none | (.inr _) => some 0) () he_2 ?_ ?_
  intro i3 b3 hi3
  rcases e_2 with e_case | ⟨⟩
  cases hi3
  obtain rfl := Option.some.inj hi3
  obtain ⟨⟩ := b3
  dsimp only at h ⊢
  cases h; exact fin
  intro af3 m3 x_1 a3 o3 hf3 ho3 ih3
  obtain ⟨⟩ := a3
  dsimp only [slices_IndexFunc_api_Stmt_api_Stmt_L1] at hf3 ⊢
  refine fl hf3 F (fun hf3 _ F => ?_) (fun hf3 _ F => ?_)
  refine bx hf3 F fun x_4 hf3 hx_4 F => ?_
  refine bi hf3 fun r_5 hf3 hr_5 => ?_
  refine tt ?_
  repeat (first | (with_reducible intro _) | (with_reducible refine and_i ?_ ?_; exact ss))
  refine cS (f_ok _ _ hr_5) ?_
  refine fv hf3 F (fun hf3 _ F => ?_) (fun hf3 _ F => ?_)
  cases hf3
  obtain rfl := sr ho3
  try dsimp only at h
  cases h
  exact fin
  cases hf3
  refine tt ?_
  refine wn x_1 F fun F => ?_
  exact bk ih3 ho3 ()
  cases hf3
  refine tt ?_
  exact xt ho3 af3 ()
theorem slices_ContainsFunc_api_Stmt_api_Stmt_ok {s : List api_Stmt} {f : (api_Stmt → Option Bool)} {r : Bool}
    {f_f : FuncId} {f_c : List C} (f_cl : Clo f_c) (f_ok : ∀ (x0 : api_Stmt) (r : Bool), f x0 = some r → Pu Tryz.prog f_f ([.agg (e_api_Stmt x0)] ++ f_c.map V.one) (.one (.bool r))) (h : slices_ContainsFunc_api_Stmt_api_Stmt s f = some r) :
    Pu Tryz.prog 33 [.one (.sl (s.map e_api_Stmt)), .one (.fn f_f f_c)] (.one (.bool r)) := by
  have F := trivial; have R := trivial
  refine pA Tryz.func33 ?_
  simp only [Tryz.f33]
  unfold slices_ContainsFunc_api_Stmt_api_Stmt at h
  have F := And.intro f_cl.all F
  refine bi h fun r_1 h hr_1 => ?_
  refine tt ?_
  repeat (first | (with_reducible intro _) | (with_reducible refine and_i ?_ ?_; exact ss))
  refine cS (slices_IndexFunc_api_Stmt_api_Stmt_ok (f_f := f_f) (f_c := f_c) f_cl f_ok hr_1) ?_
  cases h; exact fin
theorem blocks_Outputs_ok {name : Str} {r : List Int} (h : blocks_Outputs name = some r) :
    Pu Tryz.prog 66 [.one (.str name)] (.one (.sl (r.map eI))) := by
  have F := trivial; have R := trivial
  refine pA Tryz.func66 ?_
  simp only [Tryz.f66]
  unfold blocks_Outputs at h
  refine tt ?_
  repeat (first | (with_reducible intro _) | (with_reducible refine and_i ?_ ?_; exact ss))
  refine iS Tryz.func53 ?_
  simp only [Tryz.f53]
  refine tt ?_
  repeat (first | (with_reducible intro _) | (with_reducible refine and_i ?_ ?_; exact ss))
  refine fi h F (fun h _ F => ?_) (fun h _ F => ?_)
  refine tt ?_
  repeat (first | (with_reducible intro _) | (with_reducible refine and_i ?_ ?_; exact ss))
  refine iS Tryz.func82 ?_
  simp only [Tryz.f82]
  cases h; exact fin
  refine fi h F (fun h _ F => ?_) (fun h _ F => ?_)
  refine tt ?_
  repeat (first | (with_reducible intro _) | (with_reducible refine and_i ?_ ?_; exact ss))
  refine iS Tryz.func82 ?_
  simp only [Tryz.f82]
  cases h; exact fin
  refine fi h F (fun h _ F => ?_) (fun h _ F => ?_)
  refine tt ?_
  repeat (first | (with_reducible intro _) | (with_reducible refine and_i ?_ ?_; exact ss))
  refine iS Tryz.func82 ?_
  simp only [Tryz.f82]
  cases h; exact fin
  refine fi h F (fun h _ F => ?_) (fun h _ F => ?_)
  refine tt ?_
  repeat (first | (with_reducible intro _) | (with_reducible refine and_i ?_ ?_; exact ss))
  refine iS Tryz.func82 ?_
  simp only [Tryz.f82]
  cases h; exact fin
  refine tt ?_
  refine fi h F (fun h _ F => ?_) (fun h _ F => ?_)
  refine tt ?_
  repeat (first | (with_reducible intro _) | (with_reducible refine and_i ?_ ?_; exact ss))
  refine iS Tryz.func82 ?_
  simp only [Tryz.f82]
  cases h; exact fin
  refine fi h F (fun h _ F => ?_) (fun h _ F => ?_)
  cases h; exact fin
  refine fi h F (fun h _ F => ?_) (fun h _ F => ?_)
  refine tt ?_
  repeat (first | (with_reducible intro _) | (with_reducible refine and_i ?_ ?_; exact ss))
  refine iS Tryz.func82 ?_
  simp only [Tryz.f82]
  cases h; exact fin
  refine fi h F (fun h _ F => ?_) (fun h _ F => ?_)
  refine tt ?_
  repeat (first | (with_reducible intro _) | (with_reducible refine and_i ?_ ?_; exact ss))
  refine iS Tryz.func82 ?_
  simp only [Tryz.f82]
  cases h; exact fin
  refine tt ?_
  refine fi h F (fun h _ F => ?_) (fun h _ F => ?_)
  refine tt ?_
  repeat (first | (with_reducible intro _) | (with_reducible refine and_i ?_ ?_; exact ss))
  refine iS Tryz.func82 ?_
  simp only [Tryz.f82]
  cases h; exact fin
  refine fi h F (fun h _ F => ?_) (fun h _ F => ?_)
  refine tt ?_
  repeat (first | (with_reducible intro _) | (with_reducible refine and_i ?_ ?_; exact ss))
  refine iS Tryz.func82 ?_
  simp only [Tryz.f82]
  cases h; exact fin
  cases h; exact fin
theorem slices_IndexFunc_int_int_ok {s : List Int} {f : (Int → Option Bool)} {r : Int}
    {f_f : FuncId} {f_c : List C} (f_cl : Clo f_c) (f_ok : ∀ (x0 : Int) (r : Bool), f x0 = some r → Pu Tryz.prog f_f ([.one (.int .i64 x0)] ++ f_c.map V.one) (.one (.bool r))) (h : slices_IndexFunc_int_int s f = some r) :
    Pu Tryz.prog 107 [.one (.sl (s.map eI)), .one (.fn f_f f_c)] (.one (.int .i64 r)) := by
  have F := trivial; have R := trivial
  refine pA Tryz.func107 ?_
  simp only [Tryz.f107]
  unfold slices_IndexFunc_int_int at h
  have F := And.intro f_cl.all F
  refine bi h fun e_2 h he_2 => ?_
  refine tt ?_
  repeat (first | (with_reducible intro _) | (with_reducible refine and_i ?_ ?_; exact ss))
  refine lE (fun (s__ : Nat) (a__ : Unit) => match s__, a__ with | x_1, _ => ⟨[(0, .one (.sl (s.map eI))), (1, .one (.fn f_f f_c)), (7, .one (.int .i64 (s.length : Int))), (8, .one (.int .i64 (x_1 : Int)))], []⟩) (fun (e__ : Int ⊕ Unit) (b__ : Unit) => match e__, b__ with | (.inl e_6), _ => ⟨[], []⟩ | (.inr ()), _ => ⟨[], []⟩) (fun (e__ : Int ⊕ Unit) => match e__ with | (.inl _) => none | (.inr _) => some 0) () he_2 ?_ ?_
  intro i3 b3 hi3
  rcases e_2 with e_case | ⟨⟩
  cases hi3
  obtain rfl := Option.some.inj hi3
  obtain ⟨⟩ := b3
  dsimp only at h ⊢
  cases h; exact fin
  intro af3 m3 x_1 a3 o3 hf3 ho3 ih3
  obtain ⟨⟩ := a3
  dsimp only [slices_IndexFunc_int_int_L1] at hf3 ⊢
  refine fl hf3 F (fun hf3 _ F => ?_) (fun hf3 _ F => ?_)
  refine bx hf3 F fun x_4 hf3 hx_4 F => ?_
  refine bi hf3 fun r_5 hf3 hr_5 => ?_
  refine tt ?_
  repeat (first | (with_reducible intro _) | (with_reducible refine and_i ?_ ?_; exact ss))
  refine cS (f_ok _ _ hr_5) ?_
  refine fv hf3 F (fun hf3 _ F => ?_) (fun hf3 _ F => ?_)
  cases hf3
  obtain rfl := sr ho3
  try dsimp only at h
  cases h
  exact fin
  cases hf3
  refine tt ?_
  refine wn x_1 F fun F => ?_
  exact bk ih3 ho3 ()
  cases hf3
  refine tt ?_
  exact xt ho3 af3 ()
theorem slices_ContainsFunc_int_int_ok {s : List Int} {f : (Int → Option Bool)} {r : Bool}
    {f_f : FuncId} {f_c : List C} (f_cl : Clo f_c) (f_ok : ∀ (x0 : Int) (r : Bool), f x0 = some r → Pu Tryz.prog f_f ([.one (.int .i64 x0)] ++ f_c.map V.one) (.one (.bool r))) (h : slices_ContainsFunc_int_int s f = some r) :
    Pu Tryz.prog 67 [.one (.sl (s.map eI)), .one (.fn f_f f_c)] (.one (.bool r)) := by
  have F := trivial; have R := trivial
  refine pA Tryz.func67 ?_
  simp only [Tryz.f67]
  unfold slices_ContainsFunc_int_int at h
  have F := And.intro f_cl.all F
  refine bi h fun r_1 h hr_1 => ?_
  refine tt ?_
  repeat (first | (with_reducible intro _) | (with_reducible refine and_i ?_ ?_; exact ss))
  refine cS (slices_IndexFunc_int_int_ok (f_f := f_f) (f_c := f_c) f_cl f_ok hr_1) ?_
  cases h; exact fin
theorem typing_kind_1_ok {c0 : List Int} {k : Int} {r : Bool} (h : typing_kind_1 c0 k = some r) :
    Pu Tryz.prog 68 [.one (.int .i64 k), .one (.iptr ((eL eI) c0) 0)] (.one (.bool r)) := by
  have F := trivial; have R := trivial
  refine pA Tryz.func68 ?_
  simp only [Tryz.f68]
  unfold typing_kind_1 at h
  refine bx h F fun x_1 h hx_1 F => ?_
  cases h; exact fin
theorem ints_Result_ok {op : Int} {kind : Int} {r : Int} (h : ints_Result op kind = some r) :
    Pu Tryz.prog 69 [.one (.int .i64 op), .one (.int .i64 kind)] (.one (.int .i64 r)) := by
  have F := trivial; have R := trivial
  refine pA Tryz.func69 ?_
  simp only [Tryz.f69]
  unfold ints_Result at h
  refine bi h fun r_1 h hr_1 => ?_
  refine tt ?_
  repeat (first | (with_reducible intro _) | (with_reducible refine and_i ?_ ?_; exact ss))
  refine cS (ints_Bits_ok hr_1) ?_
  refine fi h F (fun h _ F => ?_) (fun h _ F => ?_)
  cases h; exact fin
  refine tt ?_
  refine fi h F (fun h _ F => ?_) (fun h _ F => ?_)
  refine fi h F (fun h _ F => ?_) (fun h _ F => ?_)
  cases h; exact fin
  cases h; exact fin
  refine fi h F (fun h _ F => ?_) (fun h _ F => ?_)
  refine fi h F (fun h _ F => ?_) (fun h _ F => ?_)
  cases h; exact fin
  cases h; exact fin
  refine fi h F (fun h _ F => ?_) (fun h _ F => ?_)
  refine fi h F (fun h _ F => ?_) (fun h _ F => ?_)
  cases h; exact fin
  cases h; exact fin
  refine fi h F (fun h _ F => ?_) (fun h _ F => ?_)
  refine tt ?_
  refine fi h F (fun h _ F => ?_) (fun h _ F => ?_)
  cases h; exact fin
  cases h; exact fin
  refine tt ?_
  refine fi h F (fun h _ F => ?_) (fun h _ F => ?_)
  refine fi h F (fun h _ F => ?_) (fun h _ F => ?_)
  cases h; exact fin
  cases h; exact fin
  refine fi h F (fun h _ F => ?_) (fun h _ F => ?_)
  refine fi h F (fun h _ F => ?_) (fun h _ F => ?_)
  cases h; exact fin
  cases h; exact fin
  refine fi h F (fun h _ F => ?_) (fun h _ F => ?_)
  refine fi h F (fun h _ F => ?_) (fun h _ F => ?_)
  cases h; exact fin
  cases h; exact fin
  refine fi h F (fun h _ F => ?_) (fun h _ F => ?_)
  refine tt ?_
  refine fi h F (fun h _ F => ?_) (fun h _ F => ?_)
  cases h; exact fin
  cases h; exact fin
  refine tt ?_
  refine fi h F (fun h _ F => ?_) (fun h _ F => ?_)
  refine fi h F (fun h _ F => ?_) (fun h _ F => ?_)
  cases h; exact fin
  cases h; exact fin
  refine fi h F (fun h _ F => ?_) (fun h _ F => ?_)
  refine fi h F (fun h _ F => ?_) (fun h _ F => ?_)
  cases h; exact fin
  cases h; exact fin
  refine fi h F (fun h _ F => ?_) (fun h _ F => ?_)
  cases h; exact fin
  refine fi h F (fun h _ F => ?_) (fun h _ F => ?_)
  cases h; exact fin
  refine tt ?_
  refine fi h F (fun h _ F => ?_) (fun h _ F => ?_)
  refine fi h F (fun h _ F => ?_) (fun h _ F => ?_)
  cases h; exact fin
  cases h; exact fin
  refine fi h F (fun h _ F => ?_) (fun h _ F => ?_)
  refine fi h F (fun h _ F => ?_) (fun h _ F => ?_)
  cases h; exact fin
  cases h; exact fin
  refine fi h F (fun h _ F => ?_) (fun h _ F => ?_)
  refine fi h F (fun h _ F => ?_) (fun h _ F => ?_)
  cases h; exact fin
  cases h; exact fin
  refine fi h F (fun h _ F => ?_) (fun h _ F => ?_)
  refine tt ?_
  refine fi h F (fun h _ F => ?_) (fun h _ F => ?_)
  cases h; exact fin
  cases h; exact fin
  cases h; exact fin
theorem typing_kind_b_ok {typing_kind_r : api_Program → api_Expr → Option Int} {p : api_Program} {e : api_Expr} {r : Int}
    (typing_kind_r_ok : ∀ (x0 : api_Program) (x1 : api_Expr) (r : Int), typing_kind_r x0 x1 = some r → Pu Tryz.prog 38 [.agg (e_api_Program x0), .agg (e_api_Expr x1)] (.one (.int .i64 r))) (h : typing_kind_b typing_kind_r p e = some r) :
    Pu Tryz.prog 38 [.agg (e_api_Program p), .agg (e_api_Expr e)] (.one (.int .i64 r)) := by
  have F := trivial; have R := trivial
  refine pA Tryz.func38 ?_
  simp only [Tryz.f38]
  unfold typing_kind_b at h
  refine nd h F fun h F => ?_
  have R := And.intro (show List.replicate e.Args.length [.int .i64 0] = List.map eI (List.replicate e.Args.length 0) by simp [go_sem]) R
  refine bi h fun e_4 h he_4 => ?_
  refine tt ?_
  repeat (first | (with_reducible intro _) | (with_reducible refine and_i ?_ ?_; exact ss))
  refine lE (fun (s__ : (List Int) × Nat) (a__ : Unit) => match s__, a__ with | (xs_2, x_3), _ => ⟨[(2, .one (.ref 0 0 0 0)), (3, .one (.ref 1 0 0 0)), (5, .one (.ref 3 0 0 0)), (20, .one (.sl (e.Args.map e_api_Expr))), (21, .one (.int .i64 (e.Args.length : Int))), (22, .one (.int .i64 (x_3 : Int)))], [.cells 0 6 [[.sl (p.Lattice.Names.map eS), .sl (p.Lattice.Below.map (eA2 eI)), .sl (p.Sites.map e_api_Site), .sl (p.Vars.map e_api_Var), .sl (p.Blocks.map e_api_Block), .sl (p.Tasks.map e_api_Task)]], .cells 0 5 [[.int .i64 e.Op, .int .i64 e.N, .int .i64 e.Kind, .str e.Name, .sl (e.Args.map e_api_Expr)]], .cells 0 1 (xs_2.map eI), .cells 0 1 [[.msl 2 0 0 xs_2.length]]]⟩) (fun (e__ : List Int) (b__ : Unit) => match e__, b__ with | e_4, _ => ⟨[(2, .one (.ref 0 0 0 0)), (3, .one (.ref 1 0 0 0)), (5, .one (.ref 3 0 0 0))], [.cells 0 6 [[.sl (p.Lattice.Names.map eS), .sl (p.Lattice.Below.map (eA2 eI)), .sl (p.Sites.map e_api_Site), .sl (p.Vars.map e_api_Var), .sl (p.Blocks.map e_api_Block), .sl (p.Tasks.map e_api_Task)]], .cells 0 5 [[.int .i64 e.Op, .int .i64 e.N, .int .i64 e.Kind, .str e.Name, .sl (e.Args.map e_api_Expr)]], .cells 0 1 (e_4.map eI), .cells 0 1 [[.msl 2 0 0 e_4.length]]]⟩) (fun (_ : List Int) => some 0) () he_4 ?_ ?_
  intro i5 b5 hi5
  obtain rfl := Option.some.inj hi5
  obtain ⟨⟩ := b5
  dsimp only at h ⊢
  refine tt ?_
  repeat (first | (with_reducible intro _) | (with_reducible refine and_i ?_ ?_; exact ss))
  refine iS Tryz.func65 ?_
  simp only [Tryz.f65]
  refine tt ?_
  refine fi h F (fun h _ F => ?_) (fun h _ F => ?_)
  cases h; exact fin
  refine fi h F (fun h _ F => ?_) (fun h _ F => ?_)
  refine bi h fun r_10 h hr_10 => ?_
  refine tt ?_
  repeat (first | (with_reducible intro _) | (with_reducible refine and_i ?_ ?_; exact ss))
  refine cS (names_Var_ok hr_10) ?_
  refine tt ?_
  repeat (first | (with_reducible intro _) | (with_reducible refine and_i ?_ ?_; exact ss))
  refine fi h F (fun h _ F => ?_) (fun h _ F => ?_)
  cases h; exact fin
  refine by_ h F fun x_11 h hx_11 F => ?_
  refine tt ?_
  repeat (first | (with_reducible intro _) | (with_reducible refine and_i ?_ ?_; exact ss))
  refine fv h F (fun h _ F => ?_) (fun h _ F => ?_)
  refine tt ?_
  refine fi h F (fun h _ F => ?_) (fun h _ F => ?_)
  exact (by omega : False).elim
  cases h; exact fin
  cases h; exact fin
  refine fi h F (fun h _ F => ?_) (fun h _ F => ?_)
  refine bi h fun r_12 h hr_12 => ?_
  refine tt ?_
  repeat (first | (with_reducible intro _) | (with_reducible refine and_i ?_ ?_; exact ss))
  refine cS (names_Var_ok hr_12) ?_
  refine tt ?_
  repeat (first | (with_reducible intro _) | (with_reducible refine and_i ?_ ?_; exact ss))
  refine fi h F (fun h _ F => ?_) (fun h _ F => ?_)
  cases h; exact fin
  refine by_ h F fun x_13 h hx_13 F => ?_
  refine tt ?_
  repeat (first | (with_reducible intro _) | (with_reducible refine and_i ?_ ?_; exact ss))
  refine fi h F (fun h _ F => ?_) (fun h _ F => ?_)
  refine tt ?_
  repeat (first | (with_reducible intro _) | (with_reducible refine and_i ?_ ?_; exact ss))
  refine fi h F (fun h _ F => ?_) (fun h _ F => ?_)
  refine bx h F fun x_14 h hx_14 F => ?_
  refine tt ?_
  repeat (first | (with_reducible intro _) | (with_reducible refine and_i ?_ ?_; exact ss))
  refine fi h F (fun h _ F => ?_) (fun h _ F => ?_)
  cases h; exact fin
  cases h; exact fin
  cases h; exact fin
  cases h; exact fin
  refine fi h F (fun h _ F => ?_) (fun h _ F => ?_)
  refine bi h fun r_15 h hr_15 => ?_
  refine tt ?_
  repeat (first | (with_reducible intro _) | (with_reducible refine and_i ?_ ?_; exact ss))
  refine cS (names_Block_ok hr_15) ?_
  refine fi h F (fun h _ F => ?_) (fun h _ F => ?_)
  cases h; exact fin
  refine by_ h F fun x_16 h hx_16 F => ?_
  refine bi h fun r_17 h hr_17 => ?_
  refine tt ?_
  repeat (first | (with_reducible intro _) | (with_reducible refine and_i ?_ ?_; exact ss))
  refine cS (blocks_Outputs_ok hr_17) ?_
  refine fi h F (fun h _ F => ?_) (fun h _ F => ?_)
  refine tt ?_
  repeat (first | (with_reducible intro _) | (with_reducible refine and_i ?_ ?_; exact ss))
  refine fi h F (fun h _ F => ?_) (fun h _ F => ?_)
  refine by_ h F fun x_18 h hx_18 F => ?_
  cases h; exact fin
  cases h; exact fin
  cases h; exact fin
  refine tt ?_
  refine fi h F (fun h _ F => ?_) (fun h _ F => ?_)
  refine bi h fun r_19 h hr_19 => ?_
  refine tt ?_
  repeat (first | (with_reducible intro _) | (with_reducible refine and_i ?_ ?_; exact ss))
  refine cS (names_Site_ok hr_19) ?_
  refine tt ?_
  repeat (first | (with_reducible intro _) | (with_reducible refine and_i ?_ ?_; exact ss))
  refine fi h F (fun h _ F => ?_) (fun h _ F => ?_)
  refine tt ?_
  repeat (first | (with_reducible intro _) | (with_reducible refine and_i ?_ ?_; exact ss))
  refine fi h F (fun h _ F => ?_) (fun h _ F => ?_)
  refine bx h F fun x_20 h hx_20 F => ?_
  cases h; exact fin
  cases h; exact fin
  cases h; exact fin
  refine tt ?_
  repeat (first | (with_reducible intro _) | (with_reducible refine and_i ?_ ?_; exact ss))
  refine fi h F (fun h _ F => ?_) (fun h _ F => ?_)
  refine bi h fun r_21 h hr_21 => ?_
  refine tt ?_
  repeat (first | (with_reducible intro _) | (with_reducible refine and_i ?_ ?_; exact ss))
  refine cS (slices_ContainsFunc_int_int_ok (f_f := 68) (f_c := [.iptr [.sl (e_4.map eI)] 0]) clo (fun _ r h => typing_kind_1_ok h) hr_21) ?_
  refine fv h F (fun h _ F => ?_) (fun h _ F => ?_)
  cases h; exact fin
  refine bx h F fun x_22 h hx_22 F => ?_
  refine bi h fun r_23 h hr_23 => ?_
  refine tt ?_
  repeat (first | (with_reducible intro _) | (with_reducible refine and_i ?_ ?_; exact ss))
  refine cD (ints_Result_ok hr_23) ?_
  cases h; exact fin
  cases h; exact fin
  intro af5 m5 s5 a5 o5 hf5 ho5 ih5
  obtain ⟨xs_2, x_3⟩ := s5
  obtain ⟨⟩ := a5
  dsimp only [typing_kind_L1] at hf5 ⊢
  refine fl hf5 F (fun hf5 _ F => ?_) (fun hf5 _ F => ?_)
  refine bx hf5 F fun x_6 hf5 hx_6 F => ?_
  refine bi hf5 fun r_7 hf5 hr_7 => ?_
  refine tt ?_
  repeat (first | (with_reducible intro _) | (with_reducible refine and_i ?_ ?_; exact ss))
  refine cD (typing_kind_r_ok _ _ _ hr_7) ?_
  refine bx hf5 F fun x_8 hf5 hx_8 F => ?_
  have R := And.intro (show (List.map eI xs_2).set x_3 [.int .i64 r_7] = List.map eI (xs_2.set x_3 r_7) by simp [go_sem, List.map_set]) R
  cases hf5
  refine tt ?_
  repeat (first | (with_reducible intro _) | (with_reducible refine and_i ?_ ?_; exact ss))
  refine wn x_3 F fun F => ?_
  exact bk ih5 ho5 ()
  cases hf5
  refine tt ?_
  exact xt ho5 af5 ()
theorem typing_kind_g_ok (n : Nat) : (∀ (x0 : api_Program) (x1 : api_Expr) (r : Int), (typing_kind_g n) x0 x1 = some r → Pu Tryz.prog 38 [.agg (e_api_Program x0), .agg (e_api_Expr x1)] (.one (.int .i64 r))) := by
  induction n with
  | zero => exact fun _ _ r h => (by cases h)
  | succ n ih =>
    have ih0 := ih
    exact fun _ _ r h => typing_kind_b_ok ih0 h
theorem typing_kind_ok {p : api_Program} {e : api_Expr} {r : Int} (h : typing_kind p e = some r) : Pu Tryz.prog 38 [.agg (e_api_Program p), .agg (e_api_Expr e)] (.one (.int .i64 r)) := (typing_kind_g_ok 1000000) _ _ _ h
theorem slices_EqualFunc_api_Expr_int_api_Expr_int_ok {s1 : List api_Expr} {s2 : List Int} {eq : (api_Expr → Int → Option Bool)} {r : Bool}
    {eq_f : FuncId} {eq_c : List C} (eq_cl : Clo eq_c) (eq_ok : ∀ (x0 : api_Expr) (x1 : Int) (r : Bool), eq x0 x1 = some r → Pu Tryz.prog eq_f ([.agg (e_api_Expr x0), .one (.int .i64 x1)] ++ eq_c.map V.one) (.one (.bool r))) (h : slices_EqualFunc_api_Expr_int_api_Expr_int s1 s2 eq = some r) :
    Pu Tryz.prog 98 [.one (.sl (s1.map e_api_Expr)), .one (.sl (s2.map eI)), .one (.fn eq_f eq_c)] (.one (.bool r)) := by
  have F := trivial; have R := trivial
  refine pA Tryz.func98 ?_
  simp only [Tryz.f98]
  unfold slices_EqualFunc_api_Expr_int_api_Expr_int at h
  have F := And.intro eq_cl.all F
  refine tt ?_
  repeat (first | (with_reducible intro _) | (with_reducible refine and_i ?_ ?_; exact ss))
  refine fi h F (fun h _ F => ?_) (fun h _ F => ?_)
  refine bi h fun e_2 h he_2 => ?_
  refine tt ?_
  repeat (first | (with_reducible intro _) | (with_reducible refine and_i ?_ ?_; exact ss))
  refine lE (fun (s__ : Nat) (a__ : Unit) => match s__, a__ with | x_1, _ => ⟨[(1, .one (.sl (s2.map eI))), (2, .one (.fn eq_f eq_c)), (15, .one (.sl (s1.map e_api_Expr))), (16, .one (.int .i64 (s1.length : Int))), (17, .one (.int .i64 (x_1 : Int)))], []⟩) (fun (e__ : Bool ⊕ Unit) (b__ : Unit) => match e__, b__ with | (.inl e_7), _ => ⟨[], []⟩ | (.inr ()), _ => ⟨[], []⟩) (fun (e__ : Bool ⊕ Unit) => match e__ with | (.inl _) => none | (.inr _) => some 0) () he_2 ?_ ?_
  intro i3 b3 hi3
  rcases e_2 with e_case | ⟨⟩
  cases hi3
  obtain rfl := Option.some.inj hi3
  obtain ⟨⟩ := b3
  dsimp only at h ⊢
  cases h; exact fin
  intro af3 m3 x_1 a3 o3 hf3 ho3 ih3
  obtain ⟨⟩ := a3
  dsimp only [slices_EqualFunc_api_Expr_int_api_Expr_int_L1] at hf3 ⊢
  refine fl hf3 F (fun hf3 _ F => ?_) (fun hf3 _ F => ?_)
  refine bx hf3 F fun x_4 hf3 hx_4 F => ?_
  refine bx hf3 F fun x_5 hf3 hx_5 F => ?_
  refine bi hf3 fun r_6 hf3 hr_6 => ?_
  refine tt ?_
  repeat (first | (with_reducible intro _) | (with_reducible refine and_i ?_ ?_; exact ss))
  refine cS (eq_ok _ _ _ hr_6) ?_
  refine fv hf3 F (fun hf3 _ F => ?_) (fun hf3 _ F => ?_)
  cases hf3
  refine tt ?_
  refine wn x_1 F fun F => ?_
  exact bk ih3 ho3 ()
  cases hf3
  obtain rfl := sr ho3
  try dsimp only at h
  cases h
  exact fin
  cases hf3
  refine tt ?_
  exact xt ho3 af3 ()
  cases h; exact fin
theorem typing_are_1_ok {c0 : api_Program} {e : api_Expr} {k : Int} {r : Bool} (h : typing_are_1 c0 e k = some r) :
    Pu Tryz.prog 99 [.agg (e_api_Expr e), .one (.int .i64 k), .one (.iptr (e_api_Program c0) 0)] (.one (.bool r)) := by
  have F := trivial; have R := trivial
  refine pA Tryz.func99 ?_
  simp only [Tryz.f99]
  unfold typing_are_1 at h
  refine bi h fun r_1 h hr_1 => ?_
  refine tt ?_
  repeat (first | (with_reducible intro _) | (with_reducible refine and_i ?_ ?_; exact ss))
  refine cS (typing_kind_ok hr_1) ?_
  cases h; exact fin
theorem typing_are_ok {p : api_Program} {l : List api_Expr} {kinds : List Int} {r : Bool} (h : typing_are p l kinds = some r) :
    Pu Tryz.prog 60 [.agg (e_api_Program p), .one (.sl (l.map e_api_Expr)), .one (.sl (kinds.map eI))] (.one (.bool r)) := by
  have F := trivial; have R := trivial
  refine pA Tryz.func60 ?_
  simp only [Tryz.f60]
  unfold typing_are at h
  refine bi h fun r_1 h hr_1 => ?_
  refine tt ?_
  repeat (first | (with_reducible intro _) | (with_reducible refine and_i ?_ ?_; exact ss))
  refine cS (slices_EqualFunc_api_Expr_int_api_Expr_int_ok (eq_f := 99) (eq_c := [.iptr [.sl (p.Lattice.Names.map eS), .sl (p.Lattice.Below.map (eA2 eI)), .sl (p.Sites.map e_api_Site), .sl (p.Vars.map e_api_Var), .sl (p.Blocks.map e_api_Block), .sl (p.Tasks.map e_api_Task)] 0]) clo (fun _ _ r h => typing_are_1_ok h) hr_1) ?_
  cases h; exact fin
theorem typing_sets_b_ok {typing_sets_r : (List api_Stmt) → Str → Option Bool} {typing_sets_1_r : Str → api_Stmt → Option Bool} {l : List api_Stmt} {name : Str} {r : Bool}
    (typing_sets_r_ok : ∀ (x0 : List api_Stmt) (x1 : Str) (r : Bool), typing_sets_r x0 x1 = some r → Pu Tryz.prog 95 [.one (.sl (x0.map e_api_Stmt)), .one (.str x1)] (.one (.bool r)))
    (typing_sets_1_r_ok : ∀ (x0 : Str) (x1 : api_Stmt) (r : Bool), typing_sets_1_r x0 x1 = some r → Pu Tryz.prog 122 [.agg (e_api_Stmt x1), .one (.iptr (eS x0) 0)] (.one (.bool r))) (h : typing_sets_b typing_sets_r typing_sets_1_r l name = some r) :
    Pu Tryz.prog 95 [.one (.sl (l.map e_api_Stmt)), .one (.str name)] (.one (.bool r)) := by
  have F := trivial; have R := trivial
  refine pA Tryz.func95 ?_
  simp only [Tryz.f95]
  unfold typing_sets_b at h
  refine bi h fun r_1 h hr_1 => ?_
  refine tt ?_
  repeat (first | (with_reducible intro _) | (with_reducible refine and_i ?_ ?_; exact ss))
  refine cS (slices_ContainsFunc_api_Stmt_api_Stmt_ok (f_f := 122) (f_c := [.iptr [.str name] 0]) clo (fun x0 r h => typing_sets_1_r_ok _ x0 r h) hr_1) ?_
  cases h; exact fin
theorem typing_sets_1_b_ok {typing_sets_r : (List api_Stmt) → Str → Option Bool} {typing_sets_1_r : Str → api_Stmt → Option Bool} {c0 : Str} {s : api_Stmt} {r : Bool}
    (typing_sets_r_ok : ∀ (x0 : List api_Stmt) (x1 : Str) (r : Bool), typing_sets_r x0 x1 = some r → Pu Tryz.prog 95 [.one (.sl (x0.map e_api_Stmt)), .one (.str x1)] (.one (.bool r)))
    (typing_sets_1_r_ok : ∀ (x0 : Str) (x1 : api_Stmt) (r : Bool), typing_sets_1_r x0 x1 = some r → Pu Tryz.prog 122 [.agg (e_api_Stmt x1), .one (.iptr (eS x0) 0)] (.one (.bool r))) (h : typing_sets_1_b typing_sets_r typing_sets_1_r c0 s = some r) :
    Pu Tryz.prog 122 [.agg (e_api_Stmt s), .one (.iptr (eS c0) 0)] (.one (.bool r)) := by
  have F := trivial; have R := trivial
  refine pA Tryz.func122 ?_
  simp only [Tryz.f122]
  unfold typing_sets_1_b at h
  refine fi h F (fun h _ F => ?_) (fun h _ F => ?_)
  refine tt ?_
  refine fi h F (fun h _ F => ?_) (fun h _ F => ?_)
  cases h; exact fin
  refine fi h F (fun h _ F => ?_) (fun h _ F => ?_)
  exact (by omega : False).elim
  refine bi h fun r_1 h hr_1 => ?_
  refine tt ?_
  repeat (first | (with_reducible intro _) | (with_reducible refine and_i ?_ ?_; exact ss))
  refine cS (typing_sets_r_ok _ _ _ hr_1) ?_
  refine fv h F (fun h _ F => ?_) (fun h _ F => ?_)
  cases h; exact fin
  refine bi h fun r_2 h hr_2 => ?_
  refine tt ?_
  repeat (first | (with_reducible intro _) | (with_reducible refine and_i ?_ ?_; exact ss))
  refine cS (typing_sets_r_ok _ _ _ hr_2) ?_
  cases h; exact fin
  refine tt ?_
  refine fi h F (fun h _ F => ?_) (fun h _ F => ?_)
  refine tt ?_
  refine fi h F (fun h _ F => ?_) (fun h _ F => ?_)
  cases h; exact fin
  refine bi h fun r_3 h hr_3 => ?_
  refine tt ?_
  repeat (first | (with_reducible intro _) | (with_reducible refine and_i ?_ ?_; exact ss))
  refine cS (typing_sets_r_ok _ _ _ hr_3) ?_
  refine fv h F (fun h _ F => ?_) (fun h _ F => ?_)
  cases h; exact fin
  refine bi h fun r_4 h hr_4 => ?_
  refine tt ?_
  repeat (first | (with_reducible intro _) | (with_reducible refine and_i ?_ ?_; exact ss))
  refine cS (typing_sets_r_ok _ _ _ hr_4) ?_
  cases h; exact fin
  refine bi h fun r_5 h hr_5 => ?_
  refine tt ?_
  repeat (first | (with_reducible intro _) | (with_reducible refine and_i ?_ ?_; exact ss))
  refine cS (typing_sets_r_ok _ _ _ hr_5) ?_
  refine fv h F (fun h _ F => ?_) (fun h _ F => ?_)
  cases h; exact fin
  refine bi h fun r_6 h hr_6 => ?_
  refine tt ?_
  repeat (first | (with_reducible intro _) | (with_reducible refine and_i ?_ ?_; exact ss))
  refine cS (typing_sets_r_ok _ _ _ hr_6) ?_
  cases h; exact fin
theorem typing_sets_g_ok (n : Nat) : (∀ (x0 : List api_Stmt) (x1 : Str) (r : Bool), (typing_sets_g n).1 x0 x1 = some r → Pu Tryz.prog 95 [.one (.sl (x0.map e_api_Stmt)), .one (.str x1)] (.one (.bool r))) ∧ (∀ (x0 : Str) (x1 : api_Stmt) (r : Bool), (typing_sets_g n).2 x0 x1 = some r → Pu Tryz.prog 122 [.agg (e_api_Stmt x1), .one (.iptr (eS x0) 0)] (.one (.bool r))) := by
  induction n with
  | zero => exact ⟨fun _ _ r h => (by cases h), fun _ _ r h => (by cases h)⟩
  | succ n ih =>
    obtain ⟨ih0, ih1⟩ := ih
    exact ⟨fun _ _ r h => typing_sets_b_ok ih0 ih1 h, fun _ _ r h => typing_sets_1_b_ok ih0 ih1 h⟩
theorem typing_sets_ok {l : List api_Stmt} {name : Str} {r : Bool} (h : typing_sets l name = some r) : Pu Tryz.prog 95 [.one (.sl (l.map e_api_Stmt)), .one (.str name)] (.one (.bool r)) := (typing_sets_g_ok 1000000).1 _ _ _ h
theorem typing_sets_1_ok {c0 : Str} {s : api_Stmt} {r : Bool} (h : typing_sets_1 c0 s = some r) : Pu Tryz.prog 122 [.agg (e_api_Stmt s), .one (.iptr (eS c0) 0)] (.one (.bool r)) := (typing_sets_g_ok 1000000).2 _ _ _ h
theorem typing_loop_ok {p : api_Program} {s : api_Stmt} {r : Bool} (h : typing_loop p s = some r) :
    Pu Tryz.prog 58 [.agg (e_api_Program p), .agg (e_api_Stmt s)] (.one (.bool r)) := by
  have F := trivial; have R := trivial
  refine pA Tryz.func58 ?_
  simp only [Tryz.f58]
  unfold typing_loop at h
  refine bi h fun r_1 h hr_1 => ?_
  refine tt ?_
  repeat (first | (with_reducible intro _) | (with_reducible refine and_i ?_ ?_; exact ss))
  refine cS (names_Var_ok hr_1) ?_
  refine fi h F (fun h _ F => ?_) (fun h _ F => ?_)
  cases h; exact fin
  refine by_ h F fun x_2 h hx_2 F => ?_
  refine tt ?_
  repeat (first | (with_reducible intro _) | (with_reducible refine and_i ?_ ?_; exact ss))
  refine fi h F (fun h _ F => ?_) (fun h _ F => ?_)
  refine fi h F (fun h _ F => ?_) (fun h _ F => ?_)
  refine tt ?_
  refine fi h F (fun h _ F => ?_) (fun h _ F => ?_)
  refine bi h fun r_3 h hr_3 => ?_
  refine tt ?_
  repeat (first | (with_reducible intro _) | (with_reducible refine and_i ?_ ?_; exact ss))
  refine cS (typing_are_ok hr_3) ?_
  refine fv h F (fun h _ F => ?_) (fun h _ F => ?_)
  refine bi h fun r_4 h hr_4 => ?_
  refine tt ?_
  repeat (first | (with_reducible intro _) | (with_reducible refine and_i ?_ ?_; exact ss))
  refine cS (typing_sets_ok hr_4) ?_
  cases h; exact fin
  cases h; exact fin
  refine fi h F (fun h _ F => ?_) (fun h _ F => ?_)
  refine bi h fun r_5 h hr_5 => ?_
  refine tt ?_
  repeat (first | (with_reducible intro _) | (with_reducible refine and_i ?_ ?_; exact ss))
  refine cS (typing_are_ok hr_5) ?_
  refine fv h F (fun h _ F => ?_) (fun h _ F => ?_)
  refine bi h fun r_6 h hr_6 => ?_
  refine tt ?_
  repeat (first | (with_reducible intro _) | (with_reducible refine and_i ?_ ?_; exact ss))
  refine cS (typing_sets_ok hr_6) ?_
  cases h; exact fin
  cases h; exact fin
  cases h; exact fin
  cases h; exact fin
  cases h; exact fin
theorem typing_one_ok {p : api_Program} {s : api_Stmt} {r : Bool} (h : typing_one p s = some r) :
    Pu Tryz.prog 35 [.agg (e_api_Program p), .agg (e_api_Stmt s)] (.one (.bool r)) := by
  have F := trivial; have R := trivial
  refine pA Tryz.func35 ?_
  simp only [Tryz.f35]
  unfold typing_one at h
  refine tt ?_
  refine fi h F (fun h _ F => ?_) (fun h _ F => ?_)
  refine bi h fun r_1 h hr_1 => ?_
  refine tt ?_
  repeat (first | (with_reducible intro _) | (with_reducible refine and_i ?_ ?_; exact ss))
  refine cD (names_Var_ok hr_1) ?_
  refine bi h fun r_2 h hr_2 => ?_
  refine tt ?_
  repeat (first | (with_reducible intro _) | (with_reducible refine and_i ?_ ?_; exact ss))
  refine cD (typing_kind_ok hr_2) ?_
  refine tt ?_
  repeat (first | (with_reducible intro _) | (with_reducible refine and_i ?_ ?_; exact ss))
  refine fi h F (fun h _ F => ?_) (fun h _ F => ?_)
  refine fi h F (fun h _ F => ?_) (fun h _ F => ?_)
  refine by_ h F fun x_3 h hx_3 F => ?_
  refine tt ?_
  repeat (first | (with_reducible intro _) | (with_reducible refine and_i ?_ ?_; exact ss))
  refine fi h F (fun h _ F => ?_) (fun h _ F => ?_)
  cases h; exact fin
  refine bi h fun r_4 h hr_4 => ?_
  refine tt ?_
  repeat (first | (with_reducible intro _) | (with_reducible refine and_i ?_ ?_; exact ss))
  refine cS (typing_kind_ok hr_4) ?_
  cases h; exact fin
  cases h; exact fin
  cases h; exact fin
  refine fi h F (fun h _ F => ?_) (fun h _ F => ?_)
  refine bi h fun r_5 h hr_5 => ?_
  refine tt ?_
  repeat (first | (with_reducible intro _) | (with_reducible refine and_i ?_ ?_; exact ss))
  refine cS (typing_kind_ok hr_5) ?_
  cases h; exact fin
  refine fi h F (fun h _ F => ?_) (fun h _ F => ?_)
  refine bi h fun r_6 h hr_6 => ?_
  refine tt ?_
  repeat (first | (with_reducible intro _) | (with_reducible refine and_i ?_ ?_; exact ss))
  refine cS (typing_kind_ok hr_6) ?_
  cases h; exact fin
  refine fi h F (fun h _ F => ?_) (fun h _ F => ?_)
  refine bi h fun r_7 h hr_7 => ?_
  refine tt ?_
  repeat (first | (with_reducible intro _) | (with_reducible refine and_i ?_ ?_; exact ss))
  refine cS (typing_loop_ok hr_7) ?_
  cases h; exact fin
  refine bi h fun r_8 h hr_8 => ?_
  refine tt ?_
  repeat (first | (with_reducible intro _) | (with_reducible refine and_i ?_ ?_; exact ss))
  refine cS (names_Block_ok hr_8) ?_
  refine tt ?_
  repeat (first | (with_reducible intro _) | (with_reducible refine and_i ?_ ?_; exact ss))
  refine fi h F (fun h _ F => ?_) (fun h _ F => ?_)
  refine by_ h F fun x_9 h hx_9 F => ?_
  refine bi h fun r_10 h hr_10 => ?_
  refine tt ?_
  repeat (first | (with_reducible intro _) | (with_reducible refine and_i ?_ ?_; exact ss))
  refine cD (blocks_Inputs_ok hr_10) ?_
  refine bi h fun r_11 h hr_11 => ?_
  refine tt ?_
  repeat (first | (with_reducible intro _) | (with_reducible refine and_i ?_ ?_; exact ss))
  refine cD (typing_are_ok hr_11) ?_
  cases h; exact fin
  cases h; exact fin
theorem typing_Stmts_b_ok {typing_Stmts_r : api_Program → (List api_Stmt) → Option Bool} {typing_Stmts_1_r : api_Program → api_Stmt → Option Bool} {p : api_Program} {l : List api_Stmt} {r : Bool}
    (typing_Stmts_r_ok : ∀ (x0 : api_Program) (x1 : List api_Stmt) (r : Bool), typing_Stmts_r x0 x1 = some r → Pu Tryz.prog 11 [.agg (e_api_Program x0), .one (.sl (x1.map e_api_Stmt))] (.one (.bool r)))
    (typing_Stmts_1_r_ok : ∀ (x0 : api_Program) (x1 : api_Stmt) (r : Bool), typing_Stmts_1_r x0 x1 = some r → Pu Tryz.prog 34 [.agg (e_api_Stmt x1), .one (.iptr (e_api_Program x0) 0)] (.one (.bool r))) (h : typing_Stmts_b typing_Stmts_r typing_Stmts_1_r p l = some r) :
    Pu Tryz.prog 11 [.agg (e_api_Program p), .one (.sl (l.map e_api_Stmt))] (.one (.bool r)) := by
  have F := trivial; have R := trivial
  refine pA Tryz.func11 ?_
  simp only [Tryz.f11]
  unfold typing_Stmts_b at h
  refine bi h fun r_1 h hr_1 => ?_
  refine tt ?_
  repeat (first | (with_reducible intro _) | (with_reducible refine and_i ?_ ?_; exact ss))
  refine cS (slices_ContainsFunc_api_Stmt_api_Stmt_ok (f_f := 34) (f_c := [.iptr [.sl (p.Lattice.Names.map eS), .sl (p.Lattice.Below.map (eA2 eI)), .sl (p.Sites.map e_api_Site), .sl (p.Vars.map e_api_Var), .sl (p.Blocks.map e_api_Block), .sl (p.Tasks.map e_api_Task)] 0]) clo (fun x0 r h => typing_Stmts_1_r_ok _ x0 r h) hr_1) ?_
  cases h; exact fin
theorem typing_Stmts_1_b_ok {typing_Stmts_r : api_Program → (List api_Stmt) → Option Bool} {typing_Stmts_1_r : api_Program → api_Stmt → Option Bool} {c0 : api_Program} {s : api_Stmt} {r : Bool}
    (typing_Stmts_r_ok : ∀ (x0 : api_Program) (x1 : List api_Stmt) (r : Bool), typing_Stmts_r x0 x1 = some r → Pu Tryz.prog 11 [.agg (e_api_Program x0), .one (.sl (x1.map e_api_Stmt))] (.one (.bool r)))
    (typing_Stmts_1_r_ok : ∀ (x0 : api_Program) (x1 : api_Stmt) (r : Bool), typing_Stmts_1_r x0 x1 = some r → Pu Tryz.prog 34 [.agg (e_api_Stmt x1), .one (.iptr (e_api_Program x0) 0)] (.one (.bool r))) (h : typing_Stmts_1_b typing_Stmts_r typing_Stmts_1_r c0 s = some r) :
    Pu Tryz.prog 34 [.agg (e_api_Stmt s), .one (.iptr (e_api_Program c0) 0)] (.one (.bool r)) := by
  have F := trivial; have R := trivial
  refine pA Tryz.func34 ?_
  simp only [Tryz.f34]
  unfold typing_Stmts_1_b at h
  refine bi h fun r_1 h hr_1 => ?_
  refine tt ?_
  repeat (first | (with_reducible intro _) | (with_reducible refine and_i ?_ ?_; exact ss))
  refine cS (typing_one_ok hr_1) ?_
  refine fv h F (fun h _ F => ?_) (fun h _ F => ?_)
  refine bi h fun r_2 h hr_2 => ?_
  refine tt ?_
  repeat (first | (with_reducible intro _) | (with_reducible refine and_i ?_ ?_; exact ss))
  refine cS (typing_Stmts_r_ok _ _ _ hr_2) ?_
  refine fv h F (fun h _ F => ?_) (fun h _ F => ?_)
  refine bi h fun r_3 h hr_3 => ?_
  refine tt ?_
  repeat (first | (with_reducible intro _) | (with_reducible refine and_i ?_ ?_; exact ss))
  refine cS (typing_Stmts_r_ok _ _ _ hr_3) ?_
  cases h; exact fin
  cases h; exact fin
  cases h; exact fin
theorem typing_Stmts_g_ok (n : Nat) : (∀ (x0 : api_Program) (x1 : List api_Stmt) (r : Bool), (typing_Stmts_g n).1 x0 x1 = some r → Pu Tryz.prog 11 [.agg (e_api_Program x0), .one (.sl (x1.map e_api_Stmt))] (.one (.bool r))) ∧ (∀ (x0 : api_Program) (x1 : api_Stmt) (r : Bool), (typing_Stmts_g n).2 x0 x1 = some r → Pu Tryz.prog 34 [.agg (e_api_Stmt x1), .one (.iptr (e_api_Program x0) 0)] (.one (.bool r))) := by
  induction n with
  | zero => exact ⟨fun _ _ r h => (by cases h), fun _ _ r h => (by cases h)⟩
  | succ n ih =>
    obtain ⟨ih0, ih1⟩ := ih
    exact ⟨fun _ _ r h => typing_Stmts_b_ok ih0 ih1 h, fun _ _ r h => typing_Stmts_1_b_ok ih0 ih1 h⟩
theorem typing_Stmts_ok {p : api_Program} {l : List api_Stmt} {r : Bool} (h : typing_Stmts p l = some r) : Pu Tryz.prog 11 [.agg (e_api_Program p), .one (.sl (l.map e_api_Stmt))] (.one (.bool r)) := (typing_Stmts_g_ok 1000000).1 _ _ _ h
theorem typing_Stmts_1_ok {c0 : api_Program} {s : api_Stmt} {r : Bool} (h : typing_Stmts_1 c0 s = some r) : Pu Tryz.prog 34 [.agg (e_api_Stmt s), .one (.iptr (e_api_Program c0) 0)] (.one (.bool r)) := (typing_Stmts_g_ok 1000000).2 _ _ _ h
theorem typing_Check_3_ok {c0 : api_Program} {t : api_Task} {r : Bool} (h : typing_Check_3 c0 t = some r) :
    Pu Tryz.prog 29 [.agg (e_api_Task t), .one (.iptr (e_api_Program c0) 0)] (.one (.bool r)) := by
  have F := trivial; have R := trivial
  refine pA Tryz.func29 ?_
  simp only [Tryz.f29]
  unfold typing_Check_3 at h
  refine bi h fun r_1 h hr_1 => ?_
  refine tt ?_
  repeat (first | (with_reducible intro _) | (with_reducible refine and_i ?_ ?_; exact ss))
  refine cS (typing_Stmts_ok hr_1) ?_
  cases h; exact fin
theorem typing_Check_ok {p : api_Program} {r : Int} (h : typing_Check p = some r) :
    Pu Tryz.prog 9 [.agg (e_api_Program p)] (.one (.int .i64 r)) := by
  have F := trivial; have R := trivial
  refine pA Tryz.func9 ?_
  simp only [Tryz.f9]
  unfold typing_Check at h
  refine bi h fun r_1 h hr_1 => ?_
  refine tt ?_
  repeat (first | (with_reducible intro _) | (with_reducible refine and_i ?_ ?_; exact ss))
  refine cS (slices_ContainsFunc_api_Var_api_Var_ok (f_f := 22) (f_c := []) clo (fun _ r h => typing_Check_1_ok h) hr_1) ?_
  refine fv h F (fun h _ F => ?_) (fun h _ F => ?_)
  cases h; exact fin
  refine bi h fun r_2 h hr_2 => ?_
  refine tt ?_
  repeat (first | (with_reducible intro _) | (with_reducible refine and_i ?_ ?_; exact ss))
  refine cS (slices_ContainsFunc_api_Block_api_Block_ok (f_f := 26) (f_c := []) clo (fun _ r h => typing_Check_2_ok h) hr_2) ?_
  refine fv h F (fun h _ F => ?_) (fun h _ F => ?_)
  cases h; exact fin
  refine bi h fun r_3 h hr_3 => ?_
  refine tt ?_
  repeat (first | (with_reducible intro _) | (with_reducible refine and_i ?_ ?_; exact ss))
  refine cS (slices_ContainsFunc_api_Task_api_Task_ok (f_f := 29) (f_c := [.iptr [.sl (p.Lattice.Names.map eS), .sl (p.Lattice.Below.map (eA2 eI)), .sl (p.Sites.map e_api_Site), .sl (p.Vars.map e_api_Var), .sl (p.Blocks.map e_api_Block), .sl (p.Tasks.map e_api_Task)] 0]) clo (fun _ r h => typing_Check_3_ok h) hr_3) ?_
  refine fv h F (fun h _ F => ?_) (fun h _ F => ?_)
  cases h; exact fin
  cases h; exact fin
theorem typing_Expr_ok {p : api_Program} {e : api_Expr} {r : Int × Bool} (h : typing_Expr p e = some r) :
    Pu Tryz.prog 14 [.agg (e_api_Program p), .agg (e_api_Expr e)] (.tup [.one (.int .i64 r.1), .one (.bool r.2)]) := by
  have F := trivial; have R := trivial
  refine pA Tryz.func14 ?_
  simp only [Tryz.f14]
  unfold typing_Expr at h
  refine bi h fun r_1 h hr_1 => ?_
  refine tt ?_
  repeat (first | (with_reducible intro _) | (with_reducible refine and_i ?_ ?_; exact ss))
  refine cS (typing_kind_ok hr_1) ?_
  cases h; exact fin
theorem lazarettoref03_Result_ok {op : Int} {kind : Int} {r : Int} (h : lazarettoref03_Result op kind = some r) :
    Pu Tryz.prog 16 [.one (.int .i64 op), .one (.int .i64 kind)] (.one (.int .i64 r)) := by
  have F := trivial; have R := trivial
  refine pA Tryz.func16 ?_
  simp only [Tryz.f16]
  unfold lazarettoref03_Result at h
  refine bi h fun r_1 h hr_1 => ?_
  refine tt ?_
  repeat (first | (with_reducible intro _) | (with_reducible refine and_i ?_ ?_; exact ss))
  refine cS (lazarettoref03_Bits_ok hr_1) ?_
  refine fi h F (fun h _ F => ?_) (fun h _ F => ?_)
  cases h; exact fin
  refine tt ?_
  refine fi h F (fun h _ F => ?_) (fun h _ F => ?_)
  refine fi h F (fun h _ F => ?_) (fun h _ F => ?_)
  cases h; exact fin
  cases h; exact fin
  refine fi h F (fun h _ F => ?_) (fun h _ F => ?_)
  refine tt ?_
  refine fi h F (fun h _ F => ?_) (fun h _ F => ?_)
  refine fi h F (fun h _ F => ?_) (fun h _ F => ?_)
  cases h; exact fin
  cases h; exact fin
  refine fi h F (fun h _ F => ?_) (fun h _ F => ?_)
  refine tt ?_
  refine fi h F (fun h _ F => ?_) (fun h _ F => ?_)
  cases h; exact fin
  cases h; exact fin
  refine fi h F (fun h _ F => ?_) (fun h _ F => ?_)
  refine tt ?_
  refine fi h F (fun h _ F => ?_) (fun h _ F => ?_)
  refine fi h F (fun h _ F => ?_) (fun h _ F => ?_)
  cases h; exact fin
  cases h; exact fin
  refine fi h F (fun h _ F => ?_) (fun h _ F => ?_)
  cases h; exact fin
  refine tt ?_
  refine fi h F (fun h _ F => ?_) (fun h _ F => ?_)
  cases h; exact fin
  refine fi h F (fun h _ F => ?_) (fun h _ F => ?_)
  refine tt ?_
  refine fi h F (fun h _ F => ?_) (fun h _ F => ?_)
  refine fi h F (fun h _ F => ?_) (fun h _ F => ?_)
  cases h; exact fin
  cases h; exact fin
  cases h; exact fin
  cases h; exact fin
  refine tt ?_
  refine fi h F (fun h _ F => ?_) (fun h _ F => ?_)
  cases h; exact fin
  refine fi h F (fun h _ F => ?_) (fun h _ F => ?_)
  cases h; exact fin
  refine tt ?_
  refine fi h F (fun h _ F => ?_) (fun h _ F => ?_)
  refine fi h F (fun h _ F => ?_) (fun h _ F => ?_)
  refine fi h F (fun h _ F => ?_) (fun h _ F => ?_)
  cases h; exact fin
  cases h; exact fin
  cases h; exact fin
  cases h; exact fin
  refine tt ?_
  refine fi h F (fun h _ F => ?_) (fun h _ F => ?_)
  refine fi h F (fun h _ F => ?_) (fun h _ F => ?_)
  cases h; exact fin
  cases h; exact fin
  refine fi h F (fun h _ F => ?_) (fun h _ F => ?_)
  refine tt ?_
  refine fi h F (fun h _ F => ?_) (fun h _ F => ?_)
  refine fi h F (fun h _ F => ?_) (fun h _ F => ?_)
  cases h; exact fin
  cases h; exact fin
  refine fi h F (fun h _ F => ?_) (fun h _ F => ?_)
  cases h; exact fin
  refine tt ?_
  refine fi h F (fun h _ F => ?_) (fun h _ F => ?_)
  cases h; exact fin
  refine fi h F (fun h _ F => ?_) (fun h _ F => ?_)
  refine tt ?_
  refine fi h F (fun h _ F => ?_) (fun h _ F => ?_)
  refine fi h F (fun h _ F => ?_) (fun h _ F => ?_)
  cases h; exact fin
  cases h; exact fin
  cases h; exact fin
  cases h; exact fin
  refine tt ?_
  refine fi h F (fun h _ F => ?_) (fun h _ F => ?_)
  cases h; exact fin
  refine fi h F (fun h _ F => ?_) (fun h _ F => ?_)
  cases h; exact fin
  refine tt ?_
  refine fi h F (fun h _ F => ?_) (fun h _ F => ?_)
  refine fi h F (fun h _ F => ?_) (fun h _ F => ?_)
  refine fi h F (fun h _ F => ?_) (fun h _ F => ?_)
  cases h; exact fin
  cases h; exact fin
  cases h; exact fin
  cases h; exact fin
theorem lazarettoref11_Outputs_ok {kind : Str} {r : List Int} (h : lazarettoref11_Outputs kind = some r) :
    Pu Tryz.prog 41 [.one (.str kind)] (.one (.sl (r.map eI))) := by
  have F := trivial; have R := trivial
  refine pA Tryz.func41 ?_
  simp only [Tryz.f41]
  unfold lazarettoref11_Outputs at h
  refine fi h F (fun h _ F => ?_) (fun h _ F => ?_)
  cases h; exact fin
  refine fi h F (fun h _ F => ?_) (fun h _ F => ?_)
  cases h; exact fin
  refine tt ?_
  refine fi h F (fun h _ F => ?_) (fun h _ F => ?_)
  cases h; exact fin
  refine fi h F (fun h _ F => ?_) (fun h _ F => ?_)
  cases h; exact fin
  refine fi h F (fun h _ F => ?_) (fun h _ F => ?_)
  cases h; exact fin
  refine fi h F (fun h _ F => ?_) (fun h _ F => ?_)
  cases h; exact fin
  refine tt ?_
  refine fi h F (fun h _ F => ?_) (fun h _ F => ?_)
  cases h; exact fin
  refine fi h F (fun h _ F => ?_) (fun h _ F => ?_)
  cases h; exact fin
  refine fi h F (fun h _ F => ?_) (fun h _ F => ?_)
  cases h; exact fin
  refine fi h F (fun h _ F => ?_) (fun h _ F => ?_)
  cases h; exact fin
  cases h; exact fin
theorem lazarettoref12_Expr_b_ok {lazarettoref12_Expr_r : api_Program → api_Expr → Option Int} {p : api_Program} {e : api_Expr} {r : Int}
    (lazarettoref12_Expr_r_ok : ∀ (x0 : api_Program) (x1 : api_Expr) (r : Int), lazarettoref12_Expr_r x0 x1 = some r → Pu Tryz.prog 15 [.agg (e_api_Program x0), .agg (e_api_Expr x1)] (.one (.int .i64 r))) (h : lazarettoref12_Expr_b lazarettoref12_Expr_r p e = some r) :
    Pu Tryz.prog 15 [.agg (e_api_Program p), .agg (e_api_Expr e)] (.one (.int .i64 r)) := by
  have F := trivial; have R := trivial
  refine pA Tryz.func15 ?_
  simp only [Tryz.f15]
  unfold lazarettoref12_Expr_b at h
  refine tt ?_
  refine fi h F (fun h _ F => ?_) (fun h _ F => ?_)
  cases h; exact fin
  refine fi h F (fun h _ F => ?_) (fun h _ F => ?_)
  refine bi h fun r_1 h hr_1 => ?_
  refine tt ?_
  repeat (first | (with_reducible intro _) | (with_reducible refine and_i ?_ ?_; exact ss))
  refine cS (lazarettoref10_Var_ok hr_1) ?_
  refine tt ?_
  repeat (first | (with_reducible intro _) | (with_reducible refine and_i ?_ ?_; exact ss))
  refine fi h F (fun h _ F => ?_) (fun h _ F => ?_)
  cases h; exact fin
  refine by_ h F fun x_2 h hx_2 F => ?_
  refine tt ?_
  repeat (first | (with_reducible intro _) | (with_reducible refine and_i ?_ ?_; exact ss))
  refine fv h F (fun h _ F => ?_) (fun h _ F => ?_)
  refine tt ?_
  repeat (first | (with_reducible intro _) | (with_reducible refine and_i ?_ ?_; exact ss))
  refine fi h F (fun h _ F => ?_) (fun h _ F => ?_)
  exact (by omega : False).elim
  cases h; exact fin
  cases h; exact fin
  refine fi h F (fun h _ F => ?_) (fun h _ F => ?_)
  refine bi h fun r_3 h hr_3 => ?_
  refine tt ?_
  repeat (first | (with_reducible intro _) | (with_reducible refine and_i ?_ ?_; exact ss))
  refine cS (lazarettoref10_Var_ok hr_3) ?_
  refine tt ?_
  repeat (first | (with_reducible intro _) | (with_reducible refine and_i ?_ ?_; exact ss))
  refine fi h F (fun h _ F => ?_) (fun h _ F => ?_)
  cases h; exact fin
  refine by_ h F fun x_4 h hx_4 F => ?_
  refine tt ?_
  repeat (first | (with_reducible intro _) | (with_reducible refine and_i ?_ ?_; exact ss))
  refine fi h F (fun h _ F => ?_) (fun h _ F => ?_)
  refine bx h F fun x_5 h hx_5 F => ?_
  refine bi h fun r_6 h hr_6 => ?_
  refine tt ?_
  repeat (first | (with_reducible intro _) | (with_reducible refine and_i ?_ ?_; exact ss))
  refine cD (lazarettoref12_Expr_r_ok _ _ _ hr_6) ?_
  refine tt ?_
  repeat (first | (with_reducible intro _) | (with_reducible refine and_i ?_ ?_; exact ss))
  refine fi h F (fun h _ F => ?_) (fun h _ F => ?_)
  cases h; exact fin
  cases h; exact fin
  cases h; exact fin
  refine fi h F (fun h _ F => ?_) (fun h _ F => ?_)
  refine bi h fun r_7 h hr_7 => ?_
  refine tt ?_
  repeat (first | (with_reducible intro _) | (with_reducible refine and_i ?_ ?_; exact ss))
  refine cS (lazarettoref10_Block_ok hr_7) ?_
  refine fi h F (fun h _ F => ?_) (fun h _ F => ?_)
  cases h; exact fin
  refine by_ h F fun x_8 h hx_8 F => ?_
  refine bi h fun r_9 h hr_9 => ?_
  refine tt ?_
  repeat (first | (with_reducible intro _) | (with_reducible refine and_i ?_ ?_; exact ss))
  refine cS (lazarettoref11_Outputs_ok hr_9) ?_
  refine fi h F (fun h _ F => ?_) (fun h _ F => ?_)
  cases h; exact fin
  refine tt ?_
  repeat (first | (with_reducible intro _) | (with_reducible refine and_i ?_ ?_; exact ss))
  refine fi h F (fun h _ F => ?_) (fun h _ F => ?_)
  cases h; exact fin
  refine by_ h F fun x_10 h hx_10 F => ?_
  cases h; exact fin
  refine tt ?_
  refine fi h F (fun h _ F => ?_) (fun h _ F => ?_)
  refine bi h fun r_11 h hr_11 => ?_
  refine tt ?_
  repeat (first | (with_reducible intro _) | (with_reducible refine and_i ?_ ?_; exact ss))
  refine cS (lazarettoref10_Site_ok hr_11) ?_
  refine fi h F (fun h _ F => ?_) (fun h _ F => ?_)
  cases h; exact fin
  refine bx h F fun x_12 h hx_12 F => ?_
  refine bi h fun r_13 h hr_13 => ?_
  refine tt ?_
  repeat (first | (with_reducible intro _) | (with_reducible refine and_i ?_ ?_; exact ss))
  refine cD (lazarettoref12_Expr_r_ok _ _ _ hr_13) ?_
  cases h; exact fin
  refine bx h F fun x_14 h hx_14 F => ?_
  refine bi h fun r_15 h hr_15 => ?_
  refine tt ?_
  repeat (first | (with_reducible intro _) | (with_reducible refine and_i ?_ ?_; exact ss))
  refine cD (lazarettoref12_Expr_r_ok _ _ _ hr_15) ?_
  refine tt ?_
  repeat (first | (with_reducible intro _) | (with_reducible refine and_i ?_ ?_; exact ss))
  refine fi h F (fun h _ F => ?_) (fun h _ F => ?_)
  refine bx h F fun x_16 h hx_16 F => ?_
  refine bi h fun r_17 h hr_17 => ?_
  refine tt ?_
  repeat (first | (with_reducible intro _) | (with_reducible refine and_i ?_ ?_; exact ss))
  refine cD (lazarettoref12_Expr_r_ok _ _ _ hr_17) ?_
  refine tt ?_
  repeat (first | (with_reducible intro _) | (with_reducible refine and_i ?_ ?_; exact ss))
  refine fi h F (fun h _ F => ?_) (fun h _ F => ?_)
  refine bi h fun r_18 h hr_18 => ?_
  refine tt ?_
  repeat (first | (with_reducible intro _) | (with_reducible refine and_i ?_ ?_; exact ss))
  refine cS (lazarettoref03_Result_ok hr_18) ?_
  cases h; exact fin
  cases h; exact fin
  refine bi h fun r_19 h hr_19 => ?_
  refine tt ?_
  repeat (first | (with_reducible intro _) | (with_reducible refine and_i ?_ ?_; exact ss))
  refine cS (lazarettoref03_Result_ok hr_19) ?_
  cases h; exact fin
theorem lazarettoref12_Expr_g_ok (n : Nat) : (∀ (x0 : api_Program) (x1 : api_Expr) (r : Int), (lazarettoref12_Expr_g n) x0 x1 = some r → Pu Tryz.prog 15 [.agg (e_api_Program x0), .agg (e_api_Expr x1)] (.one (.int .i64 r))) := by
  induction n with
  | zero => exact fun _ _ r h => (by cases h)
  | succ n ih =>
    have ih0 := ih
    exact fun _ _ r h => lazarettoref12_Expr_b_ok ih0 h
theorem lazarettoref12_Expr_ok {p : api_Program} {e : api_Expr} {r : Int} (h : lazarettoref12_Expr p e = some r) : Pu Tryz.prog 15 [.agg (e_api_Program p), .agg (e_api_Expr e)] (.one (.int .i64 r)) := (lazarettoref12_Expr_g_ok 1000000) _ _ _ h
theorem lazarettoref12_sets_b_ok {lazarettoref12_sets_r : (List api_Stmt) → Str → Option Bool} {l : List api_Stmt} {name : Str} {r : Bool}
    (lazarettoref12_sets_r_ok : ∀ (x0 : List api_Stmt) (x1 : Str) (r : Bool), lazarettoref12_sets_r x0 x1 = some r → Pu Tryz.prog 100 [.one (.sl (x0.map e_api_Stmt)), .one (.str x1)] (.one (.bool r))) (h : lazarettoref12_sets_b lazarettoref12_sets_r l name = some r) :
    Pu Tryz.prog 100 [.one (.sl (l.map e_api_Stmt)), .one (.str name)] (.one (.bool r)) := by
  have F := trivial; have R := trivial
  refine pA Tryz.func100 ?_
  simp only [Tryz.f100]
  unfold lazarettoref12_sets_b at h
  refine bi h fun e_2 h he_2 => ?_
  refine tt ?_
  refine lE (fun (s__ : Nat) (a__ : Unit) => match s__, a__ with | i_1, _ => ⟨[(0, .one (.sl (l.map e_api_Stmt))), (1, .one (.str name)), (5, .one (.int .i64 (i_1 : Int)))], []⟩) (fun (e__ : Bool ⊕ Unit) (b__ : Unit) => match e__, b__ with | (.inl e_11), _ => ⟨[], []⟩ | (.inr ()), _ => ⟨[], []⟩) (fun (e__ : Bool ⊕ Unit) => match e__ with | (.inl _) => none | (.inr _) => some 0) () he_2 ?_ ?_
  intro i3 b3 hi3
  rcases e_2 with e_case | ⟨⟩
  cases hi3
  obtain rfl := Option.some.inj hi3
  obtain ⟨⟩ := b3
  dsimp only at h ⊢
  cases h; exact fin
  intro af3 m3 i_1 a3 o3 hf3 ho3 ih3
  obtain ⟨⟩ := a3
  dsimp only [lazarettoref12_sets_L1] at hf3 ⊢
  refine tt ?_
  repeat (first | (with_reducible intro _) | (with_reducible refine and_i ?_ ?_; exact ss))
  refine fl hf3 F (fun hf3 _ F => ?_) (fun hf3 _ F => ?_)
  refine bx hf3 F fun x_4 hf3 hx_4 F => ?_
  refine tt ?_
  repeat (first | (with_reducible intro _) | (with_reducible refine and_i ?_ ?_; exact ss))
  refine fi hf3 F (fun hf3 _ F => ?_) (fun hf3 _ F => ?_)
  refine tt ?_
  refine fi hf3 F (fun hf3 _ F => ?_) (fun hf3 _ F => ?_)
  cases hf3
  obtain rfl := sr ho3
  try dsimp only at h
  cases h
  exact fin
  refine fi hf3 F (fun hf3 _ F => ?_) (fun hf3 _ F => ?_)
  exact (by omega : False).elim
  refine bi hf3 fun r_5 hf3 hr_5 => ?_
  refine tt ?_
  repeat (first | (with_reducible intro _) | (with_reducible refine and_i ?_ ?_; exact ss))
  refine cS (lazarettoref12_sets_r_ok _ _ _ hr_5) ?_
  refine fv hf3 F (fun hf3 _ F => ?_) (fun hf3 _ F => ?_)
  cases hf3
  obtain rfl := sr ho3
  try dsimp only at h
  cases h
  exact fin
  refine bi hf3 fun r_6 hf3 hr_6 => ?_
  refine tt ?_
  repeat (first | (with_reducible intro _) | (with_reducible refine and_i ?_ ?_; exact ss))
  refine cS (lazarettoref12_sets_r_ok _ _ _ hr_6) ?_
  refine fv hf3 F (fun hf3 _ F => ?_) (fun hf3 _ F => ?_)
  cases hf3
  obtain rfl := sr ho3
  try dsimp only at h
  cases h
  exact fin
  cases hf3
  refine tt ?_
  refine wn i_1 F fun F => ?_
  exact bk ih3 ho3 ()
  refine fi hf3 F (fun hf3 _ F => ?_) (fun hf3 _ F => ?_)
  refine tt ?_
  refine fi hf3 F (fun hf3 _ F => ?_) (fun hf3 _ F => ?_)
  cases hf3
  obtain rfl := sr ho3
  try dsimp only at h
  cases h
  exact fin
  refine bi hf3 fun r_7 hf3 hr_7 => ?_
  refine tt ?_
  repeat (first | (with_reducible intro _) | (with_reducible refine and_i ?_ ?_; exact ss))
  refine cS (lazarettoref12_sets_r_ok _ _ _ hr_7) ?_
  refine fv hf3 F (fun hf3 _ F => ?_) (fun hf3 _ F => ?_)
  cases hf3
  obtain rfl := sr ho3
  try dsimp only at h
  cases h
  exact fin
  refine bi hf3 fun r_8 hf3 hr_8 => ?_
  refine tt ?_
  repeat (first | (with_reducible intro _) | (with_reducible refine and_i ?_ ?_; exact ss))
  refine cS (lazarettoref12_sets_r_ok _ _ _ hr_8) ?_
  refine fv hf3 F (fun hf3 _ F => ?_) (fun hf3 _ F => ?_)
  cases hf3
  obtain rfl := sr ho3
  try dsimp only at h
  cases h
  exact fin
  cases hf3
  refine tt ?_
  refine wn i_1 F fun F => ?_
  exact bk ih3 ho3 ()
  refine bi hf3 fun r_9 hf3 hr_9 => ?_
  refine tt ?_
  repeat (first | (with_reducible intro _) | (with_reducible refine and_i ?_ ?_; exact ss))
  refine cS (lazarettoref12_sets_r_ok _ _ _ hr_9) ?_
  refine fv hf3 F (fun hf3 _ F => ?_) (fun hf3 _ F => ?_)
  cases hf3
  obtain rfl := sr ho3
  try dsimp only at h
  cases h
  exact fin
  refine bi hf3 fun r_10 hf3 hr_10 => ?_
  refine tt ?_
  repeat (first | (with_reducible intro _) | (with_reducible refine and_i ?_ ?_; exact ss))
  refine cS (lazarettoref12_sets_r_ok _ _ _ hr_10) ?_
  refine fv hf3 F (fun hf3 _ F => ?_) (fun hf3 _ F => ?_)
  cases hf3
  obtain rfl := sr ho3
  try dsimp only at h
  cases h
  exact fin
  cases hf3
  refine tt ?_
  refine wn i_1 F fun F => ?_
  exact bk ih3 ho3 ()
  cases hf3
  refine tt ?_
  exact xt ho3 af3 ()
theorem lazarettoref12_sets_g_ok (n : Nat) : (∀ (x0 : List api_Stmt) (x1 : Str) (r : Bool), (lazarettoref12_sets_g n) x0 x1 = some r → Pu Tryz.prog 100 [.one (.sl (x0.map e_api_Stmt)), .one (.str x1)] (.one (.bool r))) := by
  induction n with
  | zero => exact fun _ _ r h => (by cases h)
  | succ n ih =>
    have ih0 := ih
    exact fun _ _ r h => lazarettoref12_sets_b_ok ih0 h
theorem lazarettoref12_sets_ok {l : List api_Stmt} {name : Str} {r : Bool} (h : lazarettoref12_sets l name = some r) : Pu Tryz.prog 100 [.one (.sl (l.map e_api_Stmt)), .one (.str name)] (.one (.bool r)) := (lazarettoref12_sets_g_ok 1000000) _ _ _ h
theorem lazarettoref12_loop_ok {p : api_Program} {s : api_Stmt} {r : Bool} (h : lazarettoref12_loop p s = some r) :
    Pu Tryz.prog 61 [.agg (e_api_Program p), .agg (e_api_Stmt s)] (.one (.bool r)) := by
  have F := trivial; have R := trivial
  refine pA Tryz.func61 ?_
  simp only [Tryz.f61]
  unfold lazarettoref12_loop at h
  refine bi h fun r_1 h hr_1 => ?_
  refine tt ?_
  repeat (first | (with_reducible intro _) | (with_reducible refine and_i ?_ ?_; exact ss))
  refine cS (lazarettoref10_Var_ok hr_1) ?_
  refine fi h F (fun h _ F => ?_) (fun h _ F => ?_)
  cases h; exact fin
  refine by_ h F fun x_2 h hx_2 F => ?_
  refine tt ?_
  repeat (first | (with_reducible intro _) | (with_reducible refine and_i ?_ ?_; exact ss))
  refine fi h F (fun h _ F => ?_) (fun h _ F => ?_)
  refine fi h F (fun h _ F => ?_) (fun h _ F => ?_)
  refine tt ?_
  refine fi h F (fun h _ F => ?_) (fun h _ F => ?_)
  refine bx h F fun x_3 h hx_3 F => ?_
  refine bi h fun r_4 h hr_4 => ?_
  refine tt ?_
  repeat (first | (with_reducible intro _) | (with_reducible refine and_i ?_ ?_; exact ss))
  refine cD (lazarettoref12_Expr_ok hr_4) ?_
  refine tt ?_
  repeat (first | (with_reducible intro _) | (with_reducible refine and_i ?_ ?_; exact ss))
  refine fi h F (fun h _ F => ?_) (fun h _ F => ?_)
  refine bx h F fun x_5 h hx_5 F => ?_
  refine bi h fun r_6 h hr_6 => ?_
  refine tt ?_
  repeat (first | (with_reducible intro _) | (with_reducible refine and_i ?_ ?_; exact ss))
  refine cD (lazarettoref12_Expr_ok hr_6) ?_
  refine tt ?_
  repeat (first | (with_reducible intro _) | (with_reducible refine and_i ?_ ?_; exact ss))
  refine fi h F (fun h _ F => ?_) (fun h _ F => ?_)
  refine bi h fun r_7 h hr_7 => ?_
  refine tt ?_
  repeat (first | (with_reducible intro _) | (with_reducible refine and_i ?_ ?_; exact ss))
  refine cD (lazarettoref12_sets_ok hr_7) ?_
  cases h; exact fin
  cases h; exact fin
  cases h; exact fin
  refine fi h F (fun h _ F => ?_) (fun h _ F => ?_)
  refine bx h F fun x_8 h hx_8 F => ?_
  refine bi h fun r_9 h hr_9 => ?_
  refine tt ?_
  repeat (first | (with_reducible intro _) | (with_reducible refine and_i ?_ ?_; exact ss))
  refine cD (lazarettoref12_Expr_ok hr_9) ?_
  refine tt ?_
  repeat (first | (with_reducible intro _) | (with_reducible refine and_i ?_ ?_; exact ss))
  refine fi h F (fun h _ F => ?_) (fun h _ F => ?_)
  refine bx h F fun x_10 h hx_10 F => ?_
  refine bi h fun r_11 h hr_11 => ?_
  refine tt ?_
  repeat (first | (with_reducible intro _) | (with_reducible refine and_i ?_ ?_; exact ss))
  refine cD (lazarettoref12_Expr_ok hr_11) ?_
  refine tt ?_
  repeat (first | (with_reducible intro _) | (with_reducible refine and_i ?_ ?_; exact ss))
  refine fi h F (fun h _ F => ?_) (fun h _ F => ?_)
  refine bi h fun r_12 h hr_12 => ?_
  refine tt ?_
  repeat (first | (with_reducible intro _) | (with_reducible refine and_i ?_ ?_; exact ss))
  refine cD (lazarettoref12_sets_ok hr_12) ?_
  cases h; exact fin
  cases h; exact fin
  cases h; exact fin
  cases h; exact fin
  cases h; exact fin
  cases h; exact fin
theorem lazarettoref11_Inputs_ok {kind : Str} {r : List Int} (h : lazarettoref11_Inputs kind = some r) :
    Pu Tryz.prog 32 [.one (.str kind)] (.one (.sl (r.map eI))) := by
  have F := trivial; have R := trivial
  refine pA Tryz.func32 ?_
  simp only [Tryz.f32]
  unfold lazarettoref11_Inputs at h
  refine fi h F (fun h _ F => ?_) (fun h _ F => ?_)
  cases h; exact fin
  refine fi h F (fun h _ F => ?_) (fun h _ F => ?_)
  cases h; exact fin
  refine tt ?_
  refine fi h F (fun h _ F => ?_) (fun h _ F => ?_)
  cases h; exact fin
  refine fi h F (fun h _ F => ?_) (fun h _ F => ?_)
  cases h; exact fin
  refine fi h F (fun h _ F => ?_) (fun h _ F => ?_)
  cases h; exact fin
  refine fi h F (fun h _ F => ?_) (fun h _ F => ?_)
  cases h; exact fin
  refine tt ?_
  refine fi h F (fun h _ F => ?_) (fun h _ F => ?_)
  cases h; exact fin
  refine fi h F (fun h _ F => ?_) (fun h _ F => ?_)
  cases h; exact fin
  refine fi h F (fun h _ F => ?_) (fun h _ F => ?_)
  cases h; exact fin
  refine fi h F (fun h _ F => ?_) (fun h _ F => ?_)
  cases h; exact fin
  cases h; exact fin
theorem lazarettoref12_call_ok {p : api_Program} {s : api_Stmt} {r : Bool} (h : lazarettoref12_call p s = some r) :
    Pu Tryz.prog 62 [.agg (e_api_Program p), .agg (e_api_Stmt s)] (.one (.bool r)) := by
  have F := trivial; have R := trivial
  refine pA Tryz.func62 ?_
  simp only [Tryz.f62]
  unfold lazarettoref12_call at h
  refine bi h fun r_1 h hr_1 => ?_
  refine tt ?_
  repeat (first | (with_reducible intro _) | (with_reducible refine and_i ?_ ?_; exact ss))
  refine cS (lazarettoref10_Block_ok hr_1) ?_
  refine fi h F (fun h _ F => ?_) (fun h _ F => ?_)
  cases h; exact fin
  refine by_ h F fun x_2 h hx_2 F => ?_
  refine bi h fun r_3 h hr_3 => ?_
  refine tt ?_
  repeat (first | (with_reducible intro _) | (with_reducible refine and_i ?_ ?_; exact ss))
  refine cS (lazarettoref11_Inputs_ok hr_3) ?_
  refine tt ?_
  repeat (first | (with_reducible intro _) | (with_reducible refine and_i ?_ ?_; exact ss))
  refine fi h F (fun h _ F => ?_) (fun h _ F => ?_)
  refine bi h fun e_5 h he_5 => ?_
  refine tt ?_
  refine lE (fun (s__ : Nat) (a__ : Unit) => match s__, a__ with | n_4, _ => ⟨[(2, .one (.ref 0 0 0 0)), (3, .one (.ref 1 0 0 0)), (6, .one (.sl (r_3.map eI))), (7, .one (.int .i64 (n_4 : Int)))], [.cells 0 6 [[.sl (p.Lattice.Names.map eS), .sl (p.Lattice.Below.map (eA2 eI)), .sl (p.Sites.map e_api_Site), .sl (p.Vars.map e_api_Var), .sl (p.Blocks.map e_api_Block), .sl (p.Tasks.map e_api_Task)]], .cells 0 15 [[.int .i64 s.Kind, .str s.Name, .int .i64 s.Target.Op, .int .i64 s.Target.N, .int .i64 s.Target.Kind, .str s.Target.Name, .sl (s.Target.Args.map e_api_Expr), .int .i64 s.Value.Op, .int .i64 s.Value.N, .int .i64 s.Value.Kind, .str s.Value.Name, .sl (s.Value.Args.map e_api_Expr), .sl (s.Args.map e_api_Expr), .sl (s.Body.map e_api_Stmt), .sl (s.Else.map e_api_Stmt)]]]⟩) (fun (e__ : Bool ⊕ Unit) (b__ : Unit) => match e__, b__ with | (.inl e_10), _ => ⟨[], []⟩ | (.inr ()), _ => ⟨[], [.cells 0 6 [[.sl (p.Lattice.Names.map eS), .sl (p.Lattice.Below.map (eA2 eI)), .sl (p.Sites.map e_api_Site), .sl (p.Vars.map e_api_Var), .sl (p.Blocks.map e_api_Block), .sl (p.Tasks.map e_api_Task)]], .cells 0 15 [[.int .i64 s.Kind, .str s.Name, .int .i64 s.Target.Op, .int .i64 s.Target.N, .int .i64 s.Target.Kind, .str s.Target.Name, .sl (s.Target.Args.map e_api_Expr), .int .i64 s.Value.Op, .int .i64 s.Value.N, .int .i64 s.Value.Kind, .str s.Value.Name, .sl (s.Value.Args.map e_api_Expr), .sl (s.Args.map e_api_Expr), .sl (s.Body.map e_api_Stmt), .sl (s.Else.map e_api_Stmt)]]]⟩) (fun (e__ : Bool ⊕ Unit) => match e__ with | (.inl _) => none | (.inr _) => some 0) () he_5 ?_ ?_
  intro i6 b6 hi6
  rcases e_5 with e_case | ⟨⟩
  cases hi6
  obtain rfl := Option.some.inj hi6
  obtain ⟨⟩ := b6
  dsimp only at h ⊢
  cases h; exact fin
  intro af6 m6 n_4 a6 o6 hf6 ho6 ih6
  obtain ⟨⟩ := a6
  dsimp only [lazarettoref12_call_L1] at hf6 ⊢
  refine tt ?_
  repeat (first | (with_reducible intro _) | (with_reducible refine and_i ?_ ?_; exact ss))
  refine fl hf6 F (fun hf6 _ F => ?_) (fun hf6 _ F => ?_)
  refine bx hf6 F fun x_7 hf6 hx_7 F => ?_
  refine bi hf6 fun r_8 hf6 hr_8 => ?_
  refine tt ?_
  repeat (first | (with_reducible intro _) | (with_reducible refine and_i ?_ ?_; exact ss))
  refine cD (lazarettoref12_Expr_ok hr_8) ?_
  refine bx hf6 F fun x_9 hf6 hx_9 F => ?_
  refine tt ?_
  repeat (first | (with_reducible intro _) | (with_reducible refine and_i ?_ ?_; exact ss))
  refine fi hf6 F (fun hf6 _ F => ?_) (fun hf6 _ F => ?_)
  cases hf6
  refine tt ?_
  refine wn n_4 F fun F => ?_
  exact bk ih6 ho6 ()
  cases hf6
  obtain rfl := sr ho6
  try dsimp only at h
  cases h
  exact fin
  cases hf6
  refine tt ?_
  exact xt ho6 af6 ()
  cases h; exact fin
theorem lazarettoref12_one_ok {p : api_Program} {s : api_Stmt} {r : Bool} (h : lazarettoref12_one p s = some r) :
    Pu Tryz.prog 36 [.agg (e_api_Program p), .agg (e_api_Stmt s)] (.one (.bool r)) := by
  have F := trivial; have R := trivial
  refine pA Tryz.func36 ?_
  simp only [Tryz.f36]
  unfold lazarettoref12_one at h
  refine tt ?_
  refine fi h F (fun h _ F => ?_) (fun h _ F => ?_)
  refine bi h fun r_1 h hr_1 => ?_
  refine tt ?_
  repeat (first | (with_reducible intro _) | (with_reducible refine and_i ?_ ?_; exact ss))
  refine cS (lazarettoref10_Var_ok hr_1) ?_
  refine bi h fun r_2 h hr_2 => ?_
  refine tt ?_
  repeat (first | (with_reducible intro _) | (with_reducible refine and_i ?_ ?_; exact ss))
  refine cS (lazarettoref12_Expr_ok hr_2) ?_
  refine fi h F (fun h _ F => ?_) (fun h _ F => ?_)
  refine by_ h F fun x_3 h hx_3 F => ?_
  refine tt ?_
  repeat (first | (with_reducible intro _) | (with_reducible refine and_i ?_ ?_; exact ss))
  refine fi h F (fun h _ F => ?_) (fun h _ F => ?_)
  cases h; exact fin
  refine fi h F (fun h _ F => ?_) (fun h _ F => ?_)
  cases h; exact fin
  refine bi h fun r_4 h hr_4 => ?_
  refine tt ?_
  repeat (first | (with_reducible intro _) | (with_reducible refine and_i ?_ ?_; exact ss))
  refine cS (lazarettoref12_Expr_ok hr_4) ?_
  cases h; exact fin
  cases h; exact fin
  refine fi h F (fun h _ F => ?_) (fun h _ F => ?_)
  refine bi h fun r_5 h hr_5 => ?_
  refine tt ?_
  repeat (first | (with_reducible intro _) | (with_reducible refine and_i ?_ ?_; exact ss))
  refine cS (lazarettoref12_Expr_ok hr_5) ?_
  cases h; exact fin
  refine fi h F (fun h _ F => ?_) (fun h _ F => ?_)
  refine bi h fun r_6 h hr_6 => ?_
  refine tt ?_
  repeat (first | (with_reducible intro _) | (with_reducible refine and_i ?_ ?_; exact ss))
  refine cS (lazarettoref12_Expr_ok hr_6) ?_
  cases h; exact fin
  refine fi h F (fun h _ F => ?_) (fun h _ F => ?_)
  refine bi h fun r_7 h hr_7 => ?_
  refine tt ?_
  repeat (first | (with_reducible intro _) | (with_reducible refine and_i ?_ ?_; exact ss))
  refine cS (lazarettoref12_loop_ok hr_7) ?_
  cases h; exact fin
  refine bi h fun r_8 h hr_8 => ?_
  refine tt ?_
  repeat (first | (with_reducible intro _) | (with_reducible refine and_i ?_ ?_; exact ss))
  refine cS (lazarettoref12_call_ok hr_8) ?_
  cases h; exact fin
theorem lazarettoref12_Stmts_b_ok {lazarettoref12_Stmts_r : api_Program → (List api_Stmt) → Option Bool} {p : api_Program} {l : List api_Stmt} {r : Bool}
    (lazarettoref12_Stmts_r_ok : ∀ (x0 : api_Program) (x1 : List api_Stmt) (r : Bool), lazarettoref12_Stmts_r x0 x1 = some r → Pu Tryz.prog 12 [.agg (e_api_Program x0), .one (.sl (x1.map e_api_Stmt))] (.one (.bool r))) (h : lazarettoref12_Stmts_b lazarettoref12_Stmts_r p l = some r) :
    Pu Tryz.prog 12 [.agg (e_api_Program p), .one (.sl (l.map e_api_Stmt))] (.one (.bool r)) := by
  have F := trivial; have R := trivial
  refine pA Tryz.func12 ?_
  simp only [Tryz.f12]
  unfold lazarettoref12_Stmts_b at h
  refine bi h fun e_2 h he_2 => ?_
  refine tt ?_
  refine lE (fun (s__ : Nat) (a__ : Unit) => match s__, a__ with | i_1, _ => ⟨[(1, .one (.sl (l.map e_api_Stmt))), (2, .one (.ref 0 0 0 0)), (5, .one (.int .i64 (i_1 : Int)))], [.cells 0 6 [[.sl (p.Lattice.Names.map eS), .sl (p.Lattice.Below.map (eA2 eI)), .sl (p.Sites.map e_api_Site), .sl (p.Vars.map e_api_Var), .sl (p.Blocks.map e_api_Block), .sl (p.Tasks.map e_api_Task)]]]⟩) (fun (e__ : Bool ⊕ Unit) (b__ : Unit) => match e__, b__ with | (.inl e_8), _ => ⟨[], []⟩ | (.inr ()), _ => ⟨[], [.cells 0 6 [[.sl (p.Lattice.Names.map eS), .sl (p.Lattice.Below.map (eA2 eI)), .sl (p.Sites.map e_api_Site), .sl (p.Vars.map e_api_Var), .sl (p.Blocks.map e_api_Block), .sl (p.Tasks.map e_api_Task)]]]⟩) (fun (e__ : Bool ⊕ Unit) => match e__ with | (.inl _) => none | (.inr _) => some 0) () he_2 ?_ ?_
  intro i3 b3 hi3
  rcases e_2 with e_case | ⟨⟩
  cases hi3
  obtain rfl := Option.some.inj hi3
  obtain ⟨⟩ := b3
  dsimp only at h ⊢
  cases h; exact fin
  intro af3 m3 i_1 a3 o3 hf3 ho3 ih3
  obtain ⟨⟩ := a3
  dsimp only [lazarettoref12_Stmts_L1] at hf3 ⊢
  refine tt ?_
  repeat (first | (with_reducible intro _) | (with_reducible refine and_i ?_ ?_; exact ss))
  refine fl hf3 F (fun hf3 _ F => ?_) (fun hf3 _ F => ?_)
  refine bx hf3 F fun x_4 hf3 hx_4 F => ?_
  refine bi hf3 fun r_5 hf3 hr_5 => ?_
  refine tt ?_
  repeat (first | (with_reducible intro _) | (with_reducible refine and_i ?_ ?_; exact ss))
  refine cD (lazarettoref12_one_ok hr_5) ?_
  refine tt ?_
  repeat (first | (with_reducible intro _) | (with_reducible refine and_i ?_ ?_; exact ss))
  refine fv hf3 F (fun hf3 _ F => ?_) (fun hf3 _ F => ?_)
  refine bi hf3 fun r_6 hf3 hr_6 => ?_
  refine tt ?_
  repeat (first | (with_reducible intro _) | (with_reducible refine and_i ?_ ?_; exact ss))
  refine cD (lazarettoref12_Stmts_r_ok _ _ _ hr_6) ?_
  refine tt ?_
  repeat (first | (with_reducible intro _) | (with_reducible refine and_i ?_ ?_; exact ss))
  refine fv hf3 F (fun hf3 _ F => ?_) (fun hf3 _ F => ?_)
  refine bi hf3 fun r_7 hf3 hr_7 => ?_
  refine tt ?_
  repeat (first | (with_reducible intro _) | (with_reducible refine and_i ?_ ?_; exact ss))
  refine cD (lazarettoref12_Stmts_r_ok _ _ _ hr_7) ?_
  refine tt ?_
  repeat (first | (with_reducible intro _) | (with_reducible refine and_i ?_ ?_; exact ss))
  refine fv hf3 F (fun hf3 _ F => ?_) (fun hf3 _ F => ?_)
  cases hf3
  refine tt ?_
  refine wn i_1 F fun F => ?_
  exact bk ih3 ho3 ()
  cases hf3
  obtain rfl := sr ho3
  try dsimp only at h
  cases h
  exact fin
  cases hf3
  obtain rfl := sr ho3
  try dsimp only at h
  cases h
  exact fin
  cases hf3
  obtain rfl := sr ho3
  try dsimp only at h
  cases h
  exact fin
  cases hf3
  refine tt ?_
  exact xt ho3 af3 ()
theorem lazarettoref12_Stmts_g_ok (n : Nat) : (∀ (x0 : api_Program) (x1 : List api_Stmt) (r : Bool), (lazarettoref12_Stmts_g n) x0 x1 = some r → Pu Tryz.prog 12 [.agg (e_api_Program x0), .one (.sl (x1.map e_api_Stmt))] (.one (.bool r))) := by
  induction n with
  | zero => exact fun _ _ r h => (by cases h)
  | succ n ih =>
    have ih0 := ih
    exact fun _ _ r h => lazarettoref12_Stmts_b_ok ih0 h
theorem lazarettoref12_Stmts_ok {p : api_Program} {l : List api_Stmt} {r : Bool} (h : lazarettoref12_Stmts p l = some r) : Pu Tryz.prog 12 [.agg (e_api_Program p), .one (.sl (l.map e_api_Stmt))] (.one (.bool r)) := (lazarettoref12_Stmts_g_ok 1000000) _ _ _ h
theorem lazarettoref12_Check_ok {p : api_Program} {r : Int} (h : lazarettoref12_Check p = some r) :
    Pu Tryz.prog 10 [.agg (e_api_Program p)] (.one (.int .i64 r)) := by
  have F := trivial; have R := trivial
  refine pA Tryz.func10 ?_
  simp only [Tryz.f10]
  unfold lazarettoref12_Check at h
  refine bi h fun e_2 h he_2 => ?_
  refine tt ?_
  refine lE (fun (s__ : Nat) (a__ : Unit) => match s__, a__ with | i_1, _ => ⟨[(1, .one (.ref 0 0 0 0)), (3, .one (.int .i64 (i_1 : Int)))], [.cells 0 6 [[.sl (p.Lattice.Names.map eS), .sl (p.Lattice.Below.map (eA2 eI)), .sl (p.Sites.map e_api_Site), .sl (p.Vars.map e_api_Var), .sl (p.Blocks.map e_api_Block), .sl (p.Tasks.map e_api_Task)]]]⟩) (fun (e__ : Int ⊕ Unit) (b__ : Unit) => match e__, b__ with | (.inl e_8), _ => ⟨[], []⟩ | (.inr ()), _ => ⟨[(1, .one (.ref 0 0 0 0))], [.cells 0 6 [[.sl (p.Lattice.Names.map eS), .sl (p.Lattice.Below.map (eA2 eI)), .sl (p.Sites.map e_api_Site), .sl (p.Vars.map e_api_Var), .sl (p.Blocks.map e_api_Block), .sl (p.Tasks.map e_api_Task)]]]⟩) (fun (e__ : Int ⊕ Unit) => match e__ with | (.inl _) => none | (.inr _) => some 0) () he_2 ?_ ?_
  intro i3 b3 hi3
  rcases e_2 with e_case | ⟨⟩
  cases hi3
  obtain rfl := Option.some.inj hi3
  obtain ⟨⟩ := b3
  dsimp only at h ⊢
  refine bi h fun e_10 h he_10 => ?_
  refine tt ?_
  refine lE (fun (s__ : Nat) (a__ : Unit) => match s__, a__ with | i_9, _ => ⟨[(1, .one (.ref 0 0 0 0)), (5, .one (.int .i64 (i_9 : Int)))], [.cells 0 6 [[.sl (p.Lattice.Names.map eS), .sl (p.Lattice.Below.map (eA2 eI)), .sl (p.Sites.map e_api_Site), .sl (p.Vars.map e_api_Var), .sl (p.Blocks.map e_api_Block), .sl (p.Tasks.map e_api_Task)]]]⟩) (fun (e__ : Int ⊕ Unit) (b__ : Unit) => match e__, b__ with | (.inl e_14), _ => ⟨[], []⟩ | (.inr ()), _ => ⟨[(1, .one (.ref 0 0 0 0))], [.cells 0 6 [[.sl (p.Lattice.Names.map eS), .sl (p.Lattice.Below.map (eA2 eI)), .sl (p.Sites.map e_api_Site), .sl (p.Vars.map e_api_Var), .sl (p.Blocks.map e_api_Block), .sl (p.Tasks.map e_api_Task)]]]⟩) (fun (e__ : Int ⊕ Unit) => match e__ with | (.inl _) => none | (.inr _) => some 2) () he_10 ?_ ?_
  intro i11 b11 hi11
  rcases e_10 with e_case | ⟨⟩
  cases hi11
  obtain rfl := Option.some.inj hi11
  obtain ⟨⟩ := b11
  dsimp only at h ⊢
  refine bi h fun e_16 h he_16 => ?_
  refine tt ?_
  refine lE (fun (s__ : Nat) (a__ : Unit) => match s__, a__ with | i_15, _ => ⟨[(1, .one (.ref 0 0 0 0)), (6, .one (.int .i64 (i_15 : Int)))], [.cells 0 6 [[.sl (p.Lattice.Names.map eS), .sl (p.Lattice.Below.map (eA2 eI)), .sl (p.Sites.map e_api_Site), .sl (p.Vars.map e_api_Var), .sl (p.Blocks.map e_api_Block), .sl (p.Tasks.map e_api_Task)]]]⟩) (fun (e__ : Int ⊕ Unit) (b__ : Unit) => match e__, b__ with | (.inl e_20), _ => ⟨[], []⟩ | (.inr ()), _ => ⟨[], [.cells 0 6 [[.sl (p.Lattice.Names.map eS), .sl (p.Lattice.Below.map (eA2 eI)), .sl (p.Sites.map e_api_Site), .sl (p.Vars.map e_api_Var), .sl (p.Blocks.map e_api_Block), .sl (p.Tasks.map e_api_Task)]]]⟩) (fun (e__ : Int ⊕ Unit) => match e__ with | (.inl _) => none | (.inr _) => some 4) () he_16 ?_ ?_
  intro i17 b17 hi17
  rcases e_16 with e_case | ⟨⟩
  cases hi17
  obtain rfl := Option.some.inj hi17
  obtain ⟨⟩ := b17
  dsimp only at h ⊢
  cases h; exact fin
  intro af17 m17 i_15 a17 o17 hf17 ho17 ih17
  obtain ⟨⟩ := a17
  dsimp only [lazarettoref12_Check_L3] at hf17 ⊢
  refine tt ?_
  repeat (first | (with_reducible intro _) | (with_reducible refine and_i ?_ ?_; exact ss))
  refine fl hf17 F (fun hf17 _ F => ?_) (fun hf17 _ F => ?_)
  refine bx hf17 F fun x_18 hf17 hx_18 F => ?_
  refine bi hf17 fun r_19 hf17 hr_19 => ?_
  refine tt ?_
  repeat (first | (with_reducible intro _) | (with_reducible refine and_i ?_ ?_; exact ss))
  refine cD (lazarettoref12_Stmts_ok hr_19) ?_
  refine tt ?_
  repeat (first | (with_reducible intro _) | (with_reducible refine and_i ?_ ?_; exact ss))
  refine fv hf17 F (fun hf17 _ F => ?_) (fun hf17 _ F => ?_)
  cases hf17
  refine tt ?_
  refine wn i_15 F fun F => ?_
  exact bk ih17 ho17 ()
  cases hf17
  obtain rfl := sr ho17
  try dsimp only at h
  cases h
  exact fin
  cases hf17
  refine tt ?_
  exact xt ho17 af17 ()
  intro af11 m11 i_9 a11 o11 hf11 ho11 ih11
  obtain ⟨⟩ := a11
  dsimp only [lazarettoref12_Check_L2] at hf11 ⊢
  refine tt ?_
  repeat (first | (with_reducible intro _) | (with_reducible refine and_i ?_ ?_; exact ss))
  refine fl hf11 F (fun hf11 _ F => ?_) (fun hf11 _ F => ?_)
  refine bx hf11 F fun x_12 hf11 hx_12 F => ?_
  refine bi hf11 fun r_13 hf11 hr_13 => ?_
  refine tt ?_
  repeat (first | (with_reducible intro _) | (with_reducible refine and_i ?_ ?_; exact ss))
  refine cS (lazarettoref11_Inputs_ok hr_13) ?_
  refine tt ?_
  repeat (first | (with_reducible intro _) | (with_reducible refine and_i ?_ ?_; exact ss))
  refine fi hf11 F (fun hf11 _ F => ?_) (fun hf11 _ F => ?_)
  cases hf11
  obtain rfl := sr ho11
  try dsimp only at h
  cases h
  exact fin
  cases hf11
  refine tt ?_
  refine wn i_9 F fun F => ?_
  exact bk ih11 ho11 ()
  cases hf11
  refine tt ?_
  exact xt ho11 af11 ()
  intro af3 m3 i_1 a3 o3 hf3 ho3 ih3
  obtain ⟨⟩ := a3
  dsimp only [lazarettoref12_Check_L1] at hf3 ⊢
  refine tt ?_
  repeat (first | (with_reducible intro _) | (with_reducible refine and_i ?_ ?_; exact ss))
  refine fl hf3 F (fun hf3 _ F => ?_) (fun hf3 _ F => ?_)
  refine bx hf3 F fun x_4 hf3 hx_4 F => ?_
  refine bi hf3 fun r_5 hf3 hr_5 => ?_
  refine tt ?_
  repeat (first | (with_reducible intro _) | (with_reducible refine and_i ?_ ?_; exact ss))
  refine cS (lazarettoref04_Check_ok hr_5) ?_
  refine fi hf3 F (fun hf3 _ F => ?_) (fun hf3 _ F => ?_)
  refine fi hf3 F (fun hf3 _ F => ?_) (fun hf3 _ F => ?_)
  refine bi hf3 fun r_6 hf3 hr_6 => ?_
  refine tt ?_
  repeat (first | (with_reducible intro _) | (with_reducible refine and_i ?_ ?_; exact ss))
  refine cS (lazarettoref03_Valid_ok hr_6) ?_
  refine fv hf3 F (fun hf3 _ F => ?_) (fun hf3 _ F => ?_)
  cases hf3
  refine tt ?_
  refine wn i_1 F fun F => ?_
  exact bk ih3 ho3 ()
  cases hf3
  obtain rfl := sr ho3
  try dsimp only at h
  cases h
  exact fin
  refine tt ?_
  refine fi hf3 F (fun hf3 _ F => ?_) (fun hf3 _ F => ?_)
  refine bi hf3 fun r_7 hf3 hr_7 => ?_
  refine tt ?_
  repeat (first | (with_reducible intro _) | (with_reducible refine and_i ?_ ?_; exact ss))
  refine cS (lazarettoref03_Valid_ok hr_7) ?_
  refine fv hf3 F (fun hf3 _ F => ?_) (fun hf3 _ F => ?_)
  cases hf3
  refine tt ?_
  refine wn i_1 F fun F => ?_
  exact bk ih3 ho3 ()
  cases hf3
  obtain rfl := sr ho3
  try dsimp only at h
  cases h
  exact fin
  cases hf3
  obtain rfl := sr ho3
  try dsimp only at h
  cases h
  exact fin
  cases hf3
  obtain rfl := sr ho3
  try dsimp only at h
  cases h
  exact fin
  cases hf3
  refine tt ?_
  exact xt ho3 af3 ()
end Go.Lz
