/- V18a -/
import Derived.Test.YtakkdadfikcpoaaGreatV17
namespace Go.Lz
set_option linter.unusedVariables false
set_option linter.unusedSimpArgs false
open Go.Proofs
attribute [-go_sem] q_cond g_b gd_b
set_option maxRecDepth 100000
set_option maxHeartbeats 4000000
noncomputable section
def slices_IndexFunc_string_string_L1 (s : List Str) (f : (Str → Option Bool)) : Nat → Option ((Nat) ⊕ (Int ⊕ Unit))
  | x_1 => if (x_1 : Int) < (s.length : Int) then ((s[x_1]?).bind fun x_4 => (f x_4).bind fun r_5 => if r_5 = true then (some (.inr (.inl ((x_1 : Int))))) else (some (.inl (x_1 + 1)))) else (some (.inr (.inr (()))))
def slices_IndexFunc_string_string (s : List Str) (f : (Str → Option Bool)) : Option Int :=
  (loop (slices_IndexFunc_string_string_L1 s f) 0).bind (fun e__ => match e__ with | (.inl e_6) => some e_6 | (.inr ()) => some (-1))
def slices_ContainsFunc_string_string (s : List Str) (f : (Str → Option Bool)) : Option Bool :=
  (slices_IndexFunc_string_string s f).bind fun r_1 => some (decide (0 ≤ r_1))
def image_small_1 (s : Str) : Option Bool :=
  some (decide (32 < (s.length : Int)))
def slices_IndexFunc__LL_api_Ins_api_Ins_L1 (s : List (List api_Ins)) (f : ((List api_Ins) → Option Bool)) : Nat → Option ((Nat) ⊕ (Int ⊕ Unit))
  | x_1 => if (x_1 : Int) < (s.length : Int) then ((s[x_1]?).bind fun x_4 => (f x_4).bind fun r_5 => if r_5 = true then (some (.inr (.inl ((x_1 : Int))))) else (some (.inl (x_1 + 1)))) else (some (.inr (.inr (()))))
def slices_IndexFunc__LL_api_Ins_api_Ins (s : List (List api_Ins)) (f : ((List api_Ins) → Option Bool)) : Option Int :=
  (loop (slices_IndexFunc__LL_api_Ins_api_Ins_L1 s f) 0).bind (fun e__ => match e__ with | (.inl e_6) => some e_6 | (.inr ()) => some (-1))
def slices_ContainsFunc__LL_api_Ins_api_Ins (s : List (List api_Ins)) (f : ((List api_Ins) → Option Bool)) : Option Bool :=
  (slices_IndexFunc__LL_api_Ins_api_Ins s f).bind fun r_1 => some (decide (0 ≤ r_1))
def image_small_2 (c : List api_Ins) : Option Bool :=
  some (decide (32768 < (c.length : Int)))
def image_small (m : api_Image) : Option Bool :=
  if 8 < (m.Lattice.Names.length : Int) then (some false) else (if 64 < (m.Lattice.Below.length : Int) then (some false) else (if 8 < (m.Sites.length : Int) then (some false) else (if 96 < (m.Vars.length : Int) then (some false) else (if 12 < (m.Blocks.length : Int) then (some false) else (if 4 < (m.Tasks.length : Int) then (some false) else ((slices_ContainsFunc_string_string m.Lattice.Names image_small_1).bind fun r_1 => if r_1 = true then (some false) else ((slices_ContainsFunc__LL_api_Ins_api_Ins m.Code image_small_2).bind fun r_2 => some (!r_2))))))))
def lattice_is (l : api_Lattice) (a : Int) : Option Bool :=
  if 0 ≤ a then (some (decide (a < (l.Names.length : Int)))) else (some false)
def lattice_above_L2 (l : api_Lattice) (x_9 : Int) : ((List Bool) × (List Int) × Nat) → Option (((List Bool) × (List Int) × Nat) ⊕ ((List Bool) × (List Int)))
  | (out_13, todo_15, x_17) => if (x_17 : Int) < (l.Below.length : Int) then ((l.Below[x_17]?).bind fun x_20 => if x_20.a0 = x_9 then ((lattice_is l x_20.a1).bind fun r_21 => if r_21 = true then ((idx out_13 x_20.a1).bind fun x_22 => if x_22 = true then (some (.inl (out_13, todo_15, (x_17 + 1)))) else (need ((todo_15.length + 1) * 8 ≤ 140737488355328) (some (.inl ((out_13.set x_20.a1.toNat true), (todo_15 ++ [x_20.a1]), (x_17 + 1)))))) else (some (.inl (out_13, todo_15, (x_17 + 1))))) else (some (.inl (out_13, todo_15, (x_17 + 1))))) else (some (.inr ((out_13, todo_15))))
def lattice_above_L1 (l : api_Lattice) : ((List Bool) × (List Int)) → Option (((List Bool) × (List Int)) ⊕ ((List Bool) × (List Int)))
  | (out_3, todo_5) => if 0 < (todo_5.length : Int) then ((todo_5[0]?).bind fun x_9 => need ((1 : Int) ≤ (todo_5.length : Int)) ((loop (lattice_above_L2 l x_9) (out_3, (todo_5.drop 1), 0)).bind (fun (out_24, todo_25) => some (.inl (out_24, todo_25))))) else (some (.inr ((out_3, todo_5))))
def lattice_above (l : api_Lattice) (a : Int) : Option (List Bool) :=
  need (0 ≤ (l.Names.length : Int) ∧ 1 * (l.Names.length : Int) ≤ 140737488355328) ((idx (List.replicate l.Names.length false) a).bind fun x_2 => (loop (lattice_above_L1 l) (((List.replicate l.Names.length false).set a.toNat true), [a])).bind (fun (out_28, todo_29) => some out_28))
def lattice_Leq (l : api_Lattice) (a : Int) (b : Int) : Option Bool :=
  (lattice_is l a).bind fun r_1 => if r_1 = true then ((lattice_is l b).bind fun r_2 => if r_2 = true then ((lattice_above l a).bind fun r_3 => (idx r_3 b).bind fun x_4 => some x_4) else (some false)) else (some false)
def lattice_best_L2 (l : api_Lattice) (of : (Int → Option Bool)) (ahead : (Int → Int → Option Bool)) (x_1 : Nat) : Nat → Option ((Nat) ⊕ (Unit ⊕ Unit))
  | x_5 => if (x_5 : Int) < (l.Names.length : Int) then ((of (x_5 : Int)).bind fun r_8 => if r_8 = true then ((ahead (x_1 : Int) (x_5 : Int)).bind fun r_9 => if r_9 = true then (some (.inl (x_5 + 1))) else (some (.inr (.inl (()))))) else (some (.inl (x_5 + 1)))) else (some (.inr (.inr (()))))
def lattice_best_L1 (l : api_Lattice) (of : (Int → Option Bool)) (ahead : (Int → Int → Option Bool)) : Nat → Option ((Nat) ⊕ (Int ⊕ Unit))
  | x_1 => if (x_1 : Int) < (l.Names.length : Int) then ((of (x_1 : Int)).bind fun r_4 => if r_4 = true then ((loop (lattice_best_L2 l of ahead x_1) 0).bind (fun e__ => match e__ with | (.inl ()) => some (.inl (x_1 + 1)) | (.inr ()) => some (.inr (.inl ((x_1 : Int)))))) else (some (.inl (x_1 + 1)))) else (some (.inr (.inr (()))))
def lattice_best (l : api_Lattice) (of : (Int → Option Bool)) (ahead : (Int → Int → Option Bool)) : Option Int :=
  (loop (lattice_best_L1 l of ahead) 0).bind (fun e__ => match e__ with | (.inl e_10) => some e_10 | (.inr ()) => some (-1))
def lattice_Join_1 (c0 : List Bool) (c1 : List Bool) (c : Int) : Option Bool :=
  (idx c0 c).bind fun x_1 => if x_1 = true then ((idx c1 c).bind fun x_2 => some x_2) else (some false)
def lattice_Join_2 (c0 : api_Lattice) (c : Int) (d : Int) : Option Bool :=
  (lattice_Leq c0 c d).bind fun r_1 => some r_1
def lattice_Join (l : api_Lattice) (a : Int) (b : Int) : Option Int :=
  (lattice_is l a).bind fun r_1 => if r_1 = true then ((lattice_is l b).bind fun r_2 => if r_2 = true then ((lattice_above l a).bind fun r_3 => (lattice_above l b).bind fun r_4 => (lattice_best l (lattice_Join_1 r_3 r_4) (lattice_Join_2 l)).bind fun r_5 => some r_5) else (some (-1))) else (some (-1))
def lattice_Meet_1 (c0 : api_Lattice) (c1 : Int) (c2 : Int) (c : Int) : Option Bool :=
  (lattice_Leq c0 c c1).bind fun r_1 => if r_1 = true then ((lattice_Leq c0 c c2).bind fun r_2 => some r_2) else (some false)
def lattice_Meet_2 (c0 : api_Lattice) (c : Int) (d : Int) : Option Bool :=
  (lattice_Leq c0 d c).bind fun r_1 => some r_1
def lattice_Meet (l : api_Lattice) (a : Int) (b : Int) : Option Int :=
  (lattice_is l a).bind fun r_1 => if r_1 = true then ((lattice_is l b).bind fun r_2 => if r_2 = true then ((lattice_best l (lattice_Meet_1 l a b) (lattice_Meet_2 l)).bind fun r_3 => some r_3) else (some (-1))) else (some (-1))
def lattice_Check_L3 (l : api_Lattice) (x_9 : Nat) : Nat → Option ((Nat) ⊕ (Int ⊕ Unit))
  | x_13 => if (x_13 : Int) < (x_9 : Int) then ((lattice_Leq l (x_9 : Int) (x_13 : Int)).bind fun r_16 => if r_16 = true then ((lattice_Leq l (x_13 : Int) (x_9 : Int)).bind fun r_17 => if r_17 = true then (some (.inr (.inl (4)))) else ((lattice_Join l (x_9 : Int) (x_13 : Int)).bind fun r_18 => if r_18 < 0 then (some (.inr (.inl (4)))) else ((lattice_Meet l (x_9 : Int) (x_13 : Int)).bind fun r_19 => if r_19 < 0 then (some (.inr (.inl (4)))) else (some (.inl (x_13 + 1)))))) else ((lattice_Join l (x_9 : Int) (x_13 : Int)).bind fun r_20 => if r_20 < 0 then (some (.inr (.inl (4)))) else ((lattice_Meet l (x_9 : Int) (x_13 : Int)).bind fun r_21 => if r_21 < 0 then (some (.inr (.inl (4)))) else (some (.inl (x_13 + 1)))))) else (some (.inr (.inr (()))))
def lattice_Check_L2 (l : api_Lattice) : ((List (Str × Bool)) × Nat) → Option (((List (Str × Bool)) × Nat) ⊕ (Int ⊕ (List (Str × Bool))))
  | (seen_8, x_9) => if (x_9 : Int) < (l.Names.length : Int) then ((l.Names[x_9]?).bind fun x_12 => if ((mget x_12 seen_8).getD false) = true then (some (.inr (.inl (4)))) else ((loop (lattice_Check_L3 l x_9) 0).bind (fun e__ => match e__ with | (.inl e_22) => some (.inr (.inl (e_22))) | (.inr ()) => some (.inl ((mset x_12 true seen_8), (x_9 + 1)))))) else (some (.inr (.inr (seen_8))))
def lattice_Check_L1 (l : api_Lattice) : Nat → Option ((Nat) ⊕ (Int ⊕ Unit))
  | x_1 => if (x_1 : Int) < (l.Below.length : Int) then ((l.Below[x_1]?).bind fun x_4 => (lattice_is l x_4.a0).bind fun r_5 => if r_5 = true then ((lattice_is l x_4.a1).bind fun r_6 => if r_6 = true then (some (.inl (x_1 + 1))) else (some (.inr (.inl (4))))) else (some (.inr (.inl (4))))) else (some (.inr (.inr (()))))
def lattice_Check (l : api_Lattice) : Option Int :=
  if (l.Names.length : Int) < 1 then (some 3) else (if 8 < (l.Names.length : Int) then (some 3) else ((loop (lattice_Check_L1 l) 0).bind (fun e__ => match e__ with | (.inl e_7) => some e_7 | (.inr ()) => (loop (lattice_Check_L2 l) ((mset [] true ([] : List (Str × Bool))), 0)).bind (fun e__ => match e__ with | (.inl e_23) => some e_23 | (.inr seen_24) => some 0))))
def image_label (m : api_Image) (n : Int) : Option Bool :=
  if 0 ≤ n then (some (decide (n < (m.Lattice.Names.length : Int)))) else (some false)
def ints_Bits (kind : Int) : Option Int :=
  if kind = 1 then (some 1) else (if kind = 2 then (some 16) else (if kind = 3 then (some 32) else (if kind = 4 then (some 32) else (some 0))))
def cells_Check (t : api_Type) : Option Int :=
  if (-32768) ≤ t.Low then ((ints_Bits t.Kind).bind fun r_1 => if r_1 = 0 then (some 6) else (if t.Len < 0 then (some 6) else (if 32 < t.Len then (some 6) else (if t.Low < 32768 then (if t.Len = 0 then (if t.Low = 0 then (some 0) else (some 6)) else (some 0)) else (some 6))))) else ((ints_Bits t.Kind).bind fun r_2 => if r_2 = 0 then (some 6) else (if t.Len < 0 then (some 6) else (if 32 < t.Len then (some 6) else (some 6))))
def ints_bit (b : Bool) : Option Int :=
  if b = true then (some 1) else (some 0)
def ints_Wrap (kind : Int) (n : Int) : Option Int :=
  some (wrapS kind n)
def ints_Valid (kind : Int) (n : Int) : Option Bool :=
  (ints_Bits kind).bind fun r_1 => if 0 < r_1 then ((ints_Wrap kind n).bind fun r_2 => some (decide (r_2 = n))) else (some false)
def image_variable (m : api_Image) (v : api_Var) : Option Bool :=
  if v.Name = [] then ((image_label m v.Label).bind fun r_1 => if r_1 = true then ((cells_Check v.Type_).bind fun r_2 => if r_2 = 0 then (if v.Mode = 0 then (some (decide (v.Safe = 0))) else (if v.Mode = 1 then (if v.Safe = 0 then (some (decide (v.Type_.Len = 0))) else (some false)) else (if v.Mode = 2 then (if v.Type_.Len = 0 then ((ints_Valid v.Type_.Kind v.Safe).bind fun r_3 => some r_3) else (some false)) else (some false)))) else (some false)) else (some false)) else (some false)
def blocks_since (now : Int) (from_ : Int) (most : Int) : Option Int :=
  if now ≤ from_ then (some 0) else (if most ≤ 0 then (some 0) else (if (IntKind.u64.wrap most) < (IntKind.u64.wrap ((IntKind.u64.wrap now) - (IntKind.u64.wrap from_))) then (some most) else (some (w64 (now - from_)))))
def blocks_bit (b : Bool) : Option Int :=
  if b = true then (some 1) else (some 0)
def blocks_ton (s : A4 Int) (in_ : List Int) (now : Int) : Option (A4 Int) :=
  (in_[0]?).bind fun x_1 => if x_1 = 0 then (some (⟨0, 0, s.a2, 0⟩ : A4 Int)) else (if s.a3 = 0 then ((in_[1]?).bind fun x_2 => (blocks_since now now x_2).bind fun r_3 => (blocks_bit (decide (x_2 ≤ r_3))).bind fun r_4 => some (⟨r_4, r_3, now, 1⟩ : A4 Int)) else ((in_[1]?).bind fun x_5 => (blocks_since now s.a2 x_5).bind fun r_6 => (blocks_bit (decide (x_5 ≤ r_6))).bind fun r_7 => some (⟨r_7, r_6, s.a2, 1⟩ : A4 Int)))
def blocks_run (s : A4 Int) (now : Int) (pt : Int) : Option (A4 Int) :=
  if s.a0 = 0 then (some s) else ((blocks_since now s.a2 pt).bind fun r_1 => if pt ≤ r_1 then (some (⟨0, r_1, s.a2, s.a3⟩ : A4 Int)) else (some (⟨s.a0, r_1, s.a2, s.a3⟩ : A4 Int)))
def blocks_tof (s : A4 Int) (in_ : List Int) (now : Int) : Option (A4 Int) :=
  (in_[0]?).bind fun x_1 => if x_1 = 1 then (some (⟨1, 0, s.a2, 1⟩ : A4 Int)) else (if s.a3 = 0 then ((in_[1]?).bind fun x_2 => (blocks_run (⟨s.a0, s.a1, s.a2, 0⟩ : A4 Int) now x_2).bind fun r_3 => some r_3) else ((in_[1]?).bind fun x_4 => (blocks_run (⟨s.a0, s.a1, now, 0⟩ : A4 Int) now x_4).bind fun r_5 => some r_5))
def blocks_tp (s : A4 Int) (in_ : List Int) (now : Int) : Option (A4 Int) :=
  (in_[1]?).bind fun x_1 => (blocks_run s now x_1).bind fun r_2 => (in_[0]?).bind fun x_3 => if x_3 = 1 then (if r_2.a3 = 0 then (if r_2.a0 = 0 then ((blocks_bit (decide (0 < x_1))).bind fun r_4 => if x_3 = 0 then none else (some (⟨r_4, 0, now, x_3⟩ : A4 Int))) else (if x_3 = 0 then none else (some (⟨r_2.a0, r_2.a1, r_2.a2, x_3⟩ : A4 Int)))) else (if x_3 = 0 then none else (some (⟨r_2.a0, r_2.a1, r_2.a2, x_3⟩ : A4 Int)))) else (if x_3 = 0 then (if r_2.a0 = 0 then (some (⟨r_2.a0, 0, r_2.a2, x_3⟩ : A4 Int)) else (some (⟨r_2.a0, r_2.a1, r_2.a2, x_3⟩ : A4 Int))) else (some (⟨r_2.a0, r_2.a1, r_2.a2, x_3⟩ : A4 Int)))
def blocks_up (n : Int) : Option Int :=
  if 32767 ≤ n then (some 32767) else (some (w64 (n + 1)))
def blocks_ctu (s : A4 Int) (in_ : List Int) (p2 : Int) : Option (A4 Int) :=
  (in_[1]?).bind fun x_1 => if x_1 = 1 then ((in_[2]?).bind fun x_2 => (blocks_bit (decide (x_2 ≤ 0))).bind fun r_3 => (in_[0]?).bind fun x_4 => some (⟨r_3, 0, s.a2, x_4⟩ : A4 Int)) else ((in_[0]?).bind fun x_5 => if x_5 = 1 then (if s.a3 = 0 then ((blocks_up s.a1).bind fun r_6 => (in_[2]?).bind fun x_7 => (blocks_bit (decide (x_7 ≤ r_6))).bind fun r_8 => some (⟨r_8, r_6, s.a2, x_5⟩ : A4 Int)) else ((in_[2]?).bind fun x_9 => (blocks_bit (decide (x_9 ≤ s.a1))).bind fun r_10 => some (⟨r_10, s.a1, s.a2, x_5⟩ : A4 Int))) else ((in_[2]?).bind fun x_11 => (blocks_bit (decide (x_11 ≤ s.a1))).bind fun r_12 => some (⟨r_12, s.a1, s.a2, x_5⟩ : A4 Int)))
def blocks_down (n : Int) : Option Int :=
  if n ≤ (-32768) then (some (-32768)) else (some (w64 (n - 1)))
def blocks_ctd (s : A4 Int) (in_ : List Int) (p2 : Int) : Option (A4 Int) :=
  (in_[1]?).bind fun x_1 => if x_1 = 1 then ((in_[2]?).bind fun x_2 => (blocks_bit (decide (x_2 ≤ 0))).bind fun r_3 => (in_[0]?).bind fun x_4 => some (⟨r_3, x_2, s.a2, x_4⟩ : A4 Int)) else ((in_[0]?).bind fun x_5 => if x_5 = 1 then (if s.a3 = 0 then ((blocks_down s.a1).bind fun r_6 => (blocks_bit (decide (r_6 ≤ 0))).bind fun r_7 => some (⟨r_7, r_6, s.a2, x_5⟩ : A4 Int)) else ((blocks_bit (decide (s.a1 ≤ 0))).bind fun r_8 => some (⟨r_8, s.a1, s.a2, x_5⟩ : A4 Int))) else ((blocks_bit (decide (s.a1 ≤ 0))).bind fun r_9 => some (⟨r_9, s.a1, s.a2, x_5⟩ : A4 Int)))
def blocks_ctud (s : A4 Int) (in_ : List Int) (p2 : Int) : Option (A4 Int) :=
  (in_[0]?).bind fun x_1 => if x_1 = 1 then ((in_[1]?).bind fun x_2 => if x_2 = 1 then ((in_[2]?).bind fun x_3 => if x_3 = 1 then ((in_[4]?).bind fun x_4 => some (⟨0, x_1, x_2, x_4⟩ : A4 Int)) else ((in_[3]?).bind fun x_5 => if x_5 = 1 then ((in_[4]?).bind fun x_6 => some (⟨x_6, x_1, x_2, x_6⟩ : A4 Int)) else (if ((decide (s.a1 = 0)) == (decide (s.a2 = 0))) = true then ((in_[4]?).bind fun x_7 => some (⟨s.a0, x_1, x_2, x_7⟩ : A4 Int)) else (if s.a1 = 0 then ((blocks_up s.a0).bind fun r_8 => (in_[4]?).bind fun x_9 => some (⟨r_8, x_1, x_2, x_9⟩ : A4 Int)) else ((blocks_down s.a0).bind fun r_10 => (in_[4]?).bind fun x_11 => some (⟨r_10, x_1, x_2, x_11⟩ : A4 Int)))))) else ((in_[2]?).bind fun x_12 => if x_12 = 1 then ((in_[4]?).bind fun x_13 => some (⟨0, x_1, x_2, x_13⟩ : A4 Int)) else ((in_[3]?).bind fun x_14 => if x_14 = 1 then ((in_[4]?).bind fun x_15 => some (⟨x_15, x_1, x_2, x_15⟩ : A4 Int)) else (if s.a1 = 0 then ((blocks_up s.a0).bind fun r_16 => (in_[4]?).bind fun x_17 => some (⟨r_16, x_1, x_2, x_17⟩ : A4 Int)) else ((in_[4]?).bind fun x_18 => some (⟨s.a0, x_1, x_2, x_18⟩ : A4 Int)))))) else ((in_[1]?).bind fun x_19 => if x_19 = 1 then ((in_[2]?).bind fun x_20 => if x_20 = 1 then ((in_[4]?).bind fun x_21 => some (⟨0, x_1, x_19, x_21⟩ : A4 Int)) else ((in_[3]?).bind fun x_22 => if x_22 = 1 then ((in_[4]?).bind fun x_23 => some (⟨x_23, x_1, x_19, x_23⟩ : A4 Int)) else (if s.a2 = 0 then ((blocks_down s.a0).bind fun r_24 => (in_[4]?).bind fun x_25 => some (⟨r_24, x_1, x_19, x_25⟩ : A4 Int)) else ((in_[4]?).bind fun x_26 => some (⟨s.a0, x_1, x_19, x_26⟩ : A4 Int))))) else ((in_[2]?).bind fun x_27 => if x_27 = 1 then ((in_[4]?).bind fun x_28 => some (⟨0, x_1, x_19, x_28⟩ : A4 Int)) else ((in_[3]?).bind fun x_29 => if x_29 = 1 then ((in_[4]?).bind fun x_30 => some (⟨x_30, x_1, x_19, x_30⟩ : A4 Int)) else ((in_[4]?).bind fun x_31 => some (⟨s.a0, x_1, x_19, x_31⟩ : A4 Int)))))
def blocks_rises (s : A4 Int) (in_ : List Int) (p2 : Int) : Option (A4 Int) :=
  (in_[0]?).bind fun x_1 => if x_1 = 1 then ((blocks_bit (decide (s.a3 = 0))).bind fun r_2 => some (⟨r_2, s.a1, s.a2, x_1⟩ : A4 Int)) else ((blocks_bit false).bind fun r_3 => some (⟨r_3, s.a1, s.a2, x_1⟩ : A4 Int))
def blocks_falls (s : A4 Int) (in_ : List Int) (p2 : Int) : Option (A4 Int) :=
  (in_[0]?).bind fun x_1 => if x_1 = 0 then ((blocks_bit (!(decide (s.a3 = 0)))).bind fun r_2 => some (⟨r_2, s.a1, s.a2, x_1⟩ : A4 Int)) else ((blocks_bit false).bind fun r_3 => some (⟨r_3, s.a1, s.a2, x_1⟩ : A4 Int))
def blocks_sr (s : A4 Int) (in_ : List Int) (p2 : Int) : Option (A4 Int) :=
  (in_[0]?).bind fun x_1 => if x_1 = 1 then ((blocks_bit true).bind fun r_2 => some (⟨r_2, s.a1, s.a2, s.a3⟩ : A4 Int)) else (if s.a0 = 0 then ((blocks_bit false).bind fun r_3 => some (⟨r_3, s.a1, s.a2, s.a3⟩ : A4 Int)) else ((in_[1]?).bind fun x_4 => (blocks_bit (decide (x_4 = 0))).bind fun r_5 => some (⟨r_5, s.a1, s.a2, s.a3⟩ : A4 Int)))
def blocks_rs (s : A4 Int) (in_ : List Int) (p2 : Int) : Option (A4 Int) :=
  (in_[1]?).bind fun x_1 => if x_1 = 0 then ((in_[0]?).bind fun x_2 => if x_2 = 1 then ((blocks_bit true).bind fun r_3 => some (⟨r_3, s.a1, s.a2, s.a3⟩ : A4 Int)) else ((blocks_bit (!(decide (s.a0 = 0)))).bind fun r_4 => some (⟨r_4, s.a1, s.a2, s.a3⟩ : A4 Int))) else ((blocks_bit false).bind fun r_5 => some (⟨r_5, s.a1, s.a2, s.a3⟩ : A4 Int))
def blocks_of (name : Str) : Option blocks_kind :=
  if name = ([84, 79, 78] : Str) then (some (⟨[1, 4], [1, 4], (some 101)⟩ : blocks_kind)) else (if name = ([84, 79, 70] : Str) then (some (⟨[1, 4], [1, 4], (some 102)⟩ : blocks_kind)) else (if name = ([84, 80] : Str) then (some (⟨[1, 4], [1, 4], (some 103)⟩ : blocks_kind)) else (if name = ([67, 84, 85] : Str) then (some (⟨[1, 1, 2], [1, 2], (some 104)⟩ : blocks_kind)) else (if name = ([67, 84, 68] : Str) then (some (⟨[1, 1, 2], [1, 2], (some 105)⟩ : blocks_kind)) else (if name = ([67, 84, 85, 68] : Str) then (some (⟨[1, 1, 1, 1, 2], [1, 1, 2], (some 106)⟩ : blocks_kind)) else (if name = ([82, 95, 84, 82, 73, 71] : Str) then (some (⟨[1], [1], (some 107)⟩ : blocks_kind)) else (if name = ([70, 95, 84, 82, 73, 71] : Str) then (some (⟨[1], [1], (some 108)⟩ : blocks_kind)) else (if name = ([83, 82] : Str) then (some (⟨[1, 1], [1], (some 109)⟩ : blocks_kind)) else (if name = ([82, 83] : Str) then (some (⟨[1, 1], [1], (some 110)⟩ : blocks_kind)) else (some (⟨[], [], none⟩ : blocks_kind)))))))))))
def blocks_Inputs (name : Str) : Option (List Int) :=
  if name = ([84, 79, 78] : Str) then (some [1, 4]) else (if name = ([84, 79, 70] : Str) then (some [1, 4]) else (if name = ([84, 80] : Str) then (some [1, 4]) else (if name = ([67, 84, 85] : Str) then (some [1, 1, 2]) else (if name = ([67, 84, 68] : Str) then (some [1, 1, 2]) else (if name = ([67, 84, 85, 68] : Str) then (some [1, 1, 1, 1, 2]) else (if name = ([82, 95, 84, 82, 73, 71] : Str) then (some [1]) else (if name = ([70, 95, 84, 82, 73, 71] : Str) then (some [1]) else (if name = ([83, 82] : Str) then (some [1, 1]) else (if name = ([82, 83] : Str) then (some [1, 1]) else (some []))))))))))
def slices_IndexFunc_int_int_L1 (s : List Int) (f : (Int → Option Bool)) : Nat → Option ((Nat) ⊕ (Int ⊕ Unit))
  | x_1 => if (x_1 : Int) < (s.length : Int) then ((s[x_1]?).bind fun x_4 => (f x_4).bind fun r_5 => if r_5 = true then (some (.inr (.inl ((x_1 : Int))))) else (some (.inl (x_1 + 1)))) else (some (.inr (.inr (()))))
def slices_IndexFunc_int_int (s : List Int) (f : (Int → Option Bool)) : Option Int :=
  (loop (slices_IndexFunc_int_int_L1 s f) 0).bind (fun e__ => match e__ with | (.inl e_6) => some e_6 | (.inr ()) => some (-1))
def slices_ContainsFunc_int_int (s : List Int) (f : (Int → Option Bool)) : Option Bool :=
  (slices_IndexFunc_int_int s f).bind fun r_1 => some (decide (0 ≤ r_1))
def image_task_1 (n : Int) : Option Bool :=
  if n < 0 then (some true) else (some (decide (4096 < n)))
def image_task (m : api_Image) (t : api_Task) : Option Bool :=
  (slices_ContainsFunc_int_int t.Budget image_task_1).bind fun r_1 => if r_1 = true then (some false) else (if 1 ≤ t.Every then (if t.Every ≤ 65536 then (if 0 ≤ t.Priority then (if t.Priority < 256 then (if (t.Budget.length : Int) = (m.Lattice.Names.length : Int) then (some (decide ((t.Body.length : Int) = 0))) else (some false)) else (some false)) else (some false)) else (some false)) else (some false))
def image_parts_L4 (m : api_Image) : Nat → Option ((Nat) ⊕ (Bool ⊕ Unit))
  | x_21 => if (x_21 : Int) < (m.Tasks.length : Int) then ((m.Tasks[x_21]?).bind fun x_24 => (image_task m x_24).bind fun r_25 => if r_25 = true then ((m.Code[x_21]?).bind fun x_26 => (code_Check x_26).bind fun r_27 => if r_27 = 0 then (some (.inl (x_21 + 1))) else (some (.inr (.inl (false))))) else (some (.inr (.inl (false))))) else (some (.inr (.inr (()))))
def image_parts_L3 (m : api_Image) : Nat → Option ((Nat) ⊕ (Bool ⊕ Unit))
  | x_14 => if (x_14 : Int) < (m.Blocks.length : Int) then ((m.Blocks[x_14]?).bind fun x_17 => if x_17.Name = [] then ((image_label m x_17.Label).bind fun r_18 => if r_18 = true then ((blocks_Inputs x_17.Kind).bind fun r_19 => if (r_19.length : Int) = 0 then (some (.inr (.inl (false)))) else (some (.inl (x_14 + 1)))) else (some (.inr (.inl (false))))) else (some (.inr (.inl (false))))) else (some (.inr (.inr (()))))
def image_parts_L2 (m : api_Image) : Nat → Option ((Nat) ⊕ (Bool ⊕ Unit))
  | x_8 => if (x_8 : Int) < (m.Vars.length : Int) then ((m.Vars[x_8]?).bind fun x_11 => (image_variable m x_11).bind fun r_12 => if r_12 = true then (some (.inl (x_8 + 1))) else (some (.inr (.inl (false))))) else (some (.inr (.inr (()))))
def image_parts_L1 (m : api_Image) : Nat → Option ((Nat) ⊕ (Bool ⊕ Unit))
  | x_1 => if (x_1 : Int) < (m.Sites.length : Int) then ((m.Sites[x_1]?).bind fun x_4 => if x_4.Name = [] then ((image_label m x_4.From).bind fun r_5 => if r_5 = true then ((image_label m x_4.To).bind fun r_6 => if r_6 = true then (some (.inl (x_1 + 1))) else (some (.inr (.inl (false))))) else (some (.inr (.inl (false))))) else (some (.inr (.inl (false))))) else (some (.inr (.inr (()))))
def image_parts (m : api_Image) : Option Bool :=
  (loop (image_parts_L1 m) 0).bind (fun e__ => match e__ with | (.inl e_7) => some e_7 | (.inr ()) => (loop (image_parts_L2 m) 0).bind (fun e__ => match e__ with | (.inl e_13) => some e_13 | (.inr ()) => (loop (image_parts_L3 m) 0).bind (fun e__ => match e__ with | (.inl e_20) => some e_20 | (.inr ()) => if (m.Tasks.length : Int) = (m.Code.length : Int) then ((loop (image_parts_L4 m) 0).bind (fun e__ => match e__ with | (.inl e_28) => some e_28 | (.inr ()) => some true)) else (some false))))
def image_Check (m : api_Image) : Option Int :=
  (image_small m).bind fun r_1 => if r_1 = true then ((lattice_Check m.Lattice).bind fun r_2 => if r_2 = 0 then ((image_parts m).bind fun r_3 => if r_3 = true then (some 0) else (some 8)) else (some r_2)) else (some 3)
end
theorem slices_IndexFunc_string_string_ok {s : List Str} {f : (Str → Option Bool)} {r : Int}
    {f_f : FuncId} {f_c : List C} (f_cl : Clo f_c) (f_ok : ∀ (x0 : Str) (r : Bool), f x0 = some r → Pu Tryz.prog f_f ([.one (.str x0)] ++ f_c.map V.one) (.one (.bool r))) (h : slices_IndexFunc_string_string s f = some r) :
    Pu Tryz.prog 78 [.one (.sl (s.map eS)), .one (.fn f_f f_c)] (.one (.int .i64 r)) := by
  have F := trivial; have R := trivial
  refine pA Tryz.func78 ?_
  simp only [Tryz.f78]
  unfold slices_IndexFunc_string_string at h
  have F := And.intro f_cl.all F
  refine bi h fun e_2 h he_2 => ?_
  refine tt ?_
  repeat (first | (with_reducible intro _) | (with_reducible refine and_i ?_ ?_; exact ss))
  refine lE (fun (s__ : Nat) (a__ : Unit) => match s__, a__ with | x_1, _ => ⟨[(0, .one (.sl (s.map eS))), (1, .one (.fn f_f f_c)), (7, .one (.int .i64 (s.length : Int))), (8, .one (.int .i64 (x_1 : Int)))], []⟩) (fun (e__ : Int ⊕ Unit) (b__ : Unit) => match e__, b__ with | (.inl e_6), _ => ⟨[], []⟩ | (.inr ()), _ => ⟨[], []⟩) (fun (e__ : Int ⊕ Unit) => match e__ with | (.inl _) => none | (.inr _) => some 0) () he_2 ?_ ?_
  intro i3 b3 hi3
  rcases e_2 with e_case | ⟨⟩
  cases hi3
  obtain rfl := Option.some.inj hi3
  obtain ⟨⟩ := b3
  dsimp only at h ⊢
  cases h; exact fin
  intro af3 m3 x_1 a3 o3 hf3 ho3 ih3
  obtain ⟨⟩ := a3
  dsimp only [slices_IndexFunc_string_string_L1] at hf3 ⊢
  refine fl hf3 F (fun hf3 _ F => ?_) (fun hf3 _ F => ?_)
  refine bx hf3 F fun x_4 hf3 hx_4 F => ?_
  refine bi hf3 fun r_5 hf3 hr_5 => ?_
  refine tt ?_
  repeat (first | (with_reducible intro _) | (with_reducible refine and_i ?_ ?_; exact ss))
  refine cS (f_ok _ _ hr_5) ?_
  refine fv hf3 F (fun hf3 _ F => ?_) (fun hf3 _ F => ?_)
  cases hf3
  obtain rfl := sr ho3
  try dsimp only at h
  cases h
  exact fin
  cases hf3
  refine tt ?_
  refine wn x_1 F fun F => ?_
  exact bk ih3 ho3 ()
  cases hf3
  refine tt ?_
  exact xt ho3 af3 ()
theorem slices_ContainsFunc_string_string_ok {s : List Str} {f : (Str → Option Bool)} {r : Bool}
    {f_f : FuncId} {f_c : List C} (f_cl : Clo f_c) (f_ok : ∀ (x0 : Str) (r : Bool), f x0 = some r → Pu Tryz.prog f_f ([.one (.str x0)] ++ f_c.map V.one) (.one (.bool r))) (h : slices_ContainsFunc_string_string s f = some r) :
    Pu Tryz.prog 46 [.one (.sl (s.map eS)), .one (.fn f_f f_c)] (.one (.bool r)) := by
  have F := trivial; have R := trivial
  refine pA Tryz.func46 ?_
  simp only [Tryz.f46]
  unfold slices_ContainsFunc_string_string at h
  have F := And.intro f_cl.all F
  refine bi h fun r_1 h hr_1 => ?_
  refine tt ?_
  repeat (first | (with_reducible intro _) | (with_reducible refine and_i ?_ ?_; exact ss))
  refine cS (slices_IndexFunc_string_string_ok (f_f := f_f) (f_c := f_c) f_cl f_ok hr_1) ?_
  cases h; exact fin
theorem image_small_1_ok {s : Str} {r : Bool} (h : image_small_1 s = some r) :
    Pu Tryz.prog 47 [.one (.str s)] (.one (.bool r)) := by
  have F := trivial; have R := trivial
  refine pA Tryz.func47 ?_
  simp only [Tryz.f47]
  unfold image_small_1 at h
  cases h; exact fin
theorem slices_IndexFunc__LL_api_Ins_api_Ins_ok {s : List (List api_Ins)} {f : ((List api_Ins) → Option Bool)} {r : Int}
    {f_f : FuncId} {f_c : List C} (f_cl : Clo f_c) (f_ok : ∀ (x0 : List api_Ins) (r : Bool), f x0 = some r → Pu Tryz.prog f_f ([.one (.sl (x0.map e_api_Ins))] ++ f_c.map V.one) (.one (.bool r))) (h : slices_IndexFunc__LL_api_Ins_api_Ins s f = some r) :
    Pu Tryz.prog 79 [.one (.sl (s.map (eL e_api_Ins))), .one (.fn f_f f_c)] (.one (.int .i64 r)) := by
  have F := trivial; have R := trivial
  refine pA Tryz.func79 ?_
  simp only [Tryz.f79]
  unfold slices_IndexFunc__LL_api_Ins_api_Ins at h
  have F := And.intro f_cl.all F
  refine bi h fun e_2 h he_2 => ?_
  refine tt ?_
  repeat (first | (with_reducible intro _) | (with_reducible refine and_i ?_ ?_; exact ss))
  refine lE (fun (s__ : Nat) (a__ : Unit) => match s__, a__ with | x_1, _ => ⟨[(0, .one (.sl (s.map (eL e_api_Ins)))), (1, .one (.fn f_f f_c)), (7, .one (.int .i64 (s.length : Int))), (8, .one (.int .i64 (x_1 : Int)))], []⟩) (fun (e__ : Int ⊕ Unit) (b__ : Unit) => match e__, b__ with | (.inl e_6), _ => ⟨[], []⟩ | (.inr ()), _ => ⟨[], []⟩) (fun (e__ : Int ⊕ Unit) => match e__ with | (.inl _) => none | (.inr _) => some 0) () he_2 ?_ ?_
  intro i3 b3 hi3
  rcases e_2 with e_case | ⟨⟩
  cases hi3
  obtain rfl := Option.some.inj hi3
  obtain ⟨⟩ := b3
  dsimp only at h ⊢
  cases h; exact fin
  intro af3 m3 x_1 a3 o3 hf3 ho3 ih3
  obtain ⟨⟩ := a3
  dsimp only [slices_IndexFunc__LL_api_Ins_api_Ins_L1] at hf3 ⊢
  refine fl hf3 F (fun hf3 _ F => ?_) (fun hf3 _ F => ?_)
  refine bx hf3 F fun x_4 hf3 hx_4 F => ?_
  refine bi hf3 fun r_5 hf3 hr_5 => ?_
  refine tt ?_
  repeat (first | (with_reducible intro _) | (with_reducible refine and_i ?_ ?_; exact ss))
  refine cS (f_ok _ _ hr_5) ?_
  refine fv hf3 F (fun hf3 _ F => ?_) (fun hf3 _ F => ?_)
  cases hf3
  obtain rfl := sr ho3
  try dsimp only at h
  cases h
  exact fin
  cases hf3
  refine tt ?_
  refine wn x_1 F fun F => ?_
  exact bk ih3 ho3 ()
  cases hf3
  refine tt ?_
  exact xt ho3 af3 ()
theorem slices_ContainsFunc__LL_api_Ins_api_Ins_ok {s : List (List api_Ins)} {f : ((List api_Ins) → Option Bool)} {r : Bool}
    {f_f : FuncId} {f_c : List C} (f_cl : Clo f_c) (f_ok : ∀ (x0 : List api_Ins) (r : Bool), f x0 = some r → Pu Tryz.prog f_f ([.one (.sl (x0.map e_api_Ins))] ++ f_c.map V.one) (.one (.bool r))) (h : slices_ContainsFunc__LL_api_Ins_api_Ins s f = some r) :
    Pu Tryz.prog 48 [.one (.sl (s.map (eL e_api_Ins))), .one (.fn f_f f_c)] (.one (.bool r)) := by
  have F := trivial; have R := trivial
  refine pA Tryz.func48 ?_
  simp only [Tryz.f48]
  unfold slices_ContainsFunc__LL_api_Ins_api_Ins at h
  have F := And.intro f_cl.all F
  refine bi h fun r_1 h hr_1 => ?_
  refine tt ?_
  repeat (first | (with_reducible intro _) | (with_reducible refine and_i ?_ ?_; exact ss))
  refine cS (slices_IndexFunc__LL_api_Ins_api_Ins_ok (f_f := f_f) (f_c := f_c) f_cl f_ok hr_1) ?_
  cases h; exact fin
theorem image_small_2_ok {c : List api_Ins} {r : Bool} (h : image_small_2 c = some r) :
    Pu Tryz.prog 49 [.one (.sl (c.map e_api_Ins))] (.one (.bool r)) := by
  have F := trivial; have R := trivial
  refine pA Tryz.func49 ?_
  simp only [Tryz.f49]
  unfold image_small_2 at h
  cases h; exact fin
theorem image_small_ok {m : api_Image} {r : Bool} (h : image_small m = some r) :
    Pu Tryz.prog 19 [.agg (e_api_Image m)] (.one (.bool r)) := by
  have F := trivial; have R := trivial
  refine pA Tryz.func19 ?_
  simp only [Tryz.f19]
  unfold image_small at h
  refine tt ?_
  repeat (first | (with_reducible intro _) | (with_reducible refine and_i ?_ ?_; exact ss))
  refine fi h F (fun h _ F => ?_) (fun h _ F => ?_)
  cases h; exact fin
  refine tt ?_
  repeat (first | (with_reducible intro _) | (with_reducible refine and_i ?_ ?_; exact ss))
  refine fi h F (fun h _ F => ?_) (fun h _ F => ?_)
  cases h; exact fin
  refine tt ?_
  repeat (first | (with_reducible intro _) | (with_reducible refine and_i ?_ ?_; exact ss))
  refine fi h F (fun h _ F => ?_) (fun h _ F => ?_)
  cases h; exact fin
  refine tt ?_
  repeat (first | (with_reducible intro _) | (with_reducible refine and_i ?_ ?_; exact ss))
  refine fi h F (fun h _ F => ?_) (fun h _ F => ?_)
  cases h; exact fin
  refine tt ?_
  repeat (first | (with_reducible intro _) | (with_reducible refine and_i ?_ ?_; exact ss))
  refine fi h F (fun h _ F => ?_) (fun h _ F => ?_)
  cases h; exact fin
  refine tt ?_
  repeat (first | (with_reducible intro _) | (with_reducible refine and_i ?_ ?_; exact ss))
  refine fi h F (fun h _ F => ?_) (fun h _ F => ?_)
  cases h; exact fin
  refine bi h fun r_1 h hr_1 => ?_
  refine tt ?_
  repeat (first | (with_reducible intro _) | (with_reducible refine and_i ?_ ?_; exact ss))
  refine cS (slices_ContainsFunc_string_string_ok (f_f := 47) (f_c := []) clo (fun _ r h => image_small_1_ok h) hr_1) ?_
  refine fv h F (fun h _ F => ?_) (fun h _ F => ?_)
  cases h; exact fin
  refine bi h fun r_2 h hr_2 => ?_
  refine tt ?_
  repeat (first | (with_reducible intro _) | (with_reducible refine and_i ?_ ?_; exact ss))
  refine cS (slices_ContainsFunc__LL_api_Ins_api_Ins_ok (f_f := 49) (f_c := []) clo (fun _ r h => image_small_2_ok h) hr_2) ?_
  cases h; exact fin
theorem lattice_is_ok {l : api_Lattice} {a : Int} {r : Bool} (h : lattice_is l a = some r) :
    Pu Tryz.prog 50 [.agg (e_api_Lattice l), .one (.int .i64 a)] (.one (.bool r)) := by
  have F := trivial; have R := trivial
  refine pA Tryz.func50 ?_
  simp only [Tryz.f50]
  unfold lattice_is at h
  refine fi h F (fun h _ F => ?_) (fun h _ F => ?_)
  cases h; exact fin
  cases h; exact fin
theorem lattice_above_ok {l : api_Lattice} {a : Int} {r : List Bool} (h : lattice_above l a = some r) :
    Pu Tryz.prog 80 [.agg (e_api_Lattice l), .one (.int .i64 a)] (.one (.sl (r.map eB))) := by
  have F := trivial; have R := trivial
  refine pA Tryz.func80 ?_
  simp only [Tryz.f80]
  unfold lattice_above at h
  refine nd h F fun h F => ?_
  have R := And.intro (show List.replicate l.Names.length [.bool false] = List.map eB (List.replicate l.Names.length false) by simp [go_sem]) R
  refine by_ h F fun x_2 h hx_2 F => ?_
  refine ln F fun F => ?_
  have R := And.intro (show (List.map eB (List.replicate l.Names.length false)).set a.toNat [.bool true] = List.map eB ((List.replicate l.Names.length false).set a.toNat true) by simp [go_sem, List.map_set]) R
  refine bi h fun e_7 h he_7 => ?_
  refine tt ?_
  repeat (first | (with_reducible intro _) | (with_reducible refine and_i ?_ ?_; exact ss))
  refine lE (fun (s__ : (List Bool) × (List Int)) (a__ : Nat × (List Int)) => match s__, a__ with | (out_3, todo_5), (v_4, pre_6) => ⟨[(2, .one (.ref 0 0 0 0)), (5, .one (.msl 1 0 0 out_3.length)), (6, .one (.msl 2 v_4 pre_6.length (pre_6.length + todo_5.length)))], [.cells 0 2 [[.sl (l.Names.map eS), .sl (l.Below.map (eA2 eI))]], .cells 0 1 (out_3.map eB), .cells v_4 1 ((pre_6 ++ todo_5).map eI)]⟩) (fun (e__ : (List Bool) × (List Int)) (b__ : Nat × (List Int)) => match e__, b__ with | (out_28, todo_29), (v_30, pre_31) => ⟨[(5, .one (.msl 1 0 0 out_28.length))], [.cells 0 2 [[.sl (l.Names.map eS), .sl (l.Below.map (eA2 eI))]], .cells 0 1 (out_28.map eB), .cells v_30 1 ((pre_31 ++ todo_29).map eI)]⟩) (fun (_ : (List Bool) × (List Int)) => some 0) (0, ([] : List Int)) he_7 ?_ ?_
  intro i8 b8 hi8
  obtain rfl := Option.some.inj hi8
  obtain ⟨out_28, todo_29⟩ := e_7
  obtain ⟨v_30, pre_31⟩ := b8
  dsimp only at h ⊢
  cases h; exact fin
  intro af8 m8 s8 a8 o8 hf8 ho8 ih8
  obtain ⟨out_3, todo_5⟩ := s8
  obtain ⟨v_4, pre_6⟩ := a8
  dsimp only [lattice_above_L1] at hf8 ⊢
  refine tt ?_
  repeat (first | (with_reducible intro _) | (with_reducible refine and_i ?_ ?_; exact ss))
  refine fi hf8 F (fun hf8 _ F => ?_) (fun hf8 _ F => ?_)
  refine bx hf8 F fun x_9 hf8 hx_9 F => ?_
  have R := And.intro (show (pre_6 ++ todo_5)[pre_6.length]? = some x_9 from q_get hx_9) (And.intro (show pre_6.length < (pre_6 ++ todo_5).length from q_lt hx_9) R)
  refine nd hf8 F fun hf8 F => ?_
  have R := And.intro (show List.drop (pre_6.length + 1) (List.map eI (pre_6 ++ todo_5)) = List.map eI (todo_5.drop 1) from q_drop _ _ _ _) R
  refine bi hf8 fun e_18 hf8 he_18 => ?_
  refine tt ?_
  repeat (first | (with_reducible intro _) | (with_reducible refine and_i ?_ ?_; exact ss))
  refine lE (fun (s__ : (List Bool) × (List Int) × Nat) (a__ : Nat × (List Int)) => match s__, a__ with | (out_13, todo_15, x_17), (v_14, pre_16) => ⟨[(2, .one (.ref 0 0 0 0)), (5, .one (.msl 1 0 0 out_13.length)), (6, .one (.msl 2 v_14 pre_16.length (pre_16.length + todo_15.length))), (7, .one (.int .i64 x_9)), (28, .one (.sl (l.Below.map (eA2 eI)))), (29, .one (.int .i64 (l.Below.length : Int))), (30, .one (.int .i64 (x_17 : Int)))], [.cells 0 2 [[.sl (l.Names.map eS), .sl (l.Below.map (eA2 eI))]], .cells 0 1 (out_13.map eB), .cells v_14 1 ((pre_16 ++ todo_15).map eI)]⟩) (fun (e__ : (List Bool) × (List Int)) (b__ : Nat × (List Int)) => match e__, b__ with | (out_24, todo_25), (v_26, pre_27) => ⟨[(2, .one (.ref 0 0 0 0)), (5, .one (.msl 1 0 0 out_24.length)), (6, .one (.msl 2 v_26 pre_27.length (pre_27.length + todo_25.length)))], [.cells 0 2 [[.sl (l.Names.map eS), .sl (l.Below.map (eA2 eI))]], .cells 0 1 (out_24.map eB), .cells v_26 1 ((pre_27 ++ todo_25).map eI)]⟩) (fun (_ : (List Bool) × (List Int)) => some 2) (v_4, (pre_6 ++ todo_5.take 1)) he_18 ?_ ?_
  intro i19 b19 hi19
  obtain rfl := Option.some.inj hi19
  obtain ⟨out_24, todo_25⟩ := e_18
  obtain ⟨v_26, pre_27⟩ := b19
  dsimp only at hf8 ⊢
  cases hf8
  refine tt ?_
  exact bk ih8 ho8 (v_26, pre_27)
  intro af19 m19 s19 a19 o19 hf19 ho19 ih19
  obtain ⟨out_13, todo_15, x_17⟩ := s19
  obtain ⟨v_14, pre_16⟩ := a19
  dsimp only [lattice_above_L2] at hf19 ⊢
  refine fl hf19 F (fun hf19 _ F => ?_) (fun hf19 _ F => ?_)
  refine bx hf19 F fun x_20 hf19 hx_20 F => ?_
  refine tt ?_
  repeat (first | (with_reducible intro _) | (with_reducible refine and_i ?_ ?_; exact ss))
  refine fi hf19 F (fun hf19 _ F => ?_) (fun hf19 _ F => ?_)
  refine bi hf19 fun r_21 hf19 hr_21 => ?_
  refine tt ?_
  repeat (first | (with_reducible intro _) | (with_reducible refine and_i ?_ ?_; exact ss))
  refine cS (lattice_is_ok hr_21) ?_
  refine fv hf19 F (fun hf19 _ F => ?_) (fun hf19 _ F => ?_)
  refine by_ hf19 F fun x_22 hf19 hx_22 F => ?_
  refine tt ?_
  repeat (first | (with_reducible intro _) | (with_reducible refine and_i ?_ ?_; exact ss))
  refine fv hf19 F (fun hf19 _ F => ?_) (fun hf19 _ F => ?_)
  cases hf19
  refine tt ?_
  refine wn x_17 F fun F => ?_
  exact bk ih19 ho19 (v_14, pre_16)
  have R := And.intro (show (List.map eB out_13).set x_20.a1.toNat [.bool true] = List.map eB (out_13.set x_20.a1.toNat true) by simp [go_sem, List.map_set]) R
  refine nd hf19 F fun hf19 F => ?_
  cases hf19
  refine tt ?_
  repeat (first | (with_reducible intro _) | (with_reducible refine and_i ?_ ?_; exact ss))
  refine wn x_17 F fun F => ?_
  exact bk ih19 ho19 ((v_14 + 1), [])
  cases hf19
  refine tt ?_
  refine wn x_17 F fun F => ?_
  exact bk ih19 ho19 (v_14, pre_16)
  cases hf19
  refine tt ?_
  refine wn x_17 F fun F => ?_
  exact bk ih19 ho19 (v_14, pre_16)
  cases hf19
  refine tt ?_
  exact xt ho19 af19 (v_14, pre_16)
  cases hf8
  refine tt ?_
  exact xt ho8 af8 (v_4, pre_6)
theorem lattice_Leq_ok {l : api_Lattice} {a : Int} {b : Int} {r : Bool} (h : lattice_Leq l a b = some r) :
    Pu Tryz.prog 51 [.agg (e_api_Lattice l), .one (.int .i64 a), .one (.int .i64 b)] (.one (.bool r)) := by
  have F := trivial; have R := trivial
  refine pA Tryz.func51 ?_
  simp only [Tryz.f51]
  unfold lattice_Leq at h
  refine bi h fun r_1 h hr_1 => ?_
  refine tt ?_
  repeat (first | (with_reducible intro _) | (with_reducible refine and_i ?_ ?_; exact ss))
  refine cS (lattice_is_ok hr_1) ?_
  refine fv h F (fun h _ F => ?_) (fun h _ F => ?_)
  refine bi h fun r_2 h hr_2 => ?_
  refine tt ?_
  repeat (first | (with_reducible intro _) | (with_reducible refine and_i ?_ ?_; exact ss))
  refine cS (lattice_is_ok hr_2) ?_
  refine fv h F (fun h _ F => ?_) (fun h _ F => ?_)
  refine bi h fun r_3 h hr_3 => ?_
  refine tt ?_
  repeat (first | (with_reducible intro _) | (with_reducible refine and_i ?_ ?_; exact ss))
  refine cS (lattice_above_ok hr_3) ?_
  refine by_ h F fun x_4 h hx_4 F => ?_
  cases h; exact fin
  cases h; exact fin
  cases h; exact fin
theorem lattice_best_ok {l : api_Lattice} {of : (Int → Option Bool)} {ahead : (Int → Int → Option Bool)} {r : Int}
    {of_f : FuncId} {of_c : List C} (of_cl : Clo of_c) (of_ok : ∀ (x0 : Int) (r : Bool), of x0 = some r → Pu Tryz.prog of_f ([.one (.int .i64 x0)] ++ of_c.map V.one) (.one (.bool r)))
    {ahead_f : FuncId} {ahead_c : List C} (ahead_cl : Clo ahead_c) (ahead_ok : ∀ (x0 : Int) (x1 : Int) (r : Bool), ahead x0 x1 = some r → Pu Tryz.prog ahead_f ([.one (.int .i64 x0), .one (.int .i64 x1)] ++ ahead_c.map V.one) (.one (.bool r))) (h : lattice_best l of ahead = some r) :
    Pu Tryz.prog 81 [.agg (e_api_Lattice l), .one (.fn of_f of_c), .one (.fn ahead_f ahead_c)] (.one (.int .i64 r)) := by
  have F := trivial; have R := trivial
  refine pA Tryz.func81 ?_
  simp only [Tryz.f81]
  unfold lattice_best at h
  have F := And.intro of_cl.all F
  have F := And.intro ahead_cl.all F
  refine bi h fun e_2 h he_2 => ?_
  refine tt ?_
  repeat (first | (with_reducible intro _) | (with_reducible refine and_i ?_ ?_; exact ss))
  refine lE (fun (s__ : Nat) (a__ : Unit) => match s__, a__ with | x_1, _ => ⟨[(1, .one (.fn of_f of_c)), (2, .one (.fn ahead_f ahead_c)), (3, .one (.ref 0 0 0 0)), (11, .one (.int .i64 (l.Names.length : Int))), (12, .one (.int .i64 (x_1 : Int)))], [.cells 0 2 [[.sl (l.Names.map eS), .sl (l.Below.map (eA2 eI))]]]⟩) (fun (e__ : Int ⊕ Unit) (b__ : Unit) => match e__, b__ with | (.inl e_10), _ => ⟨[], []⟩ | (.inr ()), _ => ⟨[], [.cells 0 2 [[.sl (l.Names.map eS), .sl (l.Below.map (eA2 eI))]]]⟩) (fun (e__ : Int ⊕ Unit) => match e__ with | (.inl _) => none | (.inr _) => some 0) () he_2 ?_ ?_
  intro i3 b3 hi3
  rcases e_2 with e_case | ⟨⟩
  cases hi3
  obtain rfl := Option.some.inj hi3
  obtain ⟨⟩ := b3
  dsimp only at h ⊢
  cases h; exact fin
  intro af3 m3 x_1 a3 o3 hf3 ho3 ih3
  obtain ⟨⟩ := a3
  dsimp only [lattice_best_L1] at hf3 ⊢
  refine fl hf3 F (fun hf3 _ F => ?_) (fun hf3 _ F => ?_)
  refine bi hf3 fun r_4 hf3 hr_4 => ?_
  refine tt ?_
  repeat (first | (with_reducible intro _) | (with_reducible refine and_i ?_ ?_; exact ss))
  refine cS (of_ok _ _ hr_4) ?_
  refine fv hf3 F (fun hf3 _ F => ?_) (fun hf3 _ F => ?_)
  refine bi hf3 fun e_6 hf3 he_6 => ?_
  refine tt ?_
  repeat (first | (with_reducible intro _) | (with_reducible refine and_i ?_ ?_; exact ss))
  refine lE (fun (s__ : Nat) (a__ : Unit) => match s__, a__ with | x_5, _ => ⟨[(1, .one (.fn of_f of_c)), (2, .one (.fn ahead_f ahead_c)), (3, .one (.ref 0 0 0 0)), (7, .one (.int .i64 (x_1 : Int))), (11, .one (.int .i64 (l.Names.length : Int))), (12, .one (.int .i64 (x_1 : Int))), (21, .one (.int .i64 (l.Names.length : Int))), (22, .one (.int .i64 (x_5 : Int)))], [.cells 0 2 [[.sl (l.Names.map eS), .sl (l.Below.map (eA2 eI))]]]⟩) (fun (e__ : Unit ⊕ Unit) (b__ : Unit) => match e__, b__ with | (.inl ()), _ => ⟨[(1, .one (.fn of_f of_c)), (2, .one (.fn ahead_f ahead_c)), (3, .one (.ref 0 0 0 0)), (11, .one (.int .i64 (l.Names.length : Int))), (12, .one (.int .i64 (x_1 : Int)))], [.cells 0 2 [[.sl (l.Names.map eS), .sl (l.Below.map (eA2 eI))]]]⟩ | (.inr ()), _ => ⟨[(7, .one (.int .i64 (x_1 : Int)))], [.cells 0 2 [[.sl (l.Names.map eS), .sl (l.Below.map (eA2 eI))]]]⟩) (fun (e__ : Unit ⊕ Unit) => match e__ with | (.inl _) => some 1 | (.inr _) => some 2) () he_6 ?_ ?_
  intro i7 b7 hi7
  rcases e_6 with ⟨⟩ | ⟨⟩
  obtain rfl := Option.some.inj hi7
  obtain ⟨⟩ := b7
  dsimp only at hf3 ⊢
  cases hf3
  refine tt ?_
  refine wn x_1 F fun F => ?_
  exact bk ih3 ho3 ()
  obtain rfl := Option.some.inj hi7
  obtain ⟨⟩ := b7
  dsimp only at hf3 ⊢
  cases hf3
  obtain rfl := sr ho3
  try dsimp only at h
  cases h
  exact fin
  intro af7 m7 x_5 a7 o7 hf7 ho7 ih7
  obtain ⟨⟩ := a7
  dsimp only [lattice_best_L2] at hf7 ⊢
  refine fl hf7 F (fun hf7 _ F => ?_) (fun hf7 _ F => ?_)
  refine bi hf7 fun r_8 hf7 hr_8 => ?_
  refine tt ?_
  repeat (first | (with_reducible intro _) | (with_reducible refine and_i ?_ ?_; exact ss))
  refine cS (of_ok _ _ hr_8) ?_
  refine fv hf7 F (fun hf7 _ F => ?_) (fun hf7 _ F => ?_)
  refine bi hf7 fun r_9 hf7 hr_9 => ?_
  refine tt ?_
  repeat (first | (with_reducible intro _) | (with_reducible refine and_i ?_ ?_; exact ss))
  refine cS (ahead_ok _ _ _ hr_9) ?_
  refine fv hf7 F (fun hf7 _ F => ?_) (fun hf7 _ F => ?_)
  cases hf7
  refine tt ?_
  refine wn x_5 F fun F => ?_
  exact bk ih7 ho7 ()
  cases hf7
  refine tt ?_
  exact xt ho7 af7 ()
  cases hf7
  refine tt ?_
  refine wn x_5 F fun F => ?_
  exact bk ih7 ho7 ()
  cases hf7
  refine tt ?_
  exact xt ho7 af7 ()
  cases hf3
  refine tt ?_
  refine wn x_1 F fun F => ?_
  exact bk ih3 ho3 ()
  cases hf3
  refine tt ?_
  exact xt ho3 af3 ()
theorem lattice_Join_1_ok {c0 : List Bool} {c1 : List Bool} {c : Int} {r : Bool} (h : lattice_Join_1 c0 c1 c = some r) :
    Pu Tryz.prog 82 [.one (.int .i64 c), .one (.iptr ((eL eB) c0) 0), .one (.iptr ((eL eB) c1) 0)] (.one (.bool r)) := by
  have F := trivial; have R := trivial
  refine pA Tryz.func82 ?_
  simp only [Tryz.f82]
  unfold lattice_Join_1 at h
  refine by_ h F fun x_1 h hx_1 F => ?_
  refine tt ?_
  repeat (first | (with_reducible intro _) | (with_reducible refine and_i ?_ ?_; exact ss))
  refine fv h F (fun h _ F => ?_) (fun h _ F => ?_)
  refine by_ h F fun x_2 h hx_2 F => ?_
  cases h; exact fin
  cases h; exact fin
theorem lattice_Join_2_ok {c0 : api_Lattice} {c : Int} {d : Int} {r : Bool} (h : lattice_Join_2 c0 c d = some r) :
    Pu Tryz.prog 83 [.one (.int .i64 c), .one (.int .i64 d), .one (.iptr (e_api_Lattice c0) 0)] (.one (.bool r)) := by
  have F := trivial; have R := trivial
  refine pA Tryz.func83 ?_
  simp only [Tryz.f83]
  unfold lattice_Join_2 at h
  refine bi h fun r_1 h hr_1 => ?_
  refine tt ?_
  repeat (first | (with_reducible intro _) | (with_reducible refine and_i ?_ ?_; exact ss))
  refine cS (lattice_Leq_ok hr_1) ?_
  cases h; exact fin
theorem lattice_Join_ok {l : api_Lattice} {a : Int} {b : Int} {r : Int} (h : lattice_Join l a b = some r) :
    Pu Tryz.prog 52 [.agg (e_api_Lattice l), .one (.int .i64 a), .one (.int .i64 b)] (.one (.int .i64 r)) := by
  have F := trivial; have R := trivial
  refine pA Tryz.func52 ?_
  simp only [Tryz.f52]
  unfold lattice_Join at h
  refine bi h fun r_1 h hr_1 => ?_
  refine tt ?_
  repeat (first | (with_reducible intro _) | (with_reducible refine and_i ?_ ?_; exact ss))
  refine cS (lattice_is_ok hr_1) ?_
  refine fv h F (fun h _ F => ?_) (fun h _ F => ?_)
  refine bi h fun r_2 h hr_2 => ?_
  refine tt ?_
  repeat (first | (with_reducible intro _) | (with_reducible refine and_i ?_ ?_; exact ss))
  refine cS (lattice_is_ok hr_2) ?_
  refine fv h F (fun h _ F => ?_) (fun h _ F => ?_)
  refine bi h fun r_3 h hr_3 => ?_
  refine tt ?_
  repeat (first | (with_reducible intro _) | (with_reducible refine and_i ?_ ?_; exact ss))
  refine cD (lattice_above_ok hr_3) ?_
  refine bi h fun r_4 h hr_4 => ?_
  refine tt ?_
  repeat (first | (with_reducible intro _) | (with_reducible refine and_i ?_ ?_; exact ss))
  refine cD (lattice_above_ok hr_4) ?_
  refine bi h fun r_5 h hr_5 => ?_
  refine tt ?_
  repeat (first | (with_reducible intro _) | (with_reducible refine and_i ?_ ?_; exact ss))
  refine cS (lattice_best_ok (of_f := 82) (of_c := [.iptr [.sl (r_3.map eB)] 0, .iptr [.sl (r_4.map eB)] 0]) clo (fun _ r h => lattice_Join_1_ok h) (ahead_f := 83) (ahead_c := [.iptr [.sl (l.Names.map eS), .sl (l.Below.map (eA2 eI))] 0]) clo (fun _ _ r h => lattice_Join_2_ok h) hr_5) ?_
  cases h; exact fin
  cases h; exact fin
  cases h; exact fin
theorem lattice_Meet_1_ok {c0 : api_Lattice} {c1 : Int} {c2 : Int} {c : Int} {r : Bool} (h : lattice_Meet_1 c0 c1 c2 c = some r) :
    Pu Tryz.prog 84 [.one (.int .i64 c), .one (.iptr (e_api_Lattice c0) 0), .one (.iptr (eI c1) 0), .one (.iptr (eI c2) 0)] (.one (.bool r)) := by
  have F := trivial; have R := trivial
  refine pA Tryz.func84 ?_
  simp only [Tryz.f84]
  unfold lattice_Meet_1 at h
  refine bi h fun r_1 h hr_1 => ?_
  refine tt ?_
  repeat (first | (with_reducible intro _) | (with_reducible refine and_i ?_ ?_; exact ss))
  refine cS (lattice_Leq_ok hr_1) ?_
  refine fv h F (fun h _ F => ?_) (fun h _ F => ?_)
  refine bi h fun r_2 h hr_2 => ?_
  refine tt ?_
  repeat (first | (with_reducible intro _) | (with_reducible refine and_i ?_ ?_; exact ss))
  refine cS (lattice_Leq_ok hr_2) ?_
  cases h; exact fin
  cases h; exact fin
theorem lattice_Meet_2_ok {c0 : api_Lattice} {c : Int} {d : Int} {r : Bool} (h : lattice_Meet_2 c0 c d = some r) :
    Pu Tryz.prog 85 [.one (.int .i64 c), .one (.int .i64 d), .one (.iptr (e_api_Lattice c0) 0)] (.one (.bool r)) := by
  have F := trivial; have R := trivial
  refine pA Tryz.func85 ?_
  simp only [Tryz.f85]
  unfold lattice_Meet_2 at h
  refine bi h fun r_1 h hr_1 => ?_
  refine tt ?_
  repeat (first | (with_reducible intro _) | (with_reducible refine and_i ?_ ?_; exact ss))
  refine cS (lattice_Leq_ok hr_1) ?_
  cases h; exact fin
theorem lattice_Meet_ok {l : api_Lattice} {a : Int} {b : Int} {r : Int} (h : lattice_Meet l a b = some r) :
    Pu Tryz.prog 53 [.agg (e_api_Lattice l), .one (.int .i64 a), .one (.int .i64 b)] (.one (.int .i64 r)) := by
  have F := trivial; have R := trivial
  refine pA Tryz.func53 ?_
  simp only [Tryz.f53]
  unfold lattice_Meet at h
  refine bi h fun r_1 h hr_1 => ?_
  refine tt ?_
  repeat (first | (with_reducible intro _) | (with_reducible refine and_i ?_ ?_; exact ss))
  refine cS (lattice_is_ok hr_1) ?_
  refine fv h F (fun h _ F => ?_) (fun h _ F => ?_)
  refine bi h fun r_2 h hr_2 => ?_
  refine tt ?_
  repeat (first | (with_reducible intro _) | (with_reducible refine and_i ?_ ?_; exact ss))
  refine cS (lattice_is_ok hr_2) ?_
  refine fv h F (fun h _ F => ?_) (fun h _ F => ?_)
  refine bi h fun r_3 h hr_3 => ?_
  refine tt ?_
  repeat (first | (with_reducible intro _) | (with_reducible refine and_i ?_ ?_; exact ss))
  refine cS (lattice_best_ok (of_f := 84) (of_c := [.iptr [.sl (l.Names.map eS), .sl (l.Below.map (eA2 eI))] 0, .iptr [.int .i64 a] 0, .iptr [.int .i64 b] 0]) clo (fun _ r h => lattice_Meet_1_ok h) (ahead_f := 85) (ahead_c := [.iptr [.sl (l.Names.map eS), .sl (l.Below.map (eA2 eI))] 0]) clo (fun _ _ r h => lattice_Meet_2_ok h) hr_3) ?_
  cases h; exact fin
  cases h; exact fin
  cases h; exact fin
theorem lattice_Check_ok {l : api_Lattice} {r : Int} (h : lattice_Check l = some r) :
    Pu Tryz.prog 20 [.agg (e_api_Lattice l)] (.one (.int .i64 r)) := by
  have F := trivial; have R := trivial
  refine pA Tryz.func20 ?_
  simp only [Tryz.f20]
  unfold lattice_Check at h
  refine tt ?_
  repeat (first | (with_reducible intro _) | (with_reducible refine and_i ?_ ?_; exact ss))
  refine fi h F (fun h _ F => ?_) (fun h _ F => ?_)
  cases h; exact fin
  refine fi h F (fun h _ F => ?_) (fun h _ F => ?_)
  cases h; exact fin
  refine bi h fun e_2 h he_2 => ?_
  refine tt ?_
  repeat (first | (with_reducible intro _) | (with_reducible refine and_i ?_ ?_; exact ss))
  refine lE (fun (s__ : Nat) (a__ : Unit) => match s__, a__ with | x_1, _ => ⟨[(1, .one (.ref 0 0 0 0)), (20, .one (.sl (l.Below.map (eA2 eI)))), (21, .one (.int .i64 (l.Below.length : Int))), (22, .one (.int .i64 (x_1 : Int)))], [.cells 0 2 [[.sl (l.Names.map eS), .sl (l.Below.map (eA2 eI))]]]⟩) (fun (e__ : Int ⊕ Unit) (b__ : Unit) => match e__, b__ with | (.inl e_7), _ => ⟨[], []⟩ | (.inr ()), _ => ⟨[(1, .one (.ref 0 0 0 0))], [.cells 0 2 [[.sl (l.Names.map eS), .sl (l.Below.map (eA2 eI))]]]⟩) (fun (e__ : Int ⊕ Unit) => match e__ with | (.inl _) => none | (.inr _) => some 0) () he_2 ?_ ?_
  intro i3 b3 hi3
  rcases e_2 with e_case | ⟨⟩
  cases hi3
  obtain rfl := Option.some.inj hi3
  obtain ⟨⟩ := b3
  dsimp only at h ⊢
  have R := And.intro (show (O.map [] : O) = .map (eM C.str C.bool []) from rfl) R
  refine bi h fun e_10 h he_10 => ?_
  refine tt ?_
  repeat (first | (with_reducible intro _) | (with_reducible refine and_i ?_ ?_; exact ss))
  refine lE (fun (s__ : (List (Str × Bool)) × Nat) (a__ : Unit) => match s__, a__ with | (seen_8, x_9), _ => ⟨[(1, .one (.ref 0 0 0 0)), (6, .one (.mp 1)), (42, .one (.sl (l.Names.map eS))), (43, .one (.int .i64 (l.Names.length : Int))), (44, .one (.int .i64 (x_9 : Int)))], [.cells 0 2 [[.sl (l.Names.map eS), .sl (l.Below.map (eA2 eI))]], .map (eM C.str C.bool seen_8)]⟩) (fun (e__ : Int ⊕ (List (Str × Bool))) (b__ : Unit) => match e__, b__ with | (.inl e_23), _ => ⟨[], []⟩ | (.inr seen_24), _ => ⟨[], [.cells 0 2 [[.sl (l.Names.map eS), .sl (l.Below.map (eA2 eI))]], .map (eM C.str C.bool seen_24)]⟩) (fun (e__ : Int ⊕ (List (Str × Bool))) => match e__ with | (.inl _) => none | (.inr _) => some 2) () he_10 ?_ ?_
  intro i11 b11 hi11
  rcases e_10 with e_case | seen_24
  cases hi11
  obtain rfl := Option.some.inj hi11
  obtain ⟨⟩ := b11
  dsimp only at h ⊢
  cases h; exact fin
  intro af11 m11 s11 a11 o11 hf11 ho11 ih11
  obtain ⟨seen_8, x_9⟩ := s11
  obtain ⟨⟩ := a11
  dsimp only [lattice_Check_L2] at hf11 ⊢
  refine fl hf11 F (fun hf11 _ F => ?_) (fun hf11 _ F => ?_)
  refine bx hf11 F fun x_12 hf11 hx_12 F => ?_
  refine tt ?_
  repeat (first | (with_reducible intro _) | (with_reducible refine and_i ?_ ?_; exact ss))
  refine fv hf11 F (fun hf11 _ F => ?_) (fun hf11 _ F => ?_)
  cases hf11
  obtain rfl := sr ho11
  try dsimp only at h
  cases h
  exact fin
  refine bi hf11 fun e_14 hf11 he_14 => ?_
  refine tt ?_
  refine lE (fun (s__ : Nat) (a__ : Unit) => match s__, a__ with | x_13, _ => ⟨[(1, .one (.ref 0 0 0 0)), (6, .one (.mp 1)), (7, .one (.int .i64 (x_9 : Int))), (42, .one (.sl (l.Names.map eS))), (43, .one (.int .i64 (l.Names.length : Int))), (44, .one (.int .i64 (x_9 : Int))), (54, .one (.int .i64 (x_9 : Int))), (55, .one (.int .i64 (x_13 : Int)))], [.cells 0 2 [[.sl (l.Names.map eS), .sl (l.Below.map (eA2 eI))]], .map (eM C.str C.bool (mset x_12 true seen_8))]⟩) (fun (e__ : Int ⊕ Unit) (b__ : Unit) => match e__, b__ with | (.inl e_22), _ => ⟨[], []⟩ | (.inr ()), _ => ⟨[(1, .one (.ref 0 0 0 0)), (6, .one (.mp 1)), (42, .one (.sl (l.Names.map eS))), (43, .one (.int .i64 (l.Names.length : Int))), (44, .one (.int .i64 (x_9 : Int)))], [.cells 0 2 [[.sl (l.Names.map eS), .sl (l.Below.map (eA2 eI))]], .map (eM C.str C.bool (mset x_12 true seen_8))]⟩) (fun (e__ : Int ⊕ Unit) => match e__ with | (.inl _) => none | (.inr _) => some 4) () he_14 ?_ ?_
  intro i15 b15 hi15
  rcases e_14 with e_case | ⟨⟩
  cases hi15
  obtain rfl := Option.some.inj hi15
  obtain ⟨⟩ := b15
  dsimp only at hf11 ⊢
  cases hf11
  refine tt ?_
  refine wn x_9 F fun F => ?_
  exact bk ih11 ho11 ()
  intro af15 m15 x_13 a15 o15 hf15 ho15 ih15
  obtain ⟨⟩ := a15
  dsimp only [lattice_Check_L3] at hf15 ⊢
  refine fl hf15 F (fun hf15 _ F => ?_) (fun hf15 _ F => ?_)
  refine bi hf15 fun r_16 hf15 hr_16 => ?_
  refine tt ?_
  repeat (first | (with_reducible intro _) | (with_reducible refine and_i ?_ ?_; exact ss))
  refine cS (lattice_Leq_ok hr_16) ?_
  refine fv hf15 F (fun hf15 _ F => ?_) (fun hf15 _ F => ?_)
  refine bi hf15 fun r_17 hf15 hr_17 => ?_
  refine tt ?_
  repeat (first | (with_reducible intro _) | (with_reducible refine and_i ?_ ?_; exact ss))
  refine cS (lattice_Leq_ok hr_17) ?_
  refine fv hf15 F (fun hf15 _ F => ?_) (fun hf15 _ F => ?_)
  cases hf15
  obtain rfl := sr ho15
  try dsimp only at hf11
  cases hf11
  obtain rfl := sr ho11
  try dsimp only at h
  cases h
  exact fin
  refine bi hf15 fun r_18 hf15 hr_18 => ?_
  refine tt ?_
  repeat (first | (with_reducible intro _) | (with_reducible refine and_i ?_ ?_; exact ss))
  refine cS (lattice_Join_ok hr_18) ?_
  refine fi hf15 F (fun hf15 _ F => ?_) (fun hf15 _ F => ?_)
  cases hf15
  obtain rfl := sr ho15
  try dsimp only at hf11
  cases hf11
  obtain rfl := sr ho11
  try dsimp only at h
  cases h
  exact fin
  refine bi hf15 fun r_19 hf15 hr_19 => ?_
  refine tt ?_
  repeat (first | (with_reducible intro _) | (with_reducible refine and_i ?_ ?_; exact ss))
  refine cS (lattice_Meet_ok hr_19) ?_
  refine fi hf15 F (fun hf15 _ F => ?_) (fun hf15 _ F => ?_)
  cases hf15
  obtain rfl := sr ho15
  try dsimp only at hf11
  cases hf11
  obtain rfl := sr ho11
  try dsimp only at h
  cases h
  exact fin
  cases hf15
  refine tt ?_
  refine wn x_13 F fun F => ?_
  exact bk ih15 ho15 ()
  refine bi hf15 fun r_20 hf15 hr_20 => ?_
  refine tt ?_
  repeat (first | (with_reducible intro _) | (with_reducible refine and_i ?_ ?_; exact ss))
  refine cS (lattice_Join_ok hr_20) ?_
  refine fi hf15 F (fun hf15 _ F => ?_) (fun hf15 _ F => ?_)
  cases hf15
  obtain rfl := sr ho15
  try dsimp only at hf11
  cases hf11
  obtain rfl := sr ho11
  try dsimp only at h
  cases h
  exact fin
  refine bi hf15 fun r_21 hf15 hr_21 => ?_
  refine tt ?_
  repeat (first | (with_reducible intro _) | (with_reducible refine and_i ?_ ?_; exact ss))
  refine cS (lattice_Meet_ok hr_21) ?_
  refine fi hf15 F (fun hf15 _ F => ?_) (fun hf15 _ F => ?_)
  cases hf15
  obtain rfl := sr ho15
  try dsimp only at hf11
  cases hf11
  obtain rfl := sr ho11
  try dsimp only at h
  cases h
  exact fin
  cases hf15
  refine tt ?_
  refine wn x_13 F fun F => ?_
  exact bk ih15 ho15 ()
  cases hf15
  refine tt ?_
  exact xt ho15 af15 ()
  cases hf11
  refine tt ?_
  exact xt ho11 af11 ()
  intro af3 m3 x_1 a3 o3 hf3 ho3 ih3
  obtain ⟨⟩ := a3
  dsimp only [lattice_Check_L1] at hf3 ⊢
  refine fl hf3 F (fun hf3 _ F => ?_) (fun hf3 _ F => ?_)
  refine bx hf3 F fun x_4 hf3 hx_4 F => ?_
  refine bi hf3 fun r_5 hf3 hr_5 => ?_
  refine tt ?_
  repeat (first | (with_reducible intro _) | (with_reducible refine and_i ?_ ?_; exact ss))
  refine cS (lattice_is_ok hr_5) ?_
  refine fv hf3 F (fun hf3 _ F => ?_) (fun hf3 _ F => ?_)
  refine bi hf3 fun r_6 hf3 hr_6 => ?_
  refine tt ?_
  repeat (first | (with_reducible intro _) | (with_reducible refine and_i ?_ ?_; exact ss))
  refine cS (lattice_is_ok hr_6) ?_
  refine fv hf3 F (fun hf3 _ F => ?_) (fun hf3 _ F => ?_)
  cases hf3
  refine tt ?_
  refine wn x_1 F fun F => ?_
  exact bk ih3 ho3 ()
  cases hf3
  obtain rfl := sr ho3
  try dsimp only at h
  cases h
  exact fin
  cases hf3
  obtain rfl := sr ho3
  try dsimp only at h
  cases h
  exact fin
  cases hf3
  refine tt ?_
  exact xt ho3 af3 ()
theorem image_label_ok {m : api_Image} {n : Int} {r : Bool} (h : image_label m n = some r) :
    Pu Tryz.prog 54 [.agg (e_api_Image m), .one (.int .i64 n)] (.one (.bool r)) := by
  have F := trivial; have R := trivial
  refine pA Tryz.func54 ?_
  simp only [Tryz.f54]
  unfold image_label at h
  refine fi h F (fun h _ F => ?_) (fun h _ F => ?_)
  cases h; exact fin
  cases h; exact fin
theorem ints_Bits_ok {kind : Int} {r : Int} (h : ints_Bits kind = some r) :
    Pu Tryz.prog 98 [.one (.int .i64 kind)] (.one (.int .i64 r)) := by
  have F := trivial; have R := trivial
  refine pA Tryz.func98 ?_
  simp only [Tryz.f98]
  unfold ints_Bits at h
  refine fi h F (fun h _ F => ?_) (fun h _ F => ?_)
  cases h; exact fin
  refine fi h F (fun h _ F => ?_) (fun h _ F => ?_)
  cases h; exact fin
  refine tt ?_
  refine fi h F (fun h _ F => ?_) (fun h _ F => ?_)
  cases h; exact fin
  refine fi h F (fun h _ F => ?_) (fun h _ F => ?_)
  cases h; exact fin
  cases h; exact fin
theorem cells_Check_ok {t : api_Type} {r : Int} (h : cells_Check t = some r) :
    Pu Tryz.prog 86 [.agg (e_api_Type t)] (.one (.int .i64 r)) := by
  have F := trivial; have R := trivial
  refine pA Tryz.func86 ?_
  simp only [Tryz.f86]
  unfold cells_Check at h
  refine fi h F (fun h _ F => ?_) (fun h _ F => ?_)
  refine bi h fun r_1 h hr_1 => ?_
  refine tt ?_
  repeat (first | (with_reducible intro _) | (with_reducible refine and_i ?_ ?_; exact ss))
  refine cS (ints_Bits_ok hr_1) ?_
  refine fi h F (fun h _ F => ?_) (fun h _ F => ?_)
  cases h; exact fin
  refine tt ?_
  refine fi h F (fun h _ F => ?_) (fun h _ F => ?_)
  cases h; exact fin
  refine fi h F (fun h _ F => ?_) (fun h _ F => ?_)
  cases h; exact fin
  refine tt ?_
  refine fi h F (fun h _ F => ?_) (fun h _ F => ?_)
  refine fi h F (fun h _ F => ?_) (fun h _ F => ?_)
  refine tt ?_
  refine fi h F (fun h _ F => ?_) (fun h _ F => ?_)
  cases h; exact fin
  cases h; exact fin
  cases h; exact fin
  cases h; exact fin
  refine bi h fun r_2 h hr_2 => ?_
  refine tt ?_
  repeat (first | (with_reducible intro _) | (with_reducible refine and_i ?_ ?_; exact ss))
  refine cS (ints_Bits_ok hr_2) ?_
  refine fi h F (fun h _ F => ?_) (fun h _ F => ?_)
  cases h; exact fin
  refine tt ?_
  refine fi h F (fun h _ F => ?_) (fun h _ F => ?_)
  cases h; exact fin
  refine fi h F (fun h _ F => ?_) (fun h _ F => ?_)
  cases h; exact fin
  cases h; exact fin
theorem ints_bit_ok {b : Bool} {r : Int} (h : ints_bit b = some r) :
    Pu Tryz.prog 115 [.one (.bool b)] (.one (.int .i64 r)) := by
  have F := trivial; have R := trivial
  refine pA Tryz.func115 ?_
  simp only [Tryz.f115]
  unfold ints_bit at h
  refine fv h F (fun h _ F => ?_) (fun h _ F => ?_)
  cases h; exact fin
  cases h; exact fin
theorem ints_Wrap_ok {kind : Int} {n : Int} {r : Int} (h : ints_Wrap kind n = some r) :
    Pu Tryz.prog 99 [.one (.int .i64 kind), .one (.int .i64 n)] (.one (.int .i64 r)) := by
  have F := trivial; have R := trivial
  cases h
  refine pA Tryz.func99 ?_
  simp only [Tryz.f99]
  refine tt ?_
  rcases kinds kind with rfl | rfl | rfl | rfl | ⟨h1, h2, h3, h4⟩
  · refine cS (ints_Bits_ok (show ints_Bits 1 = some 1 by simp [ints_Bits])) ?_
    refine tt ?_
    refine cS (ints_bit_ok (show ints_bit (!decide (n = 0)) = some (wrapS 1 n) by by_cases hn : n = 0 <;> simp [ints_bit, wrapS, hn])) ?_
    exact fin
  · refine cS (ints_Bits_ok (show ints_Bits 2 = some 16 by simp [ints_Bits])) ?_
    refine tt ?_
    iterate 6
      refine scope_S (by rfl) (by kernel_rfl) ?_
      refine tt ?_
    rw [wrap_2]
    simp only [show ∀ n : Int, IntKind.i64.wrap n = _ from w64_eq]
    rw [Int.fdiv_eq_ediv_of_nonneg _ (by decide)]
    simp only [V.one.injEq, C.int.injEq, true_and]
    omega
  · refine cS (ints_Bits_ok (show ints_Bits 3 = some 32 by simp [ints_Bits])) ?_
    refine tt ?_
    iterate 4
      refine scope_S (by rfl) (by kernel_rfl) ?_
      refine tt ?_
    rw [wrap_3]
    simp only [show ∀ n : Int, IntKind.i64.wrap n = _ from w64_eq]
    rw [Int.fdiv_eq_ediv_of_nonneg _ (by decide)]
    simp only [V.one.injEq, C.int.injEq, true_and]
    omega
  · refine cS (ints_Bits_ok (show ints_Bits 4 = some 32 by simp [ints_Bits])) ?_
    refine tt ?_
    iterate 4
      refine scope_S (by rfl) (by kernel_rfl) ?_
      refine tt ?_
    rw [wrap_4]
    simp only [show ∀ n : Int, IntKind.i64.wrap n = _ from w64_eq]
    rw [Int.fdiv_eq_ediv_of_nonneg _ (by decide)]
    simp only [V.one.injEq, C.int.injEq, true_and]
    omega
  · refine cS (ints_Bits_ok (show ints_Bits kind = some 0 by simp [ints_Bits, h1, h2, h3, h4])) ?_
    rw [wrap_o h1 h2 h3 h4]
    have F := And.intro (eq_false h1) F
    exact fin
theorem ints_Valid_ok {kind : Int} {n : Int} {r : Bool} (h : ints_Valid kind n = some r) :
    Pu Tryz.prog 87 [.one (.int .i64 kind), .one (.int .i64 n)] (.one (.bool r)) := by
  have F := trivial; have R := trivial
  refine pA Tryz.func87 ?_
  simp only [Tryz.f87]
  unfold ints_Valid at h
  refine bi h fun r_1 h hr_1 => ?_
  refine tt ?_
  repeat (first | (with_reducible intro _) | (with_reducible refine and_i ?_ ?_; exact ss))
  refine cS (ints_Bits_ok hr_1) ?_
  refine fi h F (fun h _ F => ?_) (fun h _ F => ?_)
  refine bi h fun r_2 h hr_2 => ?_
  refine tt ?_
  repeat (first | (with_reducible intro _) | (with_reducible refine and_i ?_ ?_; exact ss))
  refine cS (ints_Wrap_ok hr_2) ?_
  cases h; exact fin
  cases h; exact fin
theorem image_variable_ok {m : api_Image} {v : api_Var} {r : Bool} (h : image_variable m v = some r) :
    Pu Tryz.prog 55 [.agg (e_api_Image m), .agg (e_api_Var v)] (.one (.bool r)) := by
  have F := trivial; have R := trivial
  refine pA Tryz.func55 ?_
  simp only [Tryz.f55]
  unfold image_variable at h
  refine tt ?_
  refine fi h F (fun h _ F => ?_) (fun h _ F => ?_)
  refine bi h fun r_1 h hr_1 => ?_
  refine tt ?_
  repeat (first | (with_reducible intro _) | (with_reducible refine and_i ?_ ?_; exact ss))
  refine cS (image_label_ok hr_1) ?_
  refine fv h F (fun h _ F => ?_) (fun h _ F => ?_)
  refine bi h fun r_2 h hr_2 => ?_
  refine tt ?_
  repeat (first | (with_reducible intro _) | (with_reducible refine and_i ?_ ?_; exact ss))
  refine cS (cells_Check_ok hr_2) ?_
  refine fi h F (fun h _ F => ?_) (fun h _ F => ?_)
  refine fi h F (fun h _ F => ?_) (fun h _ F => ?_)
  cases h; exact fin
  refine tt ?_
  refine fi h F (fun h _ F => ?_) (fun h _ F => ?_)
  refine fi h F (fun h _ F => ?_) (fun h _ F => ?_)
  cases h; exact fin
  cases h; exact fin
  refine fi h F (fun h _ F => ?_) (fun h _ F => ?_)
  refine tt ?_
  refine fi h F (fun h _ F => ?_) (fun h _ F => ?_)
  refine bi h fun r_3 h hr_3 => ?_
  refine tt ?_
  repeat (first | (with_reducible intro _) | (with_reducible refine and_i ?_ ?_; exact ss))
  refine cS (ints_Valid_ok hr_3) ?_
  cases h; exact fin
  cases h; exact fin
  cases h; exact fin
  cases h; exact fin
  cases h; exact fin
  cases h; exact fin
theorem blocks_since_ok {now : Int} {from_ : Int} {most : Int} {r : Int} (h : blocks_since now from_ most = some r) :
    Pu Tryz.prog 116 [.one (.int .i64 now), .one (.int .i64 from_), .one (.int .i64 most)] (.one (.int .i64 r)) := by
  have F := trivial; have R := trivial
  refine pA Tryz.func116 ?_
  simp only [Tryz.f116]
  unfold blocks_since at h
  refine fi h F (fun h _ F => ?_) (fun h _ F => ?_)
  cases h; exact fin
  refine tt ?_
  refine fi h F (fun h _ F => ?_) (fun h _ F => ?_)
  cases h; exact fin
  refine tt ?_
  refine fi h F (fun h _ F => ?_) (fun h _ F => ?_)
  cases h; exact fin
  cases h; exact fin
theorem blocks_bit_ok {b : Bool} {r : Int} (h : blocks_bit b = some r) :
    Pu Tryz.prog 117 [.one (.bool b)] (.one (.int .i64 r)) := by
  have F := trivial; have R := trivial
  refine pA Tryz.func117 ?_
  simp only [Tryz.f117]
  unfold blocks_bit at h
  refine fv h F (fun h _ F => ?_) (fun h _ F => ?_)
  cases h; exact fin
  cases h; exact fin
theorem blocks_ton_ok {s : A4 Int} {in_ : List Int} {now : Int} {r : A4 Int} (h : blocks_ton s in_ now = some r) :
    Pu Tryz.prog 101 [.agg ((eA4 eI) s), .one (.sl (in_.map eI)), .one (.int .i64 now)] (.agg ((eA4 eI) r)) := by
  have F := trivial; have R := trivial
  refine pA Tryz.func101 ?_
  simp only [Tryz.f101]
  unfold blocks_ton at h
  refine bx h F fun x_1 h hx_1 F => ?_
  refine tt ?_
  repeat (first | (with_reducible intro _) | (with_reducible refine and_i ?_ ?_; exact ss))
  refine fi h F (fun h _ F => ?_) (fun h _ F => ?_)
  cases h; exact fin
  refine tt ?_
  repeat (first | (with_reducible intro _) | (with_reducible refine and_i ?_ ?_; exact ss))
  refine fi h F (fun h _ F => ?_) (fun h _ F => ?_)
  refine bx h F fun x_2 h hx_2 F => ?_
  refine bi h fun r_3 h hr_3 => ?_
  refine tt ?_
  repeat (first | (with_reducible intro _) | (with_reducible refine and_i ?_ ?_; exact ss))
  refine cD (blocks_since_ok hr_3) ?_
  refine bi h fun r_4 h hr_4 => ?_
  refine tt ?_
  repeat (first | (with_reducible intro _) | (with_reducible refine and_i ?_ ?_; exact ss))
  refine cD (blocks_bit_ok hr_4) ?_
  cases h; exact fin
  refine bx h F fun x_5 h hx_5 F => ?_
  refine bi h fun r_6 h hr_6 => ?_
  refine tt ?_
  repeat (first | (with_reducible intro _) | (with_reducible refine and_i ?_ ?_; exact ss))
  refine cD (blocks_since_ok hr_6) ?_
  refine bi h fun r_7 h hr_7 => ?_
  refine tt ?_
  repeat (first | (with_reducible intro _) | (with_reducible refine and_i ?_ ?_; exact ss))
  refine cD (blocks_bit_ok hr_7) ?_
  cases h; exact fin
theorem blocks_run_ok {s : A4 Int} {now : Int} {pt : Int} {r : A4 Int} (h : blocks_run s now pt = some r) :
    Pu Tryz.prog 118 [.agg ((eA4 eI) s), .one (.int .i64 now), .one (.int .i64 pt)] (.agg ((eA4 eI) r)) := by
  have F := trivial; have R := trivial
  refine pA Tryz.func118 ?_
  simp only [Tryz.f118]
  unfold blocks_run at h
  refine tt ?_
  repeat (first | (with_reducible intro _) | (with_reducible refine and_i ?_ ?_; exact ss))
  refine fi h F (fun h _ F => ?_) (fun h _ F => ?_)
  cases h; exact fin
  refine bi h fun r_1 h hr_1 => ?_
  refine tt ?_
  repeat (first | (with_reducible intro _) | (with_reducible refine and_i ?_ ?_; exact ss))
  refine cS (blocks_since_ok hr_1) ?_
  refine tt ?_
  repeat (first | (with_reducible intro _) | (with_reducible refine and_i ?_ ?_; exact ss))
  refine fi h F (fun h _ F => ?_) (fun h _ F => ?_)
  cases h; exact fin
  cases h; exact fin
theorem blocks_tof_ok {s : A4 Int} {in_ : List Int} {now : Int} {r : A4 Int} (h : blocks_tof s in_ now = some r) :
    Pu Tryz.prog 102 [.agg ((eA4 eI) s), .one (.sl (in_.map eI)), .one (.int .i64 now)] (.agg ((eA4 eI) r)) := by
  have F := trivial; have R := trivial
  refine pA Tryz.func102 ?_
  simp only [Tryz.f102]
  unfold blocks_tof at h
  refine bx h F fun x_1 h hx_1 F => ?_
  refine tt ?_
  repeat (first | (with_reducible intro _) | (with_reducible refine and_i ?_ ?_; exact ss))
  refine fi h F (fun h _ F => ?_) (fun h _ F => ?_)
  cases h; exact fin
  refine tt ?_
  repeat (first | (with_reducible intro _) | (with_reducible refine and_i ?_ ?_; exact ss))
  refine fi h F (fun h _ F => ?_) (fun h _ F => ?_)
  refine bx h F fun x_2 h hx_2 F => ?_
  refine bi h fun r_3 h hr_3 => ?_
  refine tt ?_
  repeat (first | (with_reducible intro _) | (with_reducible refine and_i ?_ ?_; exact ss))
  refine cD (blocks_run_ok hr_3) ?_
  cases h; exact fin
  refine bx h F fun x_4 h hx_4 F => ?_
  refine bi h fun r_5 h hr_5 => ?_
  refine tt ?_
  repeat (first | (with_reducible intro _) | (with_reducible refine and_i ?_ ?_; exact ss))
  refine cD (blocks_run_ok hr_5) ?_
  cases h; exact fin
theorem blocks_tp_ok {s : A4 Int} {in_ : List Int} {now : Int} {r : A4 Int} (h : blocks_tp s in_ now = some r) :
    Pu Tryz.prog 103 [.agg ((eA4 eI) s), .one (.sl (in_.map eI)), .one (.int .i64 now)] (.agg ((eA4 eI) r)) := by
  have F := trivial; have R := trivial
  refine pA Tryz.func103 ?_
  simp only [Tryz.f103]
  unfold blocks_tp at h
  refine bx h F fun x_1 h hx_1 F => ?_
  refine bi h fun r_2 h hr_2 => ?_
  refine tt ?_
  repeat (first | (with_reducible intro _) | (with_reducible refine and_i ?_ ?_; exact ss))
  refine cD (blocks_run_ok hr_2) ?_
  refine bx h F fun x_3 h hx_3 F => ?_
  refine tt ?_
  repeat (first | (with_reducible intro _) | (with_reducible refine and_i ?_ ?_; exact ss))
  refine fi h F (fun h _ F => ?_) (fun h _ F => ?_)
  refine tt ?_
  repeat (first | (with_reducible intro _) | (with_reducible refine and_i ?_ ?_; exact ss))
  refine fi h F (fun h _ F => ?_) (fun h _ F => ?_)
  refine tt ?_
  repeat (first | (with_reducible intro _) | (with_reducible refine and_i ?_ ?_; exact ss))
  refine fi h F (fun h _ F => ?_) (fun h _ F => ?_)
  refine bi h fun r_4 h hr_4 => ?_
  refine tt ?_
  repeat (first | (with_reducible intro _) | (with_reducible refine and_i ?_ ?_; exact ss))
  refine cS (blocks_bit_ok hr_4) ?_
  refine tt ?_
  repeat (first | (with_reducible intro _) | (with_reducible refine and_i ?_ ?_; exact ss))
  refine fi h F (fun h _ F => ?_) (fun h _ F => ?_)
  exact (by omega : False).elim
  cases h; exact fin
  refine tt ?_
  repeat (first | (with_reducible intro _) | (with_reducible refine and_i ?_ ?_; exact ss))
  refine fi h F (fun h _ F => ?_) (fun h _ F => ?_)
  exact (by omega : False).elim
  cases h; exact fin
  refine tt ?_
  repeat (first | (with_reducible intro _) | (with_reducible refine and_i ?_ ?_; exact ss))
  refine fi h F (fun h _ F => ?_) (fun h _ F => ?_)
  exact (by omega : False).elim
  cases h; exact fin
  refine tt ?_
  repeat (first | (with_reducible intro _) | (with_reducible refine and_i ?_ ?_; exact ss))
  refine fi h F (fun h _ F => ?_) (fun h _ F => ?_)
  refine tt ?_
  repeat (first | (with_reducible intro _) | (with_reducible refine and_i ?_ ?_; exact ss))
  refine fi h F (fun h _ F => ?_) (fun h _ F => ?_)
  cases h; exact fin
  cases h; exact fin
  cases h; exact fin
theorem blocks_up_ok {n : Int} {r : Int} (h : blocks_up n = some r) :
    Pu Tryz.prog 119 [.one (.int .i64 n)] (.one (.int .i64 r)) := by
  have F := trivial; have R := trivial
  refine pA Tryz.func119 ?_
  simp only [Tryz.f119]
  unfold blocks_up at h
  refine fi h F (fun h _ F => ?_) (fun h _ F => ?_)
  cases h; exact fin
  cases h; exact fin
theorem blocks_ctu_ok {s : A4 Int} {in_ : List Int} {p2 : Int} {r : A4 Int} (h : blocks_ctu s in_ p2 = some r) :
    Pu Tryz.prog 104 [.agg ((eA4 eI) s), .one (.sl (in_.map eI)), .one (.int .i64 p2)] (.agg ((eA4 eI) r)) := by
  have F := trivial; have R := trivial
  refine pA Tryz.func104 ?_
  simp only [Tryz.f104]
  unfold blocks_ctu at h
  refine bx h F fun x_1 h hx_1 F => ?_
  refine tt ?_
  repeat (first | (with_reducible intro _) | (with_reducible refine and_i ?_ ?_; exact ss))
  refine fi h F (fun h _ F => ?_) (fun h _ F => ?_)
  refine bx h F fun x_2 h hx_2 F => ?_
  refine bi h fun r_3 h hr_3 => ?_
  refine tt ?_
  repeat (first | (with_reducible intro _) | (with_reducible refine and_i ?_ ?_; exact ss))
  refine cD (blocks_bit_ok hr_3) ?_
  refine bx h F fun x_4 h hx_4 F => ?_
  cases h; exact fin
  refine bx h F fun x_5 h hx_5 F => ?_
  refine tt ?_
  repeat (first | (with_reducible intro _) | (with_reducible refine and_i ?_ ?_; exact ss))
  refine fi h F (fun h _ F => ?_) (fun h _ F => ?_)
  refine tt ?_
  repeat (first | (with_reducible intro _) | (with_reducible refine and_i ?_ ?_; exact ss))
  refine fi h F (fun h _ F => ?_) (fun h _ F => ?_)
  refine bi h fun r_6 h hr_6 => ?_
  refine tt ?_
  repeat (first | (with_reducible intro _) | (with_reducible refine and_i ?_ ?_; exact ss))
  refine cS (blocks_up_ok hr_6) ?_
  refine bx h F fun x_7 h hx_7 F => ?_
  refine bi h fun r_8 h hr_8 => ?_
  refine tt ?_
  repeat (first | (with_reducible intro _) | (with_reducible refine and_i ?_ ?_; exact ss))
  refine cD (blocks_bit_ok hr_8) ?_
  cases h; exact fin
  refine bx h F fun x_9 h hx_9 F => ?_
  refine bi h fun r_10 h hr_10 => ?_
  refine tt ?_
  repeat (first | (with_reducible intro _) | (with_reducible refine and_i ?_ ?_; exact ss))
  refine cD (blocks_bit_ok hr_10) ?_
  cases h; exact fin
  refine bx h F fun x_11 h hx_11 F => ?_
  refine bi h fun r_12 h hr_12 => ?_
  refine tt ?_
  repeat (first | (with_reducible intro _) | (with_reducible refine and_i ?_ ?_; exact ss))
  refine cD (blocks_bit_ok hr_12) ?_
  cases h; exact fin
theorem blocks_down_ok {n : Int} {r : Int} (h : blocks_down n = some r) :
    Pu Tryz.prog 120 [.one (.int .i64 n)] (.one (.int .i64 r)) := by
  have F := trivial; have R := trivial
  refine pA Tryz.func120 ?_
  simp only [Tryz.f120]
  unfold blocks_down at h
  refine fi h F (fun h _ F => ?_) (fun h _ F => ?_)
  cases h; exact fin
  cases h; exact fin
theorem blocks_ctd_ok {s : A4 Int} {in_ : List Int} {p2 : Int} {r : A4 Int} (h : blocks_ctd s in_ p2 = some r) :
    Pu Tryz.prog 105 [.agg ((eA4 eI) s), .one (.sl (in_.map eI)), .one (.int .i64 p2)] (.agg ((eA4 eI) r)) := by
  have F := trivial; have R := trivial
  refine pA Tryz.func105 ?_
  simp only [Tryz.f105]
  unfold blocks_ctd at h
  refine bx h F fun x_1 h hx_1 F => ?_
  refine tt ?_
  repeat (first | (with_reducible intro _) | (with_reducible refine and_i ?_ ?_; exact ss))
  refine fi h F (fun h _ F => ?_) (fun h _ F => ?_)
  refine bx h F fun x_2 h hx_2 F => ?_
  refine bi h fun r_3 h hr_3 => ?_
  refine tt ?_
  repeat (first | (with_reducible intro _) | (with_reducible refine and_i ?_ ?_; exact ss))
  refine cD (blocks_bit_ok hr_3) ?_
  refine bx h F fun x_4 h hx_4 F => ?_
  cases h; exact fin
  refine bx h F fun x_5 h hx_5 F => ?_
  refine tt ?_
  repeat (first | (with_reducible intro _) | (with_reducible refine and_i ?_ ?_; exact ss))
  refine fi h F (fun h _ F => ?_) (fun h _ F => ?_)
  refine tt ?_
  repeat (first | (with_reducible intro _) | (with_reducible refine and_i ?_ ?_; exact ss))
  refine fi h F (fun h _ F => ?_) (fun h _ F => ?_)
  refine bi h fun r_6 h hr_6 => ?_
  refine tt ?_
  repeat (first | (with_reducible intro _) | (with_reducible refine and_i ?_ ?_; exact ss))
  refine cS (blocks_down_ok hr_6) ?_
  refine bi h fun r_7 h hr_7 => ?_
  refine tt ?_
  repeat (first | (with_reducible intro _) | (with_reducible refine and_i ?_ ?_; exact ss))
  refine cD (blocks_bit_ok hr_7) ?_
  cases h; exact fin
  refine bi h fun r_8 h hr_8 => ?_
  refine tt ?_
  repeat (first | (with_reducible intro _) | (with_reducible refine and_i ?_ ?_; exact ss))
  refine cD (blocks_bit_ok hr_8) ?_
  cases h; exact fin
  refine bi h fun r_9 h hr_9 => ?_
  refine tt ?_
  repeat (first | (with_reducible intro _) | (with_reducible refine and_i ?_ ?_; exact ss))
  refine cD (blocks_bit_ok hr_9) ?_
  cases h; exact fin
theorem blocks_ctud_ok {s : A4 Int} {in_ : List Int} {p2 : Int} {r : A4 Int} (h : blocks_ctud s in_ p2 = some r) :
    Pu Tryz.prog 106 [.agg ((eA4 eI) s), .one (.sl (in_.map eI)), .one (.int .i64 p2)] (.agg ((eA4 eI) r)) := by
  have F := trivial; have R := trivial
  refine pA Tryz.func106 ?_
  simp only [Tryz.f106]
  unfold blocks_ctud at h
  refine bx h F fun x_1 h hx_1 F => ?_
  refine tt ?_
  repeat (first | (with_reducible intro _) | (with_reducible refine and_i ?_ ?_; exact ss))
  refine fi h F (fun h _ F => ?_) (fun h _ F => ?_)
  refine bx h F fun x_2 h hx_2 F => ?_
  refine tt ?_
  repeat (first | (with_reducible intro _) | (with_reducible refine and_i ?_ ?_; exact ss))
  refine fi h F (fun h _ F => ?_) (fun h _ F => ?_)
  refine bx h F fun x_3 h hx_3 F => ?_
  refine tt ?_
  repeat (first | (with_reducible intro _) | (with_reducible refine and_i ?_ ?_; exact ss))
  refine fi h F (fun h _ F => ?_) (fun h _ F => ?_)
  refine bx h F fun x_4 h hx_4 F => ?_
  cases h; exact fin
  refine bx h F fun x_5 h hx_5 F => ?_
  refine tt ?_
  repeat (first | (with_reducible intro _) | (with_reducible refine and_i ?_ ?_; exact ss))
  refine fi h F (fun h _ F => ?_) (fun h _ F => ?_)
  refine bx h F fun x_6 h hx_6 F => ?_
  cases h; exact fin
  refine fv h F (fun h _ F => ?_) (fun h _ F => ?_)
  refine bx h F fun x_7 h hx_7 F => ?_
  cases h; exact fin
  refine tt ?_
  refine fi h F (fun h _ F => ?_) (fun h _ F => ?_)
  refine bi h fun r_8 h hr_8 => ?_
  refine tt ?_
  repeat (first | (with_reducible intro _) | (with_reducible refine and_i ?_ ?_; exact ss))
  refine cS (blocks_up_ok hr_8) ?_
  refine bx h F fun x_9 h hx_9 F => ?_
  cases h; exact fin
  refine bi h fun r_10 h hr_10 => ?_
  refine tt ?_
  repeat (first | (with_reducible intro _) | (with_reducible refine and_i ?_ ?_; exact ss))
  refine cS (blocks_down_ok hr_10) ?_
  refine bx h F fun x_11 h hx_11 F => ?_
  cases h; exact fin
  refine bx h F fun x_12 h hx_12 F => ?_
  refine tt ?_
  repeat (first | (with_reducible intro _) | (with_reducible refine and_i ?_ ?_; exact ss))
  refine fi h F (fun h _ F => ?_) (fun h _ F => ?_)
  refine bx h F fun x_13 h hx_13 F => ?_
  cases h; exact fin
  refine bx h F fun x_14 h hx_14 F => ?_
  refine tt ?_
  repeat (first | (with_reducible intro _) | (with_reducible refine and_i ?_ ?_; exact ss))
  refine fi h F (fun h _ F => ?_) (fun h _ F => ?_)
  refine bx h F fun x_15 h hx_15 F => ?_
  cases h; exact fin
  refine fi h F (fun h _ F => ?_) (fun h _ F => ?_)
  refine bi h fun r_16 h hr_16 => ?_
  refine tt ?_
  repeat (first | (with_reducible intro _) | (with_reducible refine and_i ?_ ?_; exact ss))
  refine cS (blocks_up_ok hr_16) ?_
  refine bx h F fun x_17 h hx_17 F => ?_
  cases h; exact fin
  refine bx h F fun x_18 h hx_18 F => ?_
  cases h; exact fin
  refine bx h F fun x_19 h hx_19 F => ?_
  refine tt ?_
  repeat (first | (with_reducible intro _) | (with_reducible refine and_i ?_ ?_; exact ss))
  refine fi h F (fun h _ F => ?_) (fun h _ F => ?_)
  refine bx h F fun x_20 h hx_20 F => ?_
  refine tt ?_
  repeat (first | (with_reducible intro _) | (with_reducible refine and_i ?_ ?_; exact ss))
  refine fi h F (fun h _ F => ?_) (fun h _ F => ?_)
  refine bx h F fun x_21 h hx_21 F => ?_
  cases h; exact fin
  refine bx h F fun x_22 h hx_22 F => ?_
  refine tt ?_
  repeat (first | (with_reducible intro _) | (with_reducible refine and_i ?_ ?_; exact ss))
  refine fi h F (fun h _ F => ?_) (fun h _ F => ?_)
  refine bx h F fun x_23 h hx_23 F => ?_
  cases h; exact fin
  refine fi h F (fun h _ F => ?_) (fun h _ F => ?_)
  refine bi h fun r_24 h hr_24 => ?_
  refine tt ?_
  repeat (first | (with_reducible intro _) | (with_reducible refine and_i ?_ ?_; exact ss))
  refine cS (blocks_down_ok hr_24) ?_
  refine bx h F fun x_25 h hx_25 F => ?_
  cases h; exact fin
  refine bx h F fun x_26 h hx_26 F => ?_
  cases h; exact fin
  refine bx h F fun x_27 h hx_27 F => ?_
  refine tt ?_
  repeat (first | (with_reducible intro _) | (with_reducible refine and_i ?_ ?_; exact ss))
  refine fi h F (fun h _ F => ?_) (fun h _ F => ?_)
  refine bx h F fun x_28 h hx_28 F => ?_
  cases h; exact fin
  refine bx h F fun x_29 h hx_29 F => ?_
  refine tt ?_
  repeat (first | (with_reducible intro _) | (with_reducible refine and_i ?_ ?_; exact ss))
  refine fi h F (fun h _ F => ?_) (fun h _ F => ?_)
  refine bx h F fun x_30 h hx_30 F => ?_
  cases h; exact fin
  refine bx h F fun x_31 h hx_31 F => ?_
  cases h; exact fin
theorem blocks_rises_ok {s : A4 Int} {in_ : List Int} {p2 : Int} {r : A4 Int} (h : blocks_rises s in_ p2 = some r) :
    Pu Tryz.prog 107 [.agg ((eA4 eI) s), .one (.sl (in_.map eI)), .one (.int .i64 p2)] (.agg ((eA4 eI) r)) := by
  have F := trivial; have R := trivial
  refine pA Tryz.func107 ?_
  simp only [Tryz.f107]
  unfold blocks_rises at h
  refine bx h F fun x_1 h hx_1 F => ?_
  refine tt ?_
  repeat (first | (with_reducible intro _) | (with_reducible refine and_i ?_ ?_; exact ss))
  refine fi h F (fun h _ F => ?_) (fun h _ F => ?_)
  refine bi h fun r_2 h hr_2 => ?_
  refine tt ?_
  repeat (first | (with_reducible intro _) | (with_reducible refine and_i ?_ ?_; exact ss))
  refine cD (blocks_bit_ok hr_2) ?_
  refine tt ?_
  repeat (first | (with_reducible intro _) | refine ⟨sb, ?_⟩)
  refine ⟨lt_ [10, 11, 12], ?_⟩
  cases h; exact fin
  refine bi h fun r_3 h hr_3 => ?_
  refine tt ?_
  repeat (first | (with_reducible intro _) | (with_reducible refine and_i ?_ ?_; exact ss))
  refine cD (blocks_bit_ok hr_3) ?_
  refine tt ?_
  repeat (first | (with_reducible intro _) | refine ⟨sb, ?_⟩)
  refine ⟨lt_ [10, 11, 12], ?_⟩
  cases h; exact fin
theorem blocks_falls_ok {s : A4 Int} {in_ : List Int} {p2 : Int} {r : A4 Int} (h : blocks_falls s in_ p2 = some r) :
    Pu Tryz.prog 108 [.agg ((eA4 eI) s), .one (.sl (in_.map eI)), .one (.int .i64 p2)] (.agg ((eA4 eI) r)) := by
  have F := trivial; have R := trivial
  refine pA Tryz.func108 ?_
  simp only [Tryz.f108]
  unfold blocks_falls at h
  refine bx h F fun x_1 h hx_1 F => ?_
  refine tt ?_
  repeat (first | (with_reducible intro _) | (with_reducible refine and_i ?_ ?_; exact ss))
  refine fi h F (fun h _ F => ?_) (fun h _ F => ?_)
  refine bi h fun r_2 h hr_2 => ?_
  refine tt ?_
  repeat (first | (with_reducible intro _) | (with_reducible refine and_i ?_ ?_; exact ss))
  refine cD (blocks_bit_ok hr_2) ?_
  refine tt ?_
  repeat (first | (with_reducible intro _) | refine ⟨sb, ?_⟩)
  refine ⟨lt_ [10, 11, 12], ?_⟩
  cases h; exact fin
  refine bi h fun r_3 h hr_3 => ?_
  refine tt ?_
  repeat (first | (with_reducible intro _) | (with_reducible refine and_i ?_ ?_; exact ss))
  refine cD (blocks_bit_ok hr_3) ?_
  refine tt ?_
  repeat (first | (with_reducible intro _) | refine ⟨sb, ?_⟩)
  refine ⟨lt_ [10, 11, 12], ?_⟩
  cases h; exact fin
theorem blocks_sr_ok {s : A4 Int} {in_ : List Int} {p2 : Int} {r : A4 Int} (h : blocks_sr s in_ p2 = some r) :
    Pu Tryz.prog 109 [.agg ((eA4 eI) s), .one (.sl (in_.map eI)), .one (.int .i64 p2)] (.agg ((eA4 eI) r)) := by
  have F := trivial; have R := trivial
  refine pA Tryz.func109 ?_
  simp only [Tryz.f109]
  unfold blocks_sr at h
  refine bx h F fun x_1 h hx_1 F => ?_
  refine tt ?_
  repeat (first | (with_reducible intro _) | (with_reducible refine and_i ?_ ?_; exact ss))
  refine fi h F (fun h _ F => ?_) (fun h _ F => ?_)
  refine bi h fun r_2 h hr_2 => ?_
  refine tt ?_
  repeat (first | (with_reducible intro _) | (with_reducible refine and_i ?_ ?_; exact ss))
  refine cS (blocks_bit_ok hr_2) ?_
  cases h; exact fin
  refine tt ?_
  repeat (first | (with_reducible intro _) | (with_reducible refine and_i ?_ ?_; exact ss))
  refine fi h F (fun h _ F => ?_) (fun h _ F => ?_)
  refine bi h fun r_3 h hr_3 => ?_
  refine tt ?_
  repeat (first | (with_reducible intro _) | (with_reducible refine and_i ?_ ?_; exact ss))
  refine cS (blocks_bit_ok hr_3) ?_
  cases h; exact fin
  refine bx h F fun x_4 h hx_4 F => ?_
  refine bi h fun r_5 h hr_5 => ?_
  refine tt ?_
  repeat (first | (with_reducible intro _) | (with_reducible refine and_i ?_ ?_; exact ss))
  refine cS (blocks_bit_ok hr_5) ?_
  cases h; exact fin
theorem blocks_rs_ok {s : A4 Int} {in_ : List Int} {p2 : Int} {r : A4 Int} (h : blocks_rs s in_ p2 = some r) :
    Pu Tryz.prog 110 [.agg ((eA4 eI) s), .one (.sl (in_.map eI)), .one (.int .i64 p2)] (.agg ((eA4 eI) r)) := by
  have F := trivial; have R := trivial
  refine pA Tryz.func110 ?_
  simp only [Tryz.f110]
  unfold blocks_rs at h
  refine bx h F fun x_1 h hx_1 F => ?_
  refine tt ?_
  repeat (first | (with_reducible intro _) | (with_reducible refine and_i ?_ ?_; exact ss))
  refine fi h F (fun h _ F => ?_) (fun h _ F => ?_)
  refine bx h F fun x_2 h hx_2 F => ?_
  refine tt ?_
  repeat (first | (with_reducible intro _) | (with_reducible refine and_i ?_ ?_; exact ss))
  refine fi h F (fun h _ F => ?_) (fun h _ F => ?_)
  refine bi h fun r_3 h hr_3 => ?_
  refine tt ?_
  repeat (first | (with_reducible intro _) | (with_reducible refine and_i ?_ ?_; exact ss))
  refine cS (blocks_bit_ok hr_3) ?_
  cases h; exact fin
  refine bi h fun r_4 h hr_4 => ?_
  refine tt ?_
  repeat (first | (with_reducible intro _) | (with_reducible refine and_i ?_ ?_; exact ss))
  refine cS (blocks_bit_ok hr_4) ?_
  cases h; exact fin
  refine bi h fun r_5 h hr_5 => ?_
  refine tt ?_
  repeat (first | (with_reducible intro _) | (with_reducible refine and_i ?_ ?_; exact ss))
  refine cS (blocks_bit_ok hr_5) ?_
  cases h; exact fin
theorem blocks_of_ok {name : Str} {r : blocks_kind} (h : blocks_of name = some r) :
    Pu Tryz.prog 88 [.one (.str name)] (.agg (e_blocks_kind r)) := by
  have F := trivial; have R := trivial
  refine pA Tryz.func88 ?_
  simp only [Tryz.f88]
  unfold blocks_of at h
  refine tt ?_
  repeat (first | (with_reducible intro _) | (with_reducible refine and_i ?_ ?_; exact ss))
  refine fi h F (fun h _ F => ?_) (fun h _ F => ?_)
  refine tt ?_
  repeat (first | (with_reducible intro _) | (with_reducible refine and_i ?_ ?_; exact ss))
  refine iS Tryz.func100 ?_
  simp only [Tryz.f100]
  cases h; exact fin
  refine fi h F (fun h _ F => ?_) (fun h _ F => ?_)
  refine tt ?_
  repeat (first | (with_reducible intro _) | (with_reducible refine and_i ?_ ?_; exact ss))
  refine iS Tryz.func100 ?_
  simp only [Tryz.f100]
  cases h; exact fin
  refine fi h F (fun h _ F => ?_) (fun h _ F => ?_)
  refine tt ?_
  repeat (first | (with_reducible intro _) | (with_reducible refine and_i ?_ ?_; exact ss))
  refine iS Tryz.func100 ?_
  simp only [Tryz.f100]
  cases h; exact fin
  refine fi h F (fun h _ F => ?_) (fun h _ F => ?_)
  refine tt ?_
  repeat (first | (with_reducible intro _) | (with_reducible refine and_i ?_ ?_; exact ss))
  refine iS Tryz.func100 ?_
  simp only [Tryz.f100]
  cases h; exact fin
  refine tt ?_
  refine fi h F (fun h _ F => ?_) (fun h _ F => ?_)
  refine tt ?_
  repeat (first | (with_reducible intro _) | (with_reducible refine and_i ?_ ?_; exact ss))
  refine iS Tryz.func100 ?_
  simp only [Tryz.f100]
  cases h; exact fin
  refine fi h F (fun h _ F => ?_) (fun h _ F => ?_)
  cases h; exact fin
  refine fi h F (fun h _ F => ?_) (fun h _ F => ?_)
  refine tt ?_
  repeat (first | (with_reducible intro _) | (with_reducible refine and_i ?_ ?_; exact ss))
  refine iS Tryz.func100 ?_
  simp only [Tryz.f100]
  cases h; exact fin
  refine fi h F (fun h _ F => ?_) (fun h _ F => ?_)
  refine tt ?_
  repeat (first | (with_reducible intro _) | (with_reducible refine and_i ?_ ?_; exact ss))
  refine iS Tryz.func100 ?_
  simp only [Tryz.f100]
  cases h; exact fin
  refine tt ?_
  refine fi h F (fun h _ F => ?_) (fun h _ F => ?_)
  refine tt ?_
  repeat (first | (with_reducible intro _) | (with_reducible refine and_i ?_ ?_; exact ss))
  refine iS Tryz.func100 ?_
  simp only [Tryz.f100]
  cases h; exact fin
  refine fi h F (fun h _ F => ?_) (fun h _ F => ?_)
  refine tt ?_
  repeat (first | (with_reducible intro _) | (with_reducible refine and_i ?_ ?_; exact ss))
  refine iS Tryz.func100 ?_
  simp only [Tryz.f100]
  cases h; exact fin
  cases h; exact fin
theorem blocks_Inputs_ok {name : Str} {r : List Int} (h : blocks_Inputs name = some r) :
    Pu Tryz.prog 56 [.one (.str name)] (.one (.sl (r.map eI))) := by
  have F := trivial; have R := trivial
  refine pA Tryz.func56 ?_
  simp only [Tryz.f56]
  unfold blocks_Inputs at h
  refine tt ?_
  repeat (first | (with_reducible intro _) | (with_reducible refine and_i ?_ ?_; exact ss))
  refine iS Tryz.func88 ?_
  simp only [Tryz.f88]
  refine tt ?_
  repeat (first | (with_reducible intro _) | (with_reducible refine and_i ?_ ?_; exact ss))
  refine fi h F (fun h _ F => ?_) (fun h _ F => ?_)
  refine tt ?_
  repeat (first | (with_reducible intro _) | (with_reducible refine and_i ?_ ?_; exact ss))
  refine iS Tryz.func100 ?_
  simp only [Tryz.f100]
  cases h; exact fin
  refine fi h F (fun h _ F => ?_) (fun h _ F => ?_)
  refine tt ?_
  repeat (first | (with_reducible intro _) | (with_reducible refine and_i ?_ ?_; exact ss))
  refine iS Tryz.func100 ?_
  simp only [Tryz.f100]
  cases h; exact fin
  refine fi h F (fun h _ F => ?_) (fun h _ F => ?_)
  refine tt ?_
  repeat (first | (with_reducible intro _) | (with_reducible refine and_i ?_ ?_; exact ss))
  refine iS Tryz.func100 ?_
  simp only [Tryz.f100]
  cases h; exact fin
  refine fi h F (fun h _ F => ?_) (fun h _ F => ?_)
  refine tt ?_
  repeat (first | (with_reducible intro _) | (with_reducible refine and_i ?_ ?_; exact ss))
  refine iS Tryz.func100 ?_
  simp only [Tryz.f100]
  cases h; exact fin
  refine tt ?_
  refine fi h F (fun h _ F => ?_) (fun h _ F => ?_)
  refine tt ?_
  repeat (first | (with_reducible intro _) | (with_reducible refine and_i ?_ ?_; exact ss))
  refine iS Tryz.func100 ?_
  simp only [Tryz.f100]
  cases h; exact fin
  refine fi h F (fun h _ F => ?_) (fun h _ F => ?_)
  cases h; exact fin
  refine fi h F (fun h _ F => ?_) (fun h _ F => ?_)
  refine tt ?_
  repeat (first | (with_reducible intro _) | (with_reducible refine and_i ?_ ?_; exact ss))
  refine iS Tryz.func100 ?_
  simp only [Tryz.f100]
  cases h; exact fin
  refine fi h F (fun h _ F => ?_) (fun h _ F => ?_)
  refine tt ?_
  repeat (first | (with_reducible intro _) | (with_reducible refine and_i ?_ ?_; exact ss))
  refine iS Tryz.func100 ?_
  simp only [Tryz.f100]
  cases h; exact fin
  refine tt ?_
  refine fi h F (fun h _ F => ?_) (fun h _ F => ?_)
  refine tt ?_
  repeat (first | (with_reducible intro _) | (with_reducible refine and_i ?_ ?_; exact ss))
  refine iS Tryz.func100 ?_
  simp only [Tryz.f100]
  cases h; exact fin
  refine fi h F (fun h _ F => ?_) (fun h _ F => ?_)
  refine tt ?_
  repeat (first | (with_reducible intro _) | (with_reducible refine and_i ?_ ?_; exact ss))
  refine iS Tryz.func100 ?_
  simp only [Tryz.f100]
  cases h; exact fin
  cases h; exact fin
theorem slices_IndexFunc_int_int_ok {s : List Int} {f : (Int → Option Bool)} {r : Int}
    {f_f : FuncId} {f_c : List C} (f_cl : Clo f_c) (f_ok : ∀ (x0 : Int) (r : Bool), f x0 = some r → Pu Tryz.prog f_f ([.one (.int .i64 x0)] ++ f_c.map V.one) (.one (.bool r))) (h : slices_IndexFunc_int_int s f = some r) :
    Pu Tryz.prog 111 [.one (.sl (s.map eI)), .one (.fn f_f f_c)] (.one (.int .i64 r)) := by
  have F := trivial; have R := trivial
  refine pA Tryz.func111 ?_
  simp only [Tryz.f111]
  unfold slices_IndexFunc_int_int at h
  have F := And.intro f_cl.all F
  refine bi h fun e_2 h he_2 => ?_
  refine tt ?_
  repeat (first | (with_reducible intro _) | (with_reducible refine and_i ?_ ?_; exact ss))
  refine lE (fun (s__ : Nat) (a__ : Unit) => match s__, a__ with | x_1, _ => ⟨[(0, .one (.sl (s.map eI))), (1, .one (.fn f_f f_c)), (7, .one (.int .i64 (s.length : Int))), (8, .one (.int .i64 (x_1 : Int)))], []⟩) (fun (e__ : Int ⊕ Unit) (b__ : Unit) => match e__, b__ with | (.inl e_6), _ => ⟨[], []⟩ | (.inr ()), _ => ⟨[], []⟩) (fun (e__ : Int ⊕ Unit) => match e__ with | (.inl _) => none | (.inr _) => some 0) () he_2 ?_ ?_
  intro i3 b3 hi3
  rcases e_2 with e_case | ⟨⟩
  cases hi3
  obtain rfl := Option.some.inj hi3
  obtain ⟨⟩ := b3
  dsimp only at h ⊢
  cases h; exact fin
  intro af3 m3 x_1 a3 o3 hf3 ho3 ih3
  obtain ⟨⟩ := a3
  dsimp only [slices_IndexFunc_int_int_L1] at hf3 ⊢
  refine fl hf3 F (fun hf3 _ F => ?_) (fun hf3 _ F => ?_)
  refine bx hf3 F fun x_4 hf3 hx_4 F => ?_
  refine bi hf3 fun r_5 hf3 hr_5 => ?_
  refine tt ?_
  repeat (first | (with_reducible intro _) | (with_reducible refine and_i ?_ ?_; exact ss))
  refine cS (f_ok _ _ hr_5) ?_
  refine fv hf3 F (fun hf3 _ F => ?_) (fun hf3 _ F => ?_)
  cases hf3
  obtain rfl := sr ho3
  try dsimp only at h
  cases h
  exact fin
  cases hf3
  refine tt ?_
  refine wn x_1 F fun F => ?_
  exact bk ih3 ho3 ()
  cases hf3
  refine tt ?_
  exact xt ho3 af3 ()
theorem slices_ContainsFunc_int_int_ok {s : List Int} {f : (Int → Option Bool)} {r : Bool}
    {f_f : FuncId} {f_c : List C} (f_cl : Clo f_c) (f_ok : ∀ (x0 : Int) (r : Bool), f x0 = some r → Pu Tryz.prog f_f ([.one (.int .i64 x0)] ++ f_c.map V.one) (.one (.bool r))) (h : slices_ContainsFunc_int_int s f = some r) :
    Pu Tryz.prog 89 [.one (.sl (s.map eI)), .one (.fn f_f f_c)] (.one (.bool r)) := by
  have F := trivial; have R := trivial
  refine pA Tryz.func89 ?_
  simp only [Tryz.f89]
  unfold slices_ContainsFunc_int_int at h
  have F := And.intro f_cl.all F
  refine bi h fun r_1 h hr_1 => ?_
  refine tt ?_
  repeat (first | (with_reducible intro _) | (with_reducible refine and_i ?_ ?_; exact ss))
  refine cS (slices_IndexFunc_int_int_ok (f_f := f_f) (f_c := f_c) f_cl f_ok hr_1) ?_
  cases h; exact fin
theorem image_task_1_ok {n : Int} {r : Bool} (h : image_task_1 n = some r) :
    Pu Tryz.prog 90 [.one (.int .i64 n)] (.one (.bool r)) := by
  have F := trivial; have R := trivial
  refine pA Tryz.func90 ?_
  simp only [Tryz.f90]
  unfold image_task_1 at h
  refine fi h F (fun h _ F => ?_) (fun h _ F => ?_)
  cases h; exact fin
  cases h; exact fin
theorem image_task_ok {m : api_Image} {t : api_Task} {r : Bool} (h : image_task m t = some r) :
    Pu Tryz.prog 57 [.agg (e_api_Image m), .agg (e_api_Task t)] (.one (.bool r)) := by
  have F := trivial; have R := trivial
  refine pA Tryz.func57 ?_
  simp only [Tryz.f57]
  unfold image_task at h
  refine bi h fun r_1 h hr_1 => ?_
  refine tt ?_
  repeat (first | (with_reducible intro _) | (with_reducible refine and_i ?_ ?_; exact ss))
  refine cS (slices_ContainsFunc_int_int_ok (f_f := 90) (f_c := []) clo (fun _ r h => image_task_1_ok h) hr_1) ?_
  refine fv h F (fun h _ F => ?_) (fun h _ F => ?_)
  cases h; exact fin
  refine tt ?_
  refine fi h F (fun h _ F => ?_) (fun h _ F => ?_)
  refine fi h F (fun h _ F => ?_) (fun h _ F => ?_)
  refine tt ?_
  refine fi h F (fun h _ F => ?_) (fun h _ F => ?_)
  refine fi h F (fun h _ F => ?_) (fun h _ F => ?_)
  refine tt ?_
  repeat (first | (with_reducible intro _) | (with_reducible refine and_i ?_ ?_; exact ss))
  refine fi h F (fun h _ F => ?_) (fun h _ F => ?_)
  cases h; exact fin
  cases h; exact fin
  cases h; exact fin
  cases h; exact fin
  cases h; exact fin
  cases h; exact fin
theorem image_parts_ok {m : api_Image} {r : Bool} (h : image_parts m = some r) :
    Pu Tryz.prog 21 [.agg (e_api_Image m)] (.one (.bool r)) := by
  have F := trivial; have R := trivial
  refine pA Tryz.func21 ?_
  simp only [Tryz.f21]
  unfold image_parts at h
  refine bi h fun e_2 h he_2 => ?_
  refine tt ?_
  repeat (first | (with_reducible intro _) | (with_reducible refine and_i ?_ ?_; exact ss))
  refine lE (fun (s__ : Nat) (a__ : Unit) => match s__, a__ with | x_1, _ => ⟨[(1, .one (.ref 0 0 0 0)), (12, .one (.sl (m.Sites.map e_api_Site))), (13, .one (.int .i64 (m.Sites.length : Int))), (14, .one (.int .i64 (x_1 : Int)))], [.cells 0 7 [[.sl (m.Lattice.Names.map eS), .sl (m.Lattice.Below.map (eA2 eI)), .sl (m.Sites.map e_api_Site), .sl (m.Vars.map e_api_Var), .sl (m.Blocks.map e_api_Block), .sl (m.Tasks.map e_api_Task), .sl (m.Code.map (eL e_api_Ins))]]]⟩) (fun (e__ : Bool ⊕ Unit) (b__ : Unit) => match e__, b__ with | (.inl e_7), _ => ⟨[], []⟩ | (.inr ()), _ => ⟨[(1, .one (.ref 0 0 0 0))], [.cells 0 7 [[.sl (m.Lattice.Names.map eS), .sl (m.Lattice.Below.map (eA2 eI)), .sl (m.Sites.map e_api_Site), .sl (m.Vars.map e_api_Var), .sl (m.Blocks.map e_api_Block), .sl (m.Tasks.map e_api_Task), .sl (m.Code.map (eL e_api_Ins))]]]⟩) (fun (e__ : Bool ⊕ Unit) => match e__ with | (.inl _) => none | (.inr _) => some 0) () he_2 ?_ ?_
  intro i3 b3 hi3
  rcases e_2 with e_case | ⟨⟩
  cases hi3
  obtain rfl := Option.some.inj hi3
  obtain ⟨⟩ := b3
  dsimp only at h ⊢
  refine bi h fun e_9 h he_9 => ?_
  refine tt ?_
  repeat (first | (with_reducible intro _) | (with_reducible refine and_i ?_ ?_; exact ss))
  refine lE (fun (s__ : Nat) (a__ : Unit) => match s__, a__ with | x_8, _ => ⟨[(1, .one (.ref 0 0 0 0)), (41, .one (.sl (m.Vars.map e_api_Var))), (42, .one (.int .i64 (m.Vars.length : Int))), (43, .one (.int .i64 (x_8 : Int)))], [.cells 0 7 [[.sl (m.Lattice.Names.map eS), .sl (m.Lattice.Below.map (eA2 eI)), .sl (m.Sites.map e_api_Site), .sl (m.Vars.map e_api_Var), .sl (m.Blocks.map e_api_Block), .sl (m.Tasks.map e_api_Task), .sl (m.Code.map (eL e_api_Ins))]]]⟩) (fun (e__ : Bool ⊕ Unit) (b__ : Unit) => match e__, b__ with | (.inl e_13), _ => ⟨[], []⟩ | (.inr ()), _ => ⟨[(1, .one (.ref 0 0 0 0))], [.cells 0 7 [[.sl (m.Lattice.Names.map eS), .sl (m.Lattice.Below.map (eA2 eI)), .sl (m.Sites.map e_api_Site), .sl (m.Vars.map e_api_Var), .sl (m.Blocks.map e_api_Block), .sl (m.Tasks.map e_api_Task), .sl (m.Code.map (eL e_api_Ins))]]]⟩) (fun (e__ : Bool ⊕ Unit) => match e__ with | (.inl _) => none | (.inr _) => some 2) () he_9 ?_ ?_
  intro i10 b10 hi10
  rcases e_9 with e_case | ⟨⟩
  cases hi10
  obtain rfl := Option.some.inj hi10
  obtain ⟨⟩ := b10
  dsimp only at h ⊢
  refine bi h fun e_15 h he_15 => ?_
  refine tt ?_
  repeat (first | (with_reducible intro _) | (with_reducible refine and_i ?_ ?_; exact ss))
  refine lE (fun (s__ : Nat) (a__ : Unit) => match s__, a__ with | x_14, _ => ⟨[(1, .one (.ref 0 0 0 0)), (53, .one (.sl (m.Blocks.map e_api_Block))), (54, .one (.int .i64 (m.Blocks.length : Int))), (55, .one (.int .i64 (x_14 : Int)))], [.cells 0 7 [[.sl (m.Lattice.Names.map eS), .sl (m.Lattice.Below.map (eA2 eI)), .sl (m.Sites.map e_api_Site), .sl (m.Vars.map e_api_Var), .sl (m.Blocks.map e_api_Block), .sl (m.Tasks.map e_api_Task), .sl (m.Code.map (eL e_api_Ins))]]]⟩) (fun (e__ : Bool ⊕ Unit) (b__ : Unit) => match e__, b__ with | (.inl e_20), _ => ⟨[], []⟩ | (.inr ()), _ => ⟨[(1, .one (.ref 0 0 0 0))], [.cells 0 7 [[.sl (m.Lattice.Names.map eS), .sl (m.Lattice.Below.map (eA2 eI)), .sl (m.Sites.map e_api_Site), .sl (m.Vars.map e_api_Var), .sl (m.Blocks.map e_api_Block), .sl (m.Tasks.map e_api_Task), .sl (m.Code.map (eL e_api_Ins))]]]⟩) (fun (e__ : Bool ⊕ Unit) => match e__ with | (.inl _) => none | (.inr _) => some 4) () he_15 ?_ ?_
  intro i16 b16 hi16
  rcases e_15 with e_case | ⟨⟩
  cases hi16
  obtain rfl := Option.some.inj hi16
  obtain ⟨⟩ := b16
  dsimp only at h ⊢
  refine tt ?_
  repeat (first | (with_reducible intro _) | (with_reducible refine and_i ?_ ?_; exact ss))
  refine fi h F (fun h _ F => ?_) (fun h _ F => ?_)
  refine bi h fun e_22 h he_22 => ?_
  refine tt ?_
  repeat (first | (with_reducible intro _) | (with_reducible refine and_i ?_ ?_; exact ss))
  refine lE (fun (s__ : Nat) (a__ : Unit) => match s__, a__ with | x_21, _ => ⟨[(1, .one (.ref 0 0 0 0)), (89, .one (.sl (m.Tasks.map e_api_Task))), (90, .one (.int .i64 (m.Tasks.length : Int))), (91, .one (.int .i64 (x_21 : Int)))], [.cells 0 7 [[.sl (m.Lattice.Names.map eS), .sl (m.Lattice.Below.map (eA2 eI)), .sl (m.Sites.map e_api_Site), .sl (m.Vars.map e_api_Var), .sl (m.Blocks.map e_api_Block), .sl (m.Tasks.map e_api_Task), .sl (m.Code.map (eL e_api_Ins))]]]⟩) (fun (e__ : Bool ⊕ Unit) (b__ : Unit) => match e__, b__ with | (.inl e_28), _ => ⟨[], []⟩ | (.inr ()), _ => ⟨[], [.cells 0 7 [[.sl (m.Lattice.Names.map eS), .sl (m.Lattice.Below.map (eA2 eI)), .sl (m.Sites.map e_api_Site), .sl (m.Vars.map e_api_Var), .sl (m.Blocks.map e_api_Block), .sl (m.Tasks.map e_api_Task), .sl (m.Code.map (eL e_api_Ins))]]]⟩) (fun (e__ : Bool ⊕ Unit) => match e__ with | (.inl _) => none | (.inr _) => some 6) () he_22 ?_ ?_
  intro i23 b23 hi23
  rcases e_22 with e_case | ⟨⟩
  cases hi23
  obtain rfl := Option.some.inj hi23
  obtain ⟨⟩ := b23
  dsimp only at h ⊢
  cases h; exact fin
  intro af23 m23 x_21 a23 o23 hf23 ho23 ih23
  obtain ⟨⟩ := a23
  dsimp only [image_parts_L4] at hf23 ⊢
  refine fl hf23 F (fun hf23 _ F => ?_) (fun hf23 _ F => ?_)
  refine bx hf23 F fun x_24 hf23 hx_24 F => ?_
  refine bi hf23 fun r_25 hf23 hr_25 => ?_
  refine tt ?_
  repeat (first | (with_reducible intro _) | (with_reducible refine and_i ?_ ?_; exact ss))
  refine cS (image_task_ok hr_25) ?_
  refine fv hf23 F (fun hf23 _ F => ?_) (fun hf23 _ F => ?_)
  refine bx hf23 F fun x_26 hf23 hx_26 F => ?_
  refine bi hf23 fun r_27 hf23 hr_27 => ?_
  refine tt ?_
  repeat (first | (with_reducible intro _) | (with_reducible refine and_i ?_ ?_; exact ss))
  refine cS (code_Check_ok hr_27) ?_
  refine fi hf23 F (fun hf23 _ F => ?_) (fun hf23 _ F => ?_)
  cases hf23
  refine tt ?_
  refine wn x_21 F fun F => ?_
  exact bk ih23 ho23 ()
  cases hf23
  obtain rfl := sr ho23
  try dsimp only at h
  cases h
  exact fin
  cases hf23
  obtain rfl := sr ho23
  try dsimp only at h
  cases h
  exact fin
  cases hf23
  refine tt ?_
  exact xt ho23 af23 ()
  cases h; exact fin
  intro af16 m16 x_14 a16 o16 hf16 ho16 ih16
  obtain ⟨⟩ := a16
  dsimp only [image_parts_L3] at hf16 ⊢
  refine fl hf16 F (fun hf16 _ F => ?_) (fun hf16 _ F => ?_)
  refine bx hf16 F fun x_17 hf16 hx_17 F => ?_
  refine tt ?_
  repeat (first | (with_reducible intro _) | (with_reducible refine and_i ?_ ?_; exact ss))
  refine fi hf16 F (fun hf16 _ F => ?_) (fun hf16 _ F => ?_)
  refine bi hf16 fun r_18 hf16 hr_18 => ?_
  refine tt ?_
  repeat (first | (with_reducible intro _) | (with_reducible refine and_i ?_ ?_; exact ss))
  refine cS (image_label_ok hr_18) ?_
  refine fv hf16 F (fun hf16 _ F => ?_) (fun hf16 _ F => ?_)
  refine bi hf16 fun r_19 hf16 hr_19 => ?_
  refine tt ?_
  repeat (first | (with_reducible intro _) | (with_reducible refine and_i ?_ ?_; exact ss))
  refine cS (blocks_Inputs_ok hr_19) ?_
  refine tt ?_
  repeat (first | (with_reducible intro _) | (with_reducible refine and_i ?_ ?_; exact ss))
  refine fi hf16 F (fun hf16 _ F => ?_) (fun hf16 _ F => ?_)
  cases hf16
  obtain rfl := sr ho16
  try dsimp only at h
  cases h
  exact fin
  cases hf16
  refine tt ?_
  refine wn x_14 F fun F => ?_
  exact bk ih16 ho16 ()
  cases hf16
  obtain rfl := sr ho16
  try dsimp only at h
  cases h
  exact fin
  cases hf16
  obtain rfl := sr ho16
  try dsimp only at h
  cases h
  exact fin
  cases hf16
  refine tt ?_
  exact xt ho16 af16 ()
  intro af10 m10 x_8 a10 o10 hf10 ho10 ih10
  obtain ⟨⟩ := a10
  dsimp only [image_parts_L2] at hf10 ⊢
  refine fl hf10 F (fun hf10 _ F => ?_) (fun hf10 _ F => ?_)
  refine bx hf10 F fun x_11 hf10 hx_11 F => ?_
  refine bi hf10 fun r_12 hf10 hr_12 => ?_
  refine tt ?_
  repeat (first | (with_reducible intro _) | (with_reducible refine and_i ?_ ?_; exact ss))
  refine cS (image_variable_ok hr_12) ?_
  refine fv hf10 F (fun hf10 _ F => ?_) (fun hf10 _ F => ?_)
  cases hf10
  refine tt ?_
  refine wn x_8 F fun F => ?_
  exact bk ih10 ho10 ()
  cases hf10
  obtain rfl := sr ho10
  try dsimp only at h
  cases h
  exact fin
  cases hf10
  refine tt ?_
  exact xt ho10 af10 ()
  intro af3 m3 x_1 a3 o3 hf3 ho3 ih3
  obtain ⟨⟩ := a3
  dsimp only [image_parts_L1] at hf3 ⊢
  refine fl hf3 F (fun hf3 _ F => ?_) (fun hf3 _ F => ?_)
  refine bx hf3 F fun x_4 hf3 hx_4 F => ?_
  refine tt ?_
  repeat (first | (with_reducible intro _) | (with_reducible refine and_i ?_ ?_; exact ss))
  refine fi hf3 F (fun hf3 _ F => ?_) (fun hf3 _ F => ?_)
  refine bi hf3 fun r_5 hf3 hr_5 => ?_
  refine tt ?_
  repeat (first | (with_reducible intro _) | (with_reducible refine and_i ?_ ?_; exact ss))
  refine cS (image_label_ok hr_5) ?_
  refine fv hf3 F (fun hf3 _ F => ?_) (fun hf3 _ F => ?_)
  refine bi hf3 fun r_6 hf3 hr_6 => ?_
  refine tt ?_
  repeat (first | (with_reducible intro _) | (with_reducible refine and_i ?_ ?_; exact ss))
  refine cS (image_label_ok hr_6) ?_
  refine fv hf3 F (fun hf3 _ F => ?_) (fun hf3 _ F => ?_)
  cases hf3
  refine tt ?_
  refine wn x_1 F fun F => ?_
  exact bk ih3 ho3 ()
  cases hf3
  obtain rfl := sr ho3
  try dsimp only at h
  cases h
  exact fin
  cases hf3
  obtain rfl := sr ho3
  try dsimp only at h
  cases h
  exact fin
  cases hf3
  obtain rfl := sr ho3
  try dsimp only at h
  cases h
  exact fin
  cases hf3
  refine tt ?_
  exact xt ho3 af3 ()
theorem image_Check_ok {m : api_Image} {r : Int} (h : image_Check m = some r) :
    Pu Tryz.prog 9 [.agg (e_api_Image m)] (.one (.int .i64 r)) := by
  have F := trivial; have R := trivial
  refine pA Tryz.func9 ?_
  simp only [Tryz.f9]
  unfold image_Check at h
  refine bi h fun r_1 h hr_1 => ?_
  refine tt ?_
  repeat (first | (with_reducible intro _) | (with_reducible refine and_i ?_ ?_; exact ss))
  refine cS (image_small_ok hr_1) ?_
  refine fv h F (fun h _ F => ?_) (fun h _ F => ?_)
  refine bi h fun r_2 h hr_2 => ?_
  refine tt ?_
  repeat (first | (with_reducible intro _) | (with_reducible refine and_i ?_ ?_; exact ss))
  refine cS (lattice_Check_ok hr_2) ?_
  refine fi h F (fun h _ F => ?_) (fun h _ F => ?_)
  refine bi h fun r_3 h hr_3 => ?_
  refine tt ?_
  repeat (first | (with_reducible intro _) | (with_reducible refine and_i ?_ ?_; exact ss))
  refine cS (image_parts_ok hr_3) ?_
  refine fv h F (fun h _ F => ?_) (fun h _ F => ?_)
  cases h; exact fin
  cases h; exact fin
  cases h; exact fin
  cases h; exact fin
end Go.Lz
