/- V18w -/
import Derived.Test.YtakkdadfikcpoaaGreatV18c
namespace Go.Lz
set_option linter.unusedVariables false
set_option linter.unusedSimpArgs false
open Go.Proofs
attribute [-go_sem] q_cond g_b gd_b
set_option maxRecDepth 100000
set_option maxHeartbeats 4000000
noncomputable section
def lazarettolaw18_Few_L3 (m : api_Image) : (Int × Nat) → Option ((Int × Nat) ⊕ (Int))
  | (n_13, i_14) => if (i_14 : Int) < (m.Code.length : Int) then (if n_13 < 40000 then ((m.Code[i_14]?).bind fun x_17 => some (.inl ((w64 (n_13 + (x_17.length : Int))), (i_14 + 1)))) else (some (.inr (n_13)))) else (some (.inr (n_13)))
def lazarettolaw18_Few_L2 (m : api_Image) : (Int × Nat) → Option ((Int × Nat) ⊕ (Int))
  | (n_7, i_8) => if (i_8 : Int) < (m.Tasks.length : Int) then (if n_7 < 40000 then ((m.Tasks[i_8]?).bind fun x_11 => some (.inl ((w64 (n_7 + (x_11.Budget.length : Int))), (i_8 + 1)))) else (some (.inr (n_7)))) else (some (.inr (n_7)))
def lazarettolaw18_Few_L1 (m : api_Image) : (Int × Nat) → Option ((Int × Nat) ⊕ (Int))
  | (n_1, i_2) => if (i_2 : Int) < (m.Lattice.Names.length : Int) then (if n_1 < 40000 then ((m.Lattice.Names[i_2]?).bind fun x_5 => some (.inl ((w64 (n_1 + (x_5.length : Int))), (i_2 + 1)))) else (some (.inr (n_1)))) else (some (.inr (n_1)))
def lazarettolaw18_Few (m : api_Image) : Option Int :=
  if 50 < (m.Lattice.Names.length : Int) then (some 0) else (if 200 < (m.Lattice.Below.length : Int) then (some 0) else (if 200 < (m.Sites.length : Int) then (some 0) else (if 500 < (m.Vars.length : Int) then (some 0) else (if 200 < (m.Blocks.length : Int) then (some 0) else (if 50 < (m.Tasks.length : Int) then (some 0) else (if 50 < (m.Code.length : Int) then (some 0) else ((loop (lazarettolaw18_Few_L1 m) (0, 0)).bind (fun e_3 => (loop (lazarettolaw18_Few_L2 m) (e_3, 0)).bind (fun e_9 => (loop (lazarettolaw18_Few_L3 m) (e_9, 0)).bind (fun e_15 => if e_15 < 40000 then (some 1) else (some 0)))))))))))
def lazarettoref01_Same_L2 (a : api_Lattice) (b : api_Lattice) : Nat → Option ((Nat) ⊕ (Bool ⊕ Unit))
  | i_7 => if (i_7 : Int) < (a.Below.length : Int) then ((a.Below[i_7]?).bind fun x_10 => (b.Below[i_7]?).bind fun x_11 => if x_10.a0 = x_11.a0 ∧ x_10.a1 = x_11.a1 then (some (.inl (i_7 + 1))) else (some (.inr (.inl (false))))) else (some (.inr (.inr (()))))
def lazarettoref01_Same_L1 (a : api_Lattice) (b : api_Lattice) : Nat → Option ((Nat) ⊕ (Bool ⊕ Unit))
  | i_1 => if (i_1 : Int) < (a.Names.length : Int) then ((a.Names[i_1]?).bind fun x_4 => (b.Names[i_1]?).bind fun x_5 => if x_4 = x_5 then (some (.inl (i_1 + 1))) else (some (.inr (.inl (false))))) else (some (.inr (.inr (()))))
def lazarettoref01_Same (a : api_Lattice) (b : api_Lattice) : Option Bool :=
  if (a.Names.length : Int) = (b.Names.length : Int) then (if (a.Below.length : Int) = (b.Below.length : Int) then ((loop (lazarettoref01_Same_L1 a b) 0).bind (fun e__ => match e__ with | (.inl e_6) => some e_6 | (.inr ()) => (loop (lazarettoref01_Same_L2 a b) 0).bind (fun e__ => match e__ with | (.inl e_12) => some e_12 | (.inr ()) => some true))) else (some false)) else (some false)
def lazarettoref04_Ints_L1 (a : List Int) (b : List Int) : Nat → Option ((Nat) ⊕ (Bool ⊕ Unit))
  | i_1 => if (i_1 : Int) < (a.length : Int) then ((a[i_1]?).bind fun x_4 => (b[i_1]?).bind fun x_5 => if x_4 = x_5 then (some (.inl (i_1 + 1))) else (some (.inr (.inl (false))))) else (some (.inr (.inr (()))))
def lazarettoref04_Ints (a : List Int) (b : List Int) : Option Bool :=
  if (a.length : Int) = (b.length : Int) then ((loop (lazarettoref04_Ints_L1 a b) 0).bind (fun e__ => match e__ with | (.inl e_6) => some e_6 | (.inr ()) => some true)) else (some false)
def lazarettoref17_Same_L1 (a : List api_Ins) (b : List api_Ins) : Nat → Option ((Nat) ⊕ (Bool ⊕ Unit))
  | i_1 => if (i_1 : Int) < (a.length : Int) then ((a[i_1]?).bind fun x_4 => (b[i_1]?).bind fun x_5 => if x_4.Op = x_5.Op ∧ x_4.A = x_5.A ∧ x_4.B_ = x_5.B_ ∧ x_4.Label = x_5.Label then (some (.inl (i_1 + 1))) else (some (.inr (.inl (false))))) else (some (.inr (.inr (()))))
def lazarettoref17_Same (a : List api_Ins) (b : List api_Ins) : Option Bool :=
  if (a.length : Int) = (b.length : Int) then ((loop (lazarettoref17_Same_L1 a b) 0).bind (fun e__ => match e__ with | (.inl e_6) => some e_6 | (.inr ()) => some true)) else (some false)
def lazarettoref18_Same_L5 (a : api_Image) (b : api_Image) : Nat → Option ((Nat) ⊕ (Bool ⊕ Unit))
  | i_27 => if (i_27 : Int) < (a.Code.length : Int) then ((a.Code[i_27]?).bind fun x_30 => (b.Code[i_27]?).bind fun x_31 => (lazarettoref17_Same x_30 x_31).bind fun r_32 => if r_32 = true then (some (.inl (i_27 + 1))) else (some (.inr (.inl (false))))) else (some (.inr (.inr (()))))
def lazarettoref18_Same_L4 (a : api_Image) (b : api_Image) : Nat → Option ((Nat) ⊕ (Bool ⊕ Unit))
  | i_20 => if (i_20 : Int) < (a.Tasks.length : Int) then ((a.Tasks[i_20]?).bind fun x_23 => (b.Tasks[i_20]?).bind fun x_24 => if x_23.Every = x_24.Every then (if x_23.Priority = x_24.Priority then ((lazarettoref04_Ints x_23.Budget x_24.Budget).bind fun r_25 => if r_25 = true then (if (x_23.Body.length : Int) = (x_24.Body.length : Int) then (some (.inl (i_20 + 1))) else (some (.inr (.inl (false))))) else (some (.inr (.inl (false))))) else (some (.inr (.inl (false))))) else (some (.inr (.inl (false))))) else (some (.inr (.inr (()))))
def lazarettoref18_Same_L3 (a : api_Image) (b : api_Image) : Nat → Option ((Nat) ⊕ (Bool ⊕ Unit))
  | i_14 => if (i_14 : Int) < (a.Blocks.length : Int) then ((a.Blocks[i_14]?).bind fun x_17 => (b.Blocks[i_14]?).bind fun x_18 => if x_17.Name = x_18.Name ∧ x_17.Kind = x_18.Kind ∧ x_17.Label = x_18.Label then (some (.inl (i_14 + 1))) else (some (.inr (.inl (false))))) else (some (.inr (.inr (()))))
def lazarettoref18_Same_L2 (a : api_Image) (b : api_Image) : Nat → Option ((Nat) ⊕ (Bool ⊕ Unit))
  | i_8 => if (i_8 : Int) < (a.Vars.length : Int) then ((a.Vars[i_8]?).bind fun x_11 => (b.Vars[i_8]?).bind fun x_12 => if x_11.Name = x_12.Name ∧ x_11.Type_.Kind = x_12.Type_.Kind ∧ x_11.Type_.Low = x_12.Type_.Low ∧ x_11.Type_.Len = x_12.Type_.Len ∧ x_11.Mode = x_12.Mode ∧ x_11.Label = x_12.Label ∧ x_11.Safe = x_12.Safe then (some (.inl (i_8 + 1))) else (some (.inr (.inl (false))))) else (some (.inr (.inr (()))))
def lazarettoref18_Same_L1 (a : api_Image) (b : api_Image) : Nat → Option ((Nat) ⊕ (Bool ⊕ Unit))
  | i_2 => if (i_2 : Int) < (a.Sites.length : Int) then ((a.Sites[i_2]?).bind fun x_5 => (b.Sites[i_2]?).bind fun x_6 => if x_5.Name = x_6.Name ∧ x_5.From = x_6.From ∧ x_5.To = x_6.To then (some (.inl (i_2 + 1))) else (some (.inr (.inl (false))))) else (some (.inr (.inr (()))))
def lazarettoref18_Same (a : api_Image) (b : api_Image) : Option Bool :=
  (lazarettoref01_Same a.Lattice b.Lattice).bind fun r_1 => if r_1 = true then (if (a.Sites.length : Int) = (b.Sites.length : Int) then (if (a.Vars.length : Int) = (b.Vars.length : Int) then (if (a.Blocks.length : Int) = (b.Blocks.length : Int) then (if (a.Tasks.length : Int) = (b.Tasks.length : Int) then (if (a.Code.length : Int) = (b.Code.length : Int) then ((loop (lazarettoref18_Same_L1 a b) 0).bind (fun e__ => match e__ with | (.inl e_7) => some e_7 | (.inr ()) => (loop (lazarettoref18_Same_L2 a b) 0).bind (fun e__ => match e__ with | (.inl e_13) => some e_13 | (.inr ()) => (loop (lazarettoref18_Same_L3 a b) 0).bind (fun e__ => match e__ with | (.inl e_19) => some e_19 | (.inr ()) => (loop (lazarettoref18_Same_L4 a b) 0).bind (fun e__ => match e__ with | (.inl e_26) => some e_26 | (.inr ()) => (loop (lazarettoref18_Same_L5 a b) 0).bind (fun e__ => match e__ with | (.inl e_33) => some e_33 | (.inr ()) => some true)))))) else (some false)) else (some false)) else (some false)) else (some false)) else (some false)) else (some false)
def slices_EqualFunc_api_Task_api_Task_api_Task_api_Task_L1 (s1 : List api_Task) (s2 : List api_Task) (eq : (api_Task → api_Task → Option Bool)) : Nat → Option ((Nat) ⊕ (Bool ⊕ Unit))
  | x_1 => if (x_1 : Int) < (s1.length : Int) then ((s1[x_1]?).bind fun x_4 => (s2[x_1]?).bind fun x_5 => (eq x_4 x_5).bind fun r_6 => if r_6 = true then (some (.inl (x_1 + 1))) else (some (.inr (.inl (false))))) else (some (.inr (.inr (()))))
def slices_EqualFunc_api_Task_api_Task_api_Task_api_Task (s1 : List api_Task) (s2 : List api_Task) (eq : (api_Task → api_Task → Option Bool)) : Option Bool :=
  if (s1.length : Int) = (s2.length : Int) then ((loop (slices_EqualFunc_api_Task_api_Task_api_Task_api_Task_L1 s1 s2 eq) 0).bind (fun e__ => match e__ with | (.inl e_7) => some e_7 | (.inr ()) => some true)) else (some false)
def slices_Equal_int_int_L1 (s1 : List Int) (s2 : List Int) : Nat → Option ((Nat) ⊕ (Bool ⊕ Unit))
  | x_1 => if (x_1 : Int) < (s1.length : Int) then ((s1[x_1]?).bind fun x_4 => (s2[x_1]?).bind fun x_5 => if x_4 = x_5 then (some (.inl (x_1 + 1))) else (some (.inr (.inl (false))))) else (some (.inr (.inr (()))))
def slices_Equal_int_int (s1 : List Int) (s2 : List Int) : Option Bool :=
  if (s1.length : Int) = (s2.length : Int) then ((loop (slices_Equal_int_int_L1 s1 s2) 0).bind (fun e__ => match e__ with | (.inl e_6) => some e_6 | (.inr ()) => some true)) else (some false)
def image_Same_1 (x : api_Task) (y : api_Task) : Option Bool :=
  if x.Every = y.Every then (if x.Priority = y.Priority then ((slices_Equal_int_int x.Budget y.Budget).bind fun r_1 => if r_1 = true then (some (decide ((x.Body.length : Int) = (y.Body.length : Int)))) else (some false)) else (some false)) else (some false)
def slices_Equal_string_string_L1 (s1 : List Str) (s2 : List Str) : Nat → Option ((Nat) ⊕ (Bool ⊕ Unit))
  | x_1 => if (x_1 : Int) < (s1.length : Int) then ((s1[x_1]?).bind fun x_4 => (s2[x_1]?).bind fun x_5 => if x_4 = x_5 then (some (.inl (x_1 + 1))) else (some (.inr (.inl (false))))) else (some (.inr (.inr (()))))
def slices_Equal_string_string (s1 : List Str) (s2 : List Str) : Option Bool :=
  if (s1.length : Int) = (s2.length : Int) then ((loop (slices_Equal_string_string_L1 s1 s2) 0).bind (fun e__ => match e__ with | (.inl e_6) => some e_6 | (.inr ()) => some true)) else (some false)
def slices_Equal_2_int_2_int_L1 (s1 : List (A2 Int)) (s2 : List (A2 Int)) : Nat → Option ((Nat) ⊕ (Bool ⊕ Unit))
  | x_1 => if (x_1 : Int) < (s1.length : Int) then ((s1[x_1]?).bind fun x_4 => (s2[x_1]?).bind fun x_5 => if x_4.a0 = x_5.a0 ∧ x_4.a1 = x_5.a1 then (some (.inl (x_1 + 1))) else (some (.inr (.inl (false))))) else (some (.inr (.inr (()))))
def slices_Equal_2_int_2_int (s1 : List (A2 Int)) (s2 : List (A2 Int)) : Option Bool :=
  if (s1.length : Int) = (s2.length : Int) then ((loop (slices_Equal_2_int_2_int_L1 s1 s2) 0).bind (fun e__ => match e__ with | (.inl e_6) => some e_6 | (.inr ()) => some true)) else (some false)
def slices_Equal_api_Site_api_Site_L1 (s1 : List api_Site) (s2 : List api_Site) : Nat → Option ((Nat) ⊕ (Bool ⊕ Unit))
  | x_1 => if (x_1 : Int) < (s1.length : Int) then ((s1[x_1]?).bind fun x_4 => (s2[x_1]?).bind fun x_5 => if x_4.Name = x_5.Name ∧ x_4.From = x_5.From ∧ x_4.To = x_5.To then (some (.inl (x_1 + 1))) else (some (.inr (.inl (false))))) else (some (.inr (.inr (()))))
def slices_Equal_api_Site_api_Site (s1 : List api_Site) (s2 : List api_Site) : Option Bool :=
  if (s1.length : Int) = (s2.length : Int) then ((loop (slices_Equal_api_Site_api_Site_L1 s1 s2) 0).bind (fun e__ => match e__ with | (.inl e_6) => some e_6 | (.inr ()) => some true)) else (some false)
def slices_Equal_api_Var_api_Var_L1 (s1 : List api_Var) (s2 : List api_Var) : Nat → Option ((Nat) ⊕ (Bool ⊕ Unit))
  | x_1 => if (x_1 : Int) < (s1.length : Int) then ((s1[x_1]?).bind fun x_4 => (s2[x_1]?).bind fun x_5 => if x_4.Name = x_5.Name ∧ x_4.Type_.Kind = x_5.Type_.Kind ∧ x_4.Type_.Low = x_5.Type_.Low ∧ x_4.Type_.Len = x_5.Type_.Len ∧ x_4.Mode = x_5.Mode ∧ x_4.Label = x_5.Label ∧ x_4.Safe = x_5.Safe then (some (.inl (x_1 + 1))) else (some (.inr (.inl (false))))) else (some (.inr (.inr (()))))
def slices_Equal_api_Var_api_Var (s1 : List api_Var) (s2 : List api_Var) : Option Bool :=
  if (s1.length : Int) = (s2.length : Int) then ((loop (slices_Equal_api_Var_api_Var_L1 s1 s2) 0).bind (fun e__ => match e__ with | (.inl e_6) => some e_6 | (.inr ()) => some true)) else (some false)
def slices_Equal_api_Block_api_Block_L1 (s1 : List api_Block) (s2 : List api_Block) : Nat → Option ((Nat) ⊕ (Bool ⊕ Unit))
  | x_1 => if (x_1 : Int) < (s1.length : Int) then ((s1[x_1]?).bind fun x_4 => (s2[x_1]?).bind fun x_5 => if x_4.Name = x_5.Name ∧ x_4.Kind = x_5.Kind ∧ x_4.Label = x_5.Label then (some (.inl (x_1 + 1))) else (some (.inr (.inl (false))))) else (some (.inr (.inr (()))))
def slices_Equal_api_Block_api_Block (s1 : List api_Block) (s2 : List api_Block) : Option Bool :=
  if (s1.length : Int) = (s2.length : Int) then ((loop (slices_Equal_api_Block_api_Block_L1 s1 s2) 0).bind (fun e__ => match e__ with | (.inl e_6) => some e_6 | (.inr ()) => some true)) else (some false)
def slices_EqualFunc__LL_api_Ins__LL_api_Ins_api_Ins_api_Ins_L1 (s1 : List (List api_Ins)) (s2 : List (List api_Ins)) (eq : ((List api_Ins) → (List api_Ins) → Option Bool)) : Nat → Option ((Nat) ⊕ (Bool ⊕ Unit))
  | x_1 => if (x_1 : Int) < (s1.length : Int) then ((s1[x_1]?).bind fun x_4 => (s2[x_1]?).bind fun x_5 => (eq x_4 x_5).bind fun r_6 => if r_6 = true then (some (.inl (x_1 + 1))) else (some (.inr (.inl (false))))) else (some (.inr (.inr (()))))
def slices_EqualFunc__LL_api_Ins__LL_api_Ins_api_Ins_api_Ins (s1 : List (List api_Ins)) (s2 : List (List api_Ins)) (eq : ((List api_Ins) → (List api_Ins) → Option Bool)) : Option Bool :=
  if (s1.length : Int) = (s2.length : Int) then ((loop (slices_EqualFunc__LL_api_Ins__LL_api_Ins_api_Ins_api_Ins_L1 s1 s2 eq) 0).bind (fun e__ => match e__ with | (.inl e_7) => some e_7 | (.inr ()) => some true)) else (some false)
def slices_Equal_api_Ins_api_Ins_L1 (s1 : List api_Ins) (s2 : List api_Ins) : Nat → Option ((Nat) ⊕ (Bool ⊕ Unit))
  | x_1 => if (x_1 : Int) < (s1.length : Int) then ((s1[x_1]?).bind fun x_4 => (s2[x_1]?).bind fun x_5 => if x_4.Op = x_5.Op ∧ x_4.A = x_5.A ∧ x_4.B_ = x_5.B_ ∧ x_4.Label = x_5.Label then (some (.inl (x_1 + 1))) else (some (.inr (.inl (false))))) else (some (.inr (.inr (()))))
def slices_Equal_api_Ins_api_Ins (s1 : List api_Ins) (s2 : List api_Ins) : Option Bool :=
  if (s1.length : Int) = (s2.length : Int) then ((loop (slices_Equal_api_Ins_api_Ins_L1 s1 s2) 0).bind (fun e__ => match e__ with | (.inl e_6) => some e_6 | (.inr ()) => some true)) else (some false)
def image_Same (a : api_Image) (b : api_Image) : Option Bool :=
  (slices_EqualFunc_api_Task_api_Task_api_Task_api_Task a.Tasks b.Tasks image_Same_1).bind fun r_1 => (slices_Equal_string_string a.Lattice.Names b.Lattice.Names).bind fun r_2 => if r_2 = true then ((slices_Equal_2_int_2_int a.Lattice.Below b.Lattice.Below).bind fun r_3 => if r_1 = true then (if r_3 = true then ((slices_Equal_api_Site_api_Site a.Sites b.Sites).bind fun r_4 => if r_4 = true then ((slices_Equal_api_Var_api_Var a.Vars b.Vars).bind fun r_5 => if r_5 = true then ((slices_Equal_api_Block_api_Block a.Blocks b.Blocks).bind fun r_6 => if r_6 = true then ((slices_EqualFunc__LL_api_Ins__LL_api_Ins_api_Ins_api_Ins a.Code b.Code slices_Equal_api_Ins_api_Ins).bind fun r_7 => some r_7) else (some false)) else (some false)) else (some false)) else (some false)) else (some false)) else (if r_1 = true then (some false) else (some false))
def lazarettolaw18_awake : Option Bool :=
  (image_Encode (⟨(⟨[([97] : Str)], []⟩ : api_Lattice), [], [], [], [], []⟩ : api_Image)).bind fun r_1 => (image_Decode r_1.1).bind fun r_2 => need (r_1.1.length + 1 ≤ 281474976710656) ((image_Decode (r_1.1 ++ ([120] : Str))).bind fun r_4 => if r_1.2 = 0 then (if r_2.2 = 0 then ((lazarettoref18_Same (⟨(⟨[([97] : Str)], []⟩ : api_Lattice), [], [], [], [], []⟩ : api_Image) r_2.1).bind fun r_5 => if r_5 = true then (if (r_1.1.length : Int) = 33 then (need (0 ≤ 0 ∧ 0 ≤ 4 ∧ 4 ≤ r_1.1.length) (if (r_1.1.take 4) = ([76, 90, 82, 49] : Str) then (if r_4.2 = 8 then ((image_Check (⟨(⟨[], []⟩ : api_Lattice), [], [], [], [], []⟩ : api_Image)).bind fun r_7 => if r_7 = 3 then ((image_Same (⟨(⟨[([97] : Str)], []⟩ : api_Lattice), [], [], [], [], []⟩ : api_Image) r_2.1).bind fun r_8 => some r_8) else (some false)) else (some false)) else (some false))) else (some false)) else (some false)) else (some false)) else (some false))
end
theorem lazarettolaw18_Few_ok {m : api_Image} {r : Int} (h : lazarettolaw18_Few m = some r) :
    Pu Tryz.prog 5 [.agg (e_api_Image m)] (.one (.int .i64 r)) := by
  have F := trivial; have R := trivial
  refine pA Tryz.func5 ?_
  simp only [Tryz.f5]
  unfold lazarettolaw18_Few at h
  refine tt ?_
  repeat (first | (with_reducible intro _) | (with_reducible refine and_i ?_ ?_; exact ss))
  refine fi h F (fun h _ F => ?_) (fun h _ F => ?_)
  cases h; exact fin
  refine tt ?_
  repeat (first | (with_reducible intro _) | (with_reducible refine and_i ?_ ?_; exact ss))
  refine fi h F (fun h _ F => ?_) (fun h _ F => ?_)
  cases h; exact fin
  refine tt ?_
  repeat (first | (with_reducible intro _) | (with_reducible refine and_i ?_ ?_; exact ss))
  refine fi h F (fun h _ F => ?_) (fun h _ F => ?_)
  cases h; exact fin
  refine tt ?_
  repeat (first | (with_reducible intro _) | (with_reducible refine and_i ?_ ?_; exact ss))
  refine fi h F (fun h _ F => ?_) (fun h _ F => ?_)
  cases h; exact fin
  refine tt ?_
  repeat (first | (with_reducible intro _) | (with_reducible refine and_i ?_ ?_; exact ss))
  refine fi h F (fun h _ F => ?_) (fun h _ F => ?_)
  cases h; exact fin
  refine tt ?_
  repeat (first | (with_reducible intro _) | (with_reducible refine and_i ?_ ?_; exact ss))
  refine fi h F (fun h _ F => ?_) (fun h _ F => ?_)
  cases h; exact fin
  refine tt ?_
  repeat (first | (with_reducible intro _) | (with_reducible refine and_i ?_ ?_; exact ss))
  refine fi h F (fun h _ F => ?_) (fun h _ F => ?_)
  cases h; exact fin
  refine bi h fun e_3 h he_3 => ?_
  refine tt ?_
  refine lE (fun (s__ : Int × Nat) (a__ : Unit) => match s__, a__ with | (n_1, i_2), _ => ⟨[(1, .one (.ref 0 0 0 0)), (3, .one (.int .i64 n_1)), (4, .one (.int .i64 (i_2 : Int)))], [.cells 0 7 [[.sl (m.Lattice.Names.map eS), .sl (m.Lattice.Below.map (eA2 eI)), .sl (m.Sites.map e_api_Site), .sl (m.Vars.map e_api_Var), .sl (m.Blocks.map e_api_Block), .sl (m.Tasks.map e_api_Task), .sl (m.Code.map (eL e_api_Ins))]]]⟩) (fun (e__ : Int) (b__ : Unit) => match e__, b__ with | e_3, _ => ⟨[(1, .one (.ref 0 0 0 0)), (3, .one (.int .i64 e_3))], [.cells 0 7 [[.sl (m.Lattice.Names.map eS), .sl (m.Lattice.Below.map (eA2 eI)), .sl (m.Sites.map e_api_Site), .sl (m.Vars.map e_api_Var), .sl (m.Blocks.map e_api_Block), .sl (m.Tasks.map e_api_Task), .sl (m.Code.map (eL e_api_Ins))]]]⟩) (fun (_ : Int) => some 0) () he_3 ?_ ?_
  intro i4 b4 hi4
  obtain rfl := Option.some.inj hi4
  obtain ⟨⟩ := b4
  dsimp only at h ⊢
  refine bi h fun e_9 h he_9 => ?_
  refine tt ?_
  refine lE (fun (s__ : Int × Nat) (a__ : Unit) => match s__, a__ with | (n_7, i_8), _ => ⟨[(1, .one (.ref 0 0 0 0)), (3, .one (.int .i64 n_7)), (5, .one (.int .i64 (i_8 : Int)))], [.cells 0 7 [[.sl (m.Lattice.Names.map eS), .sl (m.Lattice.Below.map (eA2 eI)), .sl (m.Sites.map e_api_Site), .sl (m.Vars.map e_api_Var), .sl (m.Blocks.map e_api_Block), .sl (m.Tasks.map e_api_Task), .sl (m.Code.map (eL e_api_Ins))]]]⟩) (fun (e__ : Int) (b__ : Unit) => match e__, b__ with | e_9, _ => ⟨[(1, .one (.ref 0 0 0 0)), (3, .one (.int .i64 e_9))], [.cells 0 7 [[.sl (m.Lattice.Names.map eS), .sl (m.Lattice.Below.map (eA2 eI)), .sl (m.Sites.map e_api_Site), .sl (m.Vars.map e_api_Var), .sl (m.Blocks.map e_api_Block), .sl (m.Tasks.map e_api_Task), .sl (m.Code.map (eL e_api_Ins))]]]⟩) (fun (_ : Int) => some 2) () he_9 ?_ ?_
  intro i10 b10 hi10
  obtain rfl := Option.some.inj hi10
  obtain ⟨⟩ := b10
  dsimp only at h ⊢
  refine bi h fun e_15 h he_15 => ?_
  refine tt ?_
  refine lE (fun (s__ : Int × Nat) (a__ : Unit) => match s__, a__ with | (n_13, i_14), _ => ⟨[(1, .one (.ref 0 0 0 0)), (3, .one (.int .i64 n_13)), (6, .one (.int .i64 (i_14 : Int)))], [.cells 0 7 [[.sl (m.Lattice.Names.map eS), .sl (m.Lattice.Below.map (eA2 eI)), .sl (m.Sites.map e_api_Site), .sl (m.Vars.map e_api_Var), .sl (m.Blocks.map e_api_Block), .sl (m.Tasks.map e_api_Task), .sl (m.Code.map (eL e_api_Ins))]]]⟩) (fun (e__ : Int) (b__ : Unit) => match e__, b__ with | e_15, _ => ⟨[(3, .one (.int .i64 e_15))], [.cells 0 7 [[.sl (m.Lattice.Names.map eS), .sl (m.Lattice.Below.map (eA2 eI)), .sl (m.Sites.map e_api_Site), .sl (m.Vars.map e_api_Var), .sl (m.Blocks.map e_api_Block), .sl (m.Tasks.map e_api_Task), .sl (m.Code.map (eL e_api_Ins))]]]⟩) (fun (_ : Int) => some 4) () he_15 ?_ ?_
  intro i16 b16 hi16
  obtain rfl := Option.some.inj hi16
  obtain ⟨⟩ := b16
  dsimp only at h ⊢
  refine fi h F (fun h _ F => ?_) (fun h _ F => ?_)
  cases h; exact fin
  cases h; exact fin
  intro af16 m16 s16 a16 o16 hf16 ho16 ih16
  obtain ⟨n_13, i_14⟩ := s16
  obtain ⟨⟩ := a16
  dsimp only [lazarettolaw18_Few_L3] at hf16 ⊢
  refine tt ?_
  repeat (first | (with_reducible intro _) | (with_reducible refine and_i ?_ ?_; exact ss))
  refine fl hf16 F (fun hf16 _ F => ?_) (fun hf16 _ F => ?_)
  refine fi hf16 F (fun hf16 _ F => ?_) (fun hf16 _ F => ?_)
  refine bx hf16 F fun x_17 hf16 hx_17 F => ?_
  cases hf16
  refine tt ?_
  repeat (first | (with_reducible intro _) | (with_reducible refine and_i ?_ ?_; exact ss))
  refine wn i_14 F fun F => ?_
  exact bk ih16 ho16 ()
  cases hf16
  refine tt ?_
  exact xt ho16 af16 ()
  cases hf16
  refine tt ?_
  exact xt ho16 af16 ()
  intro af10 m10 s10 a10 o10 hf10 ho10 ih10
  obtain ⟨n_7, i_8⟩ := s10
  obtain ⟨⟩ := a10
  dsimp only [lazarettolaw18_Few_L2] at hf10 ⊢
  refine tt ?_
  repeat (first | (with_reducible intro _) | (with_reducible refine and_i ?_ ?_; exact ss))
  refine fl hf10 F (fun hf10 _ F => ?_) (fun hf10 _ F => ?_)
  refine fi hf10 F (fun hf10 _ F => ?_) (fun hf10 _ F => ?_)
  refine bx hf10 F fun x_11 hf10 hx_11 F => ?_
  cases hf10
  refine tt ?_
  repeat (first | (with_reducible intro _) | (with_reducible refine and_i ?_ ?_; exact ss))
  refine wn i_8 F fun F => ?_
  exact bk ih10 ho10 ()
  cases hf10
  refine tt ?_
  exact xt ho10 af10 ()
  cases hf10
  refine tt ?_
  exact xt ho10 af10 ()
  intro af4 m4 s4 a4 o4 hf4 ho4 ih4
  obtain ⟨n_1, i_2⟩ := s4
  obtain ⟨⟩ := a4
  dsimp only [lazarettolaw18_Few_L1] at hf4 ⊢
  refine tt ?_
  repeat (first | (with_reducible intro _) | (with_reducible refine and_i ?_ ?_; exact ss))
  refine fl hf4 F (fun hf4 _ F => ?_) (fun hf4 _ F => ?_)
  refine fi hf4 F (fun hf4 _ F => ?_) (fun hf4 _ F => ?_)
  refine bx hf4 F fun x_5 hf4 hx_5 F => ?_
  cases hf4
  refine tt ?_
  repeat (first | (with_reducible intro _) | (with_reducible refine and_i ?_ ?_; exact ss))
  refine wn i_2 F fun F => ?_
  exact bk ih4 ho4 ()
  cases hf4
  refine tt ?_
  exact xt ho4 af4 ()
  cases hf4
  refine tt ?_
  exact xt ho4 af4 ()
theorem lazarettoref01_Same_ok {a : api_Lattice} {b : api_Lattice} {r : Bool} (h : lazarettoref01_Same a b = some r) :
    Pu Tryz.prog 27 [.agg (e_api_Lattice a), .agg (e_api_Lattice b)] (.one (.bool r)) := by
  have F := trivial; have R := trivial
  refine pA Tryz.func27 ?_
  simp only [Tryz.f27]
  unfold lazarettoref01_Same at h
  refine tt ?_
  repeat (first | (with_reducible intro _) | (with_reducible refine and_i ?_ ?_; exact ss))
  refine fi h F (fun h _ F => ?_) (fun h _ F => ?_)
  refine tt ?_
  repeat (first | (with_reducible intro _) | (with_reducible refine and_i ?_ ?_; exact ss))
  refine fi h F (fun h _ F => ?_) (fun h _ F => ?_)
  refine bi h fun e_2 h he_2 => ?_
  refine tt ?_
  refine lE (fun (s__ : Nat) (a__ : Unit) => match s__, a__ with | i_1, _ => ⟨[(2, .one (.ref 0 0 0 0)), (3, .one (.ref 1 0 0 0)), (5, .one (.int .i64 (i_1 : Int)))], [.cells 0 2 [[.sl (a.Names.map eS), .sl (a.Below.map (eA2 eI))]], .cells 0 2 [[.sl (b.Names.map eS), .sl (b.Below.map (eA2 eI))]]]⟩) (fun (e__ : Bool ⊕ Unit) (b__ : Unit) => match e__, b__ with | (.inl e_6), _ => ⟨[], []⟩ | (.inr ()), _ => ⟨[(2, .one (.ref 0 0 0 0)), (3, .one (.ref 1 0 0 0))], [.cells 0 2 [[.sl (a.Names.map eS), .sl (a.Below.map (eA2 eI))]], .cells 0 2 [[.sl (b.Names.map eS), .sl (b.Below.map (eA2 eI))]]]⟩) (fun (e__ : Bool ⊕ Unit) => match e__ with | (.inl _) => none | (.inr _) => some 0) () he_2 ?_ ?_
  intro i3 b3 hi3
  rcases e_2 with e_case | ⟨⟩
  cases hi3
  obtain rfl := Option.some.inj hi3
  obtain ⟨⟩ := b3
  dsimp only at h ⊢
  refine bi h fun e_8 h he_8 => ?_
  refine tt ?_
  refine lE (fun (s__ : Nat) (a__ : Unit) => match s__, a__ with | i_7, _ => ⟨[(2, .one (.ref 0 0 0 0)), (3, .one (.ref 1 0 0 0)), (6, .one (.int .i64 (i_7 : Int)))], [.cells 0 2 [[.sl (a.Names.map eS), .sl (a.Below.map (eA2 eI))]], .cells 0 2 [[.sl (b.Names.map eS), .sl (b.Below.map (eA2 eI))]]]⟩) (fun (e__ : Bool ⊕ Unit) (b__ : Unit) => match e__, b__ with | (.inl e_12), _ => ⟨[], []⟩ | (.inr ()), _ => ⟨[], [.cells 0 2 [[.sl (a.Names.map eS), .sl (a.Below.map (eA2 eI))]], .cells 0 2 [[.sl (b.Names.map eS), .sl (b.Below.map (eA2 eI))]]]⟩) (fun (e__ : Bool ⊕ Unit) => match e__ with | (.inl _) => none | (.inr _) => some 2) () he_8 ?_ ?_
  intro i9 b9 hi9
  rcases e_8 with e_case | ⟨⟩
  cases hi9
  obtain rfl := Option.some.inj hi9
  obtain ⟨⟩ := b9
  dsimp only at h ⊢
  cases h; exact fin
  intro af9 m9 i_7 a9 o9 hf9 ho9 ih9
  obtain ⟨⟩ := a9
  dsimp only [lazarettoref01_Same_L2] at hf9 ⊢
  refine tt ?_
  repeat (first | (with_reducible intro _) | (with_reducible refine and_i ?_ ?_; exact ss))
  refine fl hf9 F (fun hf9 _ F => ?_) (fun hf9 _ F => ?_)
  refine bx hf9 F fun x_10 hf9 hx_10 F => ?_
  refine bx hf9 F fun x_11 hf9 hx_11 F => ?_
  refine tt ?_
  repeat (first | (with_reducible intro _) | (with_reducible refine and_i ?_ ?_; exact ss))
  refine fi hf9 F (fun hf9 _ F => ?_) (fun hf9 _ F => ?_)
  cases hf9
  refine tt ?_
  refine wn i_7 F fun F => ?_
  exact bk ih9 ho9 ()
  cases hf9
  obtain rfl := sr ho9
  try dsimp only at h
  cases h
  exact fin
  cases hf9
  refine tt ?_
  exact xt ho9 af9 ()
  intro af3 m3 i_1 a3 o3 hf3 ho3 ih3
  obtain ⟨⟩ := a3
  dsimp only [lazarettoref01_Same_L1] at hf3 ⊢
  refine tt ?_
  repeat (first | (with_reducible intro _) | (with_reducible refine and_i ?_ ?_; exact ss))
  refine fl hf3 F (fun hf3 _ F => ?_) (fun hf3 _ F => ?_)
  refine bx hf3 F fun x_4 hf3 hx_4 F => ?_
  refine bx hf3 F fun x_5 hf3 hx_5 F => ?_
  refine tt ?_
  repeat (first | (with_reducible intro _) | (with_reducible refine and_i ?_ ?_; exact ss))
  refine fi hf3 F (fun hf3 _ F => ?_) (fun hf3 _ F => ?_)
  cases hf3
  refine tt ?_
  refine wn i_1 F fun F => ?_
  exact bk ih3 ho3 ()
  cases hf3
  obtain rfl := sr ho3
  try dsimp only at h
  cases h
  exact fin
  cases hf3
  refine tt ?_
  exact xt ho3 af3 ()
  cases h; exact fin
  cases h; exact fin
theorem lazarettoref04_Ints_ok {a : List Int} {b : List Int} {r : Bool} (h : lazarettoref04_Ints a b = some r) :
    Pu Tryz.prog 28 [.one (.sl (a.map eI)), .one (.sl (b.map eI))] (.one (.bool r)) := by
  have F := trivial; have R := trivial
  refine pA Tryz.func28 ?_
  simp only [Tryz.f28]
  unfold lazarettoref04_Ints at h
  refine tt ?_
  repeat (first | (with_reducible intro _) | (with_reducible refine and_i ?_ ?_; exact ss))
  refine fi h F (fun h _ F => ?_) (fun h _ F => ?_)
  refine bi h fun e_2 h he_2 => ?_
  refine tt ?_
  refine lE (fun (s__ : Nat) (a__ : Unit) => match s__, a__ with | i_1, _ => ⟨[(0, .one (.sl (a.map eI))), (1, .one (.sl (b.map eI))), (5, .one (.int .i64 (i_1 : Int)))], []⟩) (fun (e__ : Bool ⊕ Unit) (b__ : Unit) => match e__, b__ with | (.inl e_6), _ => ⟨[], []⟩ | (.inr ()), _ => ⟨[], []⟩) (fun (e__ : Bool ⊕ Unit) => match e__ with | (.inl _) => none | (.inr _) => some 0) () he_2 ?_ ?_
  intro i3 b3 hi3
  rcases e_2 with e_case | ⟨⟩
  cases hi3
  obtain rfl := Option.some.inj hi3
  obtain ⟨⟩ := b3
  dsimp only at h ⊢
  cases h; exact fin
  intro af3 m3 i_1 a3 o3 hf3 ho3 ih3
  obtain ⟨⟩ := a3
  dsimp only [lazarettoref04_Ints_L1] at hf3 ⊢
  refine tt ?_
  repeat (first | (with_reducible intro _) | (with_reducible refine and_i ?_ ?_; exact ss))
  refine fl hf3 F (fun hf3 _ F => ?_) (fun hf3 _ F => ?_)
  refine bx hf3 F fun x_4 hf3 hx_4 F => ?_
  refine bx hf3 F fun x_5 hf3 hx_5 F => ?_
  refine tt ?_
  repeat (first | (with_reducible intro _) | (with_reducible refine and_i ?_ ?_; exact ss))
  refine fi hf3 F (fun hf3 _ F => ?_) (fun hf3 _ F => ?_)
  cases hf3
  refine tt ?_
  refine wn i_1 F fun F => ?_
  exact bk ih3 ho3 ()
  cases hf3
  obtain rfl := sr ho3
  try dsimp only at h
  cases h
  exact fin
  cases hf3
  refine tt ?_
  exact xt ho3 af3 ()
  cases h; exact fin
theorem lazarettoref17_Same_ok {a : List api_Ins} {b : List api_Ins} {r : Bool} (h : lazarettoref17_Same a b = some r) :
    Pu Tryz.prog 29 [.one (.sl (a.map e_api_Ins)), .one (.sl (b.map e_api_Ins))] (.one (.bool r)) := by
  have F := trivial; have R := trivial
  refine pA Tryz.func29 ?_
  simp only [Tryz.f29]
  unfold lazarettoref17_Same at h
  refine tt ?_
  repeat (first | (with_reducible intro _) | (with_reducible refine and_i ?_ ?_; exact ss))
  refine fi h F (fun h _ F => ?_) (fun h _ F => ?_)
  refine bi h fun e_2 h he_2 => ?_
  refine tt ?_
  refine lE (fun (s__ : Nat) (a__ : Unit) => match s__, a__ with | i_1, _ => ⟨[(0, .one (.sl (a.map e_api_Ins))), (1, .one (.sl (b.map e_api_Ins))), (5, .one (.int .i64 (i_1 : Int)))], []⟩) (fun (e__ : Bool ⊕ Unit) (b__ : Unit) => match e__, b__ with | (.inl e_6), _ => ⟨[], []⟩ | (.inr ()), _ => ⟨[], []⟩) (fun (e__ : Bool ⊕ Unit) => match e__ with | (.inl _) => none | (.inr _) => some 0) () he_2 ?_ ?_
  intro i3 b3 hi3
  rcases e_2 with e_case | ⟨⟩
  cases hi3
  obtain rfl := Option.some.inj hi3
  obtain ⟨⟩ := b3
  dsimp only at h ⊢
  cases h; exact fin
  intro af3 m3 i_1 a3 o3 hf3 ho3 ih3
  obtain ⟨⟩ := a3
  dsimp only [lazarettoref17_Same_L1] at hf3 ⊢
  refine tt ?_
  repeat (first | (with_reducible intro _) | (with_reducible refine and_i ?_ ?_; exact ss))
  refine fl hf3 F (fun hf3 _ F => ?_) (fun hf3 _ F => ?_)
  refine bx hf3 F fun x_4 hf3 hx_4 F => ?_
  refine bx hf3 F fun x_5 hf3 hx_5 F => ?_
  refine tt ?_
  repeat (first | (with_reducible intro _) | (with_reducible refine and_i ?_ ?_; exact ss))
  refine fi hf3 F (fun hf3 _ F => ?_) (fun hf3 _ F => ?_)
  cases hf3
  refine tt ?_
  refine wn i_1 F fun F => ?_
  exact bk ih3 ho3 ()
  cases hf3
  obtain rfl := sr ho3
  try dsimp only at h
  cases h
  exact fin
  cases hf3
  refine tt ?_
  exact xt ho3 af3 ()
  cases h; exact fin
theorem lazarettoref18_Same_ok {a : api_Image} {b : api_Image} {r : Bool} (h : lazarettoref18_Same a b = some r) :
    Pu Tryz.prog 13 [.agg (e_api_Image a), .agg (e_api_Image b)] (.one (.bool r)) := by
  have F := trivial; have R := trivial
  refine pA Tryz.func13 ?_
  simp only [Tryz.f13]
  unfold lazarettoref18_Same at h
  refine bi h fun r_1 h hr_1 => ?_
  refine tt ?_
  repeat (first | (with_reducible intro _) | (with_reducible refine and_i ?_ ?_; exact ss))
  refine cS (lazarettoref01_Same_ok hr_1) ?_
  refine fv h F (fun h _ F => ?_) (fun h _ F => ?_)
  refine tt ?_
  repeat (first | (with_reducible intro _) | (with_reducible refine and_i ?_ ?_; exact ss))
  refine fi h F (fun h _ F => ?_) (fun h _ F => ?_)
  refine tt ?_
  repeat (first | (with_reducible intro _) | (with_reducible refine and_i ?_ ?_; exact ss))
  refine fi h F (fun h _ F => ?_) (fun h _ F => ?_)
  refine tt ?_
  repeat (first | (with_reducible intro _) | (with_reducible refine and_i ?_ ?_; exact ss))
  refine fi h F (fun h _ F => ?_) (fun h _ F => ?_)
  refine tt ?_
  repeat (first | (with_reducible intro _) | (with_reducible refine and_i ?_ ?_; exact ss))
  refine fi h F (fun h _ F => ?_) (fun h _ F => ?_)
  refine tt ?_
  repeat (first | (with_reducible intro _) | (with_reducible refine and_i ?_ ?_; exact ss))
  refine fi h F (fun h _ F => ?_) (fun h _ F => ?_)
  refine bi h fun e_3 h he_3 => ?_
  refine tt ?_
  refine lE (fun (s__ : Nat) (a__ : Unit) => match s__, a__ with | i_2, _ => ⟨[(2, .one (.ref 0 0 0 0)), (3, .one (.ref 1 0 0 0)), (5, .one (.int .i64 (i_2 : Int)))], [.cells 0 7 [[.sl (a.Lattice.Names.map eS), .sl (a.Lattice.Below.map (eA2 eI)), .sl (a.Sites.map e_api_Site), .sl (a.Vars.map e_api_Var), .sl (a.Blocks.map e_api_Block), .sl (a.Tasks.map e_api_Task), .sl (a.Code.map (eL e_api_Ins))]], .cells 0 7 [[.sl (b.Lattice.Names.map eS), .sl (b.Lattice.Below.map (eA2 eI)), .sl (b.Sites.map e_api_Site), .sl (b.Vars.map e_api_Var), .sl (b.Blocks.map e_api_Block), .sl (b.Tasks.map e_api_Task), .sl (b.Code.map (eL e_api_Ins))]]]⟩) (fun (e__ : Bool ⊕ Unit) (b__ : Unit) => match e__, b__ with | (.inl e_7), _ => ⟨[], []⟩ | (.inr ()), _ => ⟨[(2, .one (.ref 0 0 0 0)), (3, .one (.ref 1 0 0 0))], [.cells 0 7 [[.sl (a.Lattice.Names.map eS), .sl (a.Lattice.Below.map (eA2 eI)), .sl (a.Sites.map e_api_Site), .sl (a.Vars.map e_api_Var), .sl (a.Blocks.map e_api_Block), .sl (a.Tasks.map e_api_Task), .sl (a.Code.map (eL e_api_Ins))]], .cells 0 7 [[.sl (b.Lattice.Names.map eS), .sl (b.Lattice.Below.map (eA2 eI)), .sl (b.Sites.map e_api_Site), .sl (b.Vars.map e_api_Var), .sl (b.Blocks.map e_api_Block), .sl (b.Tasks.map e_api_Task), .sl (b.Code.map (eL e_api_Ins))]]]⟩) (fun (e__ : Bool ⊕ Unit) => match e__ with | (.inl _) => none | (.inr _) => some 0) () he_3 ?_ ?_
  intro i4 b4 hi4
  rcases e_3 with e_case | ⟨⟩
  cases hi4
  obtain rfl := Option.some.inj hi4
  obtain ⟨⟩ := b4
  dsimp only at h ⊢
  refine bi h fun e_9 h he_9 => ?_
  refine tt ?_
  refine lE (fun (s__ : Nat) (a__ : Unit) => match s__, a__ with | i_8, _ => ⟨[(2, .one (.ref 0 0 0 0)), (3, .one (.ref 1 0 0 0)), (6, .one (.int .i64 (i_8 : Int)))], [.cells 0 7 [[.sl (a.Lattice.Names.map eS), .sl (a.Lattice.Below.map (eA2 eI)), .sl (a.Sites.map e_api_Site), .sl (a.Vars.map e_api_Var), .sl (a.Blocks.map e_api_Block), .sl (a.Tasks.map e_api_Task), .sl (a.Code.map (eL e_api_Ins))]], .cells 0 7 [[.sl (b.Lattice.Names.map eS), .sl (b.Lattice.Below.map (eA2 eI)), .sl (b.Sites.map e_api_Site), .sl (b.Vars.map e_api_Var), .sl (b.Blocks.map e_api_Block), .sl (b.Tasks.map e_api_Task), .sl (b.Code.map (eL e_api_Ins))]]]⟩) (fun (e__ : Bool ⊕ Unit) (b__ : Unit) => match e__, b__ with | (.inl e_13), _ => ⟨[], []⟩ | (.inr ()), _ => ⟨[(2, .one (.ref 0 0 0 0)), (3, .one (.ref 1 0 0 0))], [.cells 0 7 [[.sl (a.Lattice.Names.map eS), .sl (a.Lattice.Below.map (eA2 eI)), .sl (a.Sites.map e_api_Site), .sl (a.Vars.map e_api_Var), .sl (a.Blocks.map e_api_Block), .sl (a.Tasks.map e_api_Task), .sl (a.Code.map (eL e_api_Ins))]], .cells 0 7 [[.sl (b.Lattice.Names.map eS), .sl (b.Lattice.Below.map (eA2 eI)), .sl (b.Sites.map e_api_Site), .sl (b.Vars.map e_api_Var), .sl (b.Blocks.map e_api_Block), .sl (b.Tasks.map e_api_Task), .sl (b.Code.map (eL e_api_Ins))]]]⟩) (fun (e__ : Bool ⊕ Unit) => match e__ with | (.inl _) => none | (.inr _) => some 2) () he_9 ?_ ?_
  intro i10 b10 hi10
  rcases e_9 with e_case | ⟨⟩
  cases hi10
  obtain rfl := Option.some.inj hi10
  obtain ⟨⟩ := b10
  dsimp only at h ⊢
  refine bi h fun e_15 h he_15 => ?_
  refine tt ?_
  refine lE (fun (s__ : Nat) (a__ : Unit) => match s__, a__ with | i_14, _ => ⟨[(2, .one (.ref 0 0 0 0)), (3, .one (.ref 1 0 0 0)), (7, .one (.int .i64 (i_14 : Int)))], [.cells 0 7 [[.sl (a.Lattice.Names.map eS), .sl (a.Lattice.Below.map (eA2 eI)), .sl (a.Sites.map e_api_Site), .sl (a.Vars.map e_api_Var), .sl (a.Blocks.map e_api_Block), .sl (a.Tasks.map e_api_Task), .sl (a.Code.map (eL e_api_Ins))]], .cells 0 7 [[.sl (b.Lattice.Names.map eS), .sl (b.Lattice.Below.map (eA2 eI)), .sl (b.Sites.map e_api_Site), .sl (b.Vars.map e_api_Var), .sl (b.Blocks.map e_api_Block), .sl (b.Tasks.map e_api_Task), .sl (b.Code.map (eL e_api_Ins))]]]⟩) (fun (e__ : Bool ⊕ Unit) (b__ : Unit) => match e__, b__ with | (.inl e_19), _ => ⟨[], []⟩ | (.inr ()), _ => ⟨[(2, .one (.ref 0 0 0 0)), (3, .one (.ref 1 0 0 0))], [.cells 0 7 [[.sl (a.Lattice.Names.map eS), .sl (a.Lattice.Below.map (eA2 eI)), .sl (a.Sites.map e_api_Site), .sl (a.Vars.map e_api_Var), .sl (a.Blocks.map e_api_Block), .sl (a.Tasks.map e_api_Task), .sl (a.Code.map (eL e_api_Ins))]], .cells 0 7 [[.sl (b.Lattice.Names.map eS), .sl (b.Lattice.Below.map (eA2 eI)), .sl (b.Sites.map e_api_Site), .sl (b.Vars.map e_api_Var), .sl (b.Blocks.map e_api_Block), .sl (b.Tasks.map e_api_Task), .sl (b.Code.map (eL e_api_Ins))]]]⟩) (fun (e__ : Bool ⊕ Unit) => match e__ with | (.inl _) => none | (.inr _) => some 4) () he_15 ?_ ?_
  intro i16 b16 hi16
  rcases e_15 with e_case | ⟨⟩
  cases hi16
  obtain rfl := Option.some.inj hi16
  obtain ⟨⟩ := b16
  dsimp only at h ⊢
  refine bi h fun e_21 h he_21 => ?_
  refine tt ?_
  refine lE (fun (s__ : Nat) (a__ : Unit) => match s__, a__ with | i_20, _ => ⟨[(2, .one (.ref 0 0 0 0)), (3, .one (.ref 1 0 0 0)), (8, .one (.int .i64 (i_20 : Int)))], [.cells 0 7 [[.sl (a.Lattice.Names.map eS), .sl (a.Lattice.Below.map (eA2 eI)), .sl (a.Sites.map e_api_Site), .sl (a.Vars.map e_api_Var), .sl (a.Blocks.map e_api_Block), .sl (a.Tasks.map e_api_Task), .sl (a.Code.map (eL e_api_Ins))]], .cells 0 7 [[.sl (b.Lattice.Names.map eS), .sl (b.Lattice.Below.map (eA2 eI)), .sl (b.Sites.map e_api_Site), .sl (b.Vars.map e_api_Var), .sl (b.Blocks.map e_api_Block), .sl (b.Tasks.map e_api_Task), .sl (b.Code.map (eL e_api_Ins))]]]⟩) (fun (e__ : Bool ⊕ Unit) (b__ : Unit) => match e__, b__ with | (.inl e_26), _ => ⟨[], []⟩ | (.inr ()), _ => ⟨[(2, .one (.ref 0 0 0 0)), (3, .one (.ref 1 0 0 0))], [.cells 0 7 [[.sl (a.Lattice.Names.map eS), .sl (a.Lattice.Below.map (eA2 eI)), .sl (a.Sites.map e_api_Site), .sl (a.Vars.map e_api_Var), .sl (a.Blocks.map e_api_Block), .sl (a.Tasks.map e_api_Task), .sl (a.Code.map (eL e_api_Ins))]], .cells 0 7 [[.sl (b.Lattice.Names.map eS), .sl (b.Lattice.Below.map (eA2 eI)), .sl (b.Sites.map e_api_Site), .sl (b.Vars.map e_api_Var), .sl (b.Blocks.map e_api_Block), .sl (b.Tasks.map e_api_Task), .sl (b.Code.map (eL e_api_Ins))]]]⟩) (fun (e__ : Bool ⊕ Unit) => match e__ with | (.inl _) => none | (.inr _) => some 6) () he_21 ?_ ?_
  intro i22 b22 hi22
  rcases e_21 with e_case | ⟨⟩
  cases hi22
  obtain rfl := Option.some.inj hi22
  obtain ⟨⟩ := b22
  dsimp only at h ⊢
  refine bi h fun e_28 h he_28 => ?_
  refine tt ?_
  refine lE (fun (s__ : Nat) (a__ : Unit) => match s__, a__ with | i_27, _ => ⟨[(2, .one (.ref 0 0 0 0)), (3, .one (.ref 1 0 0 0)), (11, .one (.int .i64 (i_27 : Int)))], [.cells 0 7 [[.sl (a.Lattice.Names.map eS), .sl (a.Lattice.Below.map (eA2 eI)), .sl (a.Sites.map e_api_Site), .sl (a.Vars.map e_api_Var), .sl (a.Blocks.map e_api_Block), .sl (a.Tasks.map e_api_Task), .sl (a.Code.map (eL e_api_Ins))]], .cells 0 7 [[.sl (b.Lattice.Names.map eS), .sl (b.Lattice.Below.map (eA2 eI)), .sl (b.Sites.map e_api_Site), .sl (b.Vars.map e_api_Var), .sl (b.Blocks.map e_api_Block), .sl (b.Tasks.map e_api_Task), .sl (b.Code.map (eL e_api_Ins))]]]⟩) (fun (e__ : Bool ⊕ Unit) (b__ : Unit) => match e__, b__ with | (.inl e_33), _ => ⟨[], []⟩ | (.inr ()), _ => ⟨[], [.cells 0 7 [[.sl (a.Lattice.Names.map eS), .sl (a.Lattice.Below.map (eA2 eI)), .sl (a.Sites.map e_api_Site), .sl (a.Vars.map e_api_Var), .sl (a.Blocks.map e_api_Block), .sl (a.Tasks.map e_api_Task), .sl (a.Code.map (eL e_api_Ins))]], .cells 0 7 [[.sl (b.Lattice.Names.map eS), .sl (b.Lattice.Below.map (eA2 eI)), .sl (b.Sites.map e_api_Site), .sl (b.Vars.map e_api_Var), .sl (b.Blocks.map e_api_Block), .sl (b.Tasks.map e_api_Task), .sl (b.Code.map (eL e_api_Ins))]]]⟩) (fun (e__ : Bool ⊕ Unit) => match e__ with | (.inl _) => none | (.inr _) => some 8) () he_28 ?_ ?_
  intro i29 b29 hi29
  rcases e_28 with e_case | ⟨⟩
  cases hi29
  obtain rfl := Option.some.inj hi29
  obtain ⟨⟩ := b29
  dsimp only at h ⊢
  cases h; exact fin
  intro af29 m29 i_27 a29 o29 hf29 ho29 ih29
  obtain ⟨⟩ := a29
  dsimp only [lazarettoref18_Same_L5] at hf29 ⊢
  refine tt ?_
  repeat (first | (with_reducible intro _) | (with_reducible refine and_i ?_ ?_; exact ss))
  refine fl hf29 F (fun hf29 _ F => ?_) (fun hf29 _ F => ?_)
  refine bx hf29 F fun x_30 hf29 hx_30 F => ?_
  refine bx hf29 F fun x_31 hf29 hx_31 F => ?_
  refine bi hf29 fun r_32 hf29 hr_32 => ?_
  refine tt ?_
  repeat (first | (with_reducible intro _) | (with_reducible refine and_i ?_ ?_; exact ss))
  refine cD (lazarettoref17_Same_ok hr_32) ?_
  refine tt ?_
  repeat (first | (with_reducible intro _) | (with_reducible refine and_i ?_ ?_; exact ss))
  refine fv hf29 F (fun hf29 _ F => ?_) (fun hf29 _ F => ?_)
  cases hf29
  refine tt ?_
  refine wn i_27 F fun F => ?_
  exact bk ih29 ho29 ()
  cases hf29
  obtain rfl := sr ho29
  try dsimp only at h
  cases h
  exact fin
  cases hf29
  refine tt ?_
  exact xt ho29 af29 ()
  intro af22 m22 i_20 a22 o22 hf22 ho22 ih22
  obtain ⟨⟩ := a22
  dsimp only [lazarettoref18_Same_L4] at hf22 ⊢
  refine tt ?_
  repeat (first | (with_reducible intro _) | (with_reducible refine and_i ?_ ?_; exact ss))
  refine fl hf22 F (fun hf22 _ F => ?_) (fun hf22 _ F => ?_)
  refine bx hf22 F fun x_23 hf22 hx_23 F => ?_
  refine bx hf22 F fun x_24 hf22 hx_24 F => ?_
  refine tt ?_
  repeat (first | (with_reducible intro _) | (with_reducible refine and_i ?_ ?_; exact ss))
  refine fi hf22 F (fun hf22 _ F => ?_) (fun hf22 _ F => ?_)
  refine tt ?_
  refine fi hf22 F (fun hf22 _ F => ?_) (fun hf22 _ F => ?_)
  refine bi hf22 fun r_25 hf22 hr_25 => ?_
  refine tt ?_
  repeat (first | (with_reducible intro _) | (with_reducible refine and_i ?_ ?_; exact ss))
  refine cS (lazarettoref04_Ints_ok hr_25) ?_
  refine fv hf22 F (fun hf22 _ F => ?_) (fun hf22 _ F => ?_)
  refine tt ?_
  repeat (first | (with_reducible intro _) | (with_reducible refine and_i ?_ ?_; exact ss))
  refine fi hf22 F (fun hf22 _ F => ?_) (fun hf22 _ F => ?_)
  cases hf22
  refine tt ?_
  refine wn i_20 F fun F => ?_
  exact bk ih22 ho22 ()
  cases hf22
  obtain rfl := sr ho22
  try dsimp only at h
  cases h
  exact fin
  cases hf22
  obtain rfl := sr ho22
  try dsimp only at h
  cases h
  exact fin
  cases hf22
  obtain rfl := sr ho22
  try dsimp only at h
  cases h
  exact fin
  cases hf22
  obtain rfl := sr ho22
  try dsimp only at h
  cases h
  exact fin
  cases hf22
  refine tt ?_
  exact xt ho22 af22 ()
  intro af16 m16 i_14 a16 o16 hf16 ho16 ih16
  obtain ⟨⟩ := a16
  dsimp only [lazarettoref18_Same_L3] at hf16 ⊢
  refine tt ?_
  repeat (first | (with_reducible intro _) | (with_reducible refine and_i ?_ ?_; exact ss))
  refine fl hf16 F (fun hf16 _ F => ?_) (fun hf16 _ F => ?_)
  refine bx hf16 F fun x_17 hf16 hx_17 F => ?_
  refine bx hf16 F fun x_18 hf16 hx_18 F => ?_
  refine tt ?_
  repeat (first | (with_reducible intro _) | (with_reducible refine and_i ?_ ?_; exact ss))
  refine fi hf16 F (fun hf16 _ F => ?_) (fun hf16 _ F => ?_)
  cases hf16
  refine tt ?_
  refine wn i_14 F fun F => ?_
  exact bk ih16 ho16 ()
  cases hf16
  obtain rfl := sr ho16
  try dsimp only at h
  cases h
  exact fin
  cases hf16
  refine tt ?_
  exact xt ho16 af16 ()
  intro af10 m10 i_8 a10 o10 hf10 ho10 ih10
  obtain ⟨⟩ := a10
  dsimp only [lazarettoref18_Same_L2] at hf10 ⊢
  refine tt ?_
  repeat (first | (with_reducible intro _) | (with_reducible refine and_i ?_ ?_; exact ss))
  refine fl hf10 F (fun hf10 _ F => ?_) (fun hf10 _ F => ?_)
  refine bx hf10 F fun x_11 hf10 hx_11 F => ?_
  refine bx hf10 F fun x_12 hf10 hx_12 F => ?_
  refine tt ?_
  repeat (first | (with_reducible intro _) | (with_reducible refine and_i ?_ ?_; exact ss))
  refine fi hf10 F (fun hf10 _ F => ?_) (fun hf10 _ F => ?_)
  cases hf10
  refine tt ?_
  refine wn i_8 F fun F => ?_
  exact bk ih10 ho10 ()
  cases hf10
  obtain rfl := sr ho10
  try dsimp only at h
  cases h
  exact fin
  cases hf10
  refine tt ?_
  exact xt ho10 af10 ()
  intro af4 m4 i_2 a4 o4 hf4 ho4 ih4
  obtain ⟨⟩ := a4
  dsimp only [lazarettoref18_Same_L1] at hf4 ⊢
  refine tt ?_
  repeat (first | (with_reducible intro _) | (with_reducible refine and_i ?_ ?_; exact ss))
  refine fl hf4 F (fun hf4 _ F => ?_) (fun hf4 _ F => ?_)
  refine bx hf4 F fun x_5 hf4 hx_5 F => ?_
  refine bx hf4 F fun x_6 hf4 hx_6 F => ?_
  refine tt ?_
  repeat (first | (with_reducible intro _) | (with_reducible refine and_i ?_ ?_; exact ss))
  refine fi hf4 F (fun hf4 _ F => ?_) (fun hf4 _ F => ?_)
  cases hf4
  refine tt ?_
  refine wn i_2 F fun F => ?_
  exact bk ih4 ho4 ()
  cases hf4
  obtain rfl := sr ho4
  try dsimp only at h
  cases h
  exact fin
  cases hf4
  refine tt ?_
  exact xt ho4 af4 ()
  cases h; exact fin
  cases h; exact fin
  cases h; exact fin
  cases h; exact fin
  cases h; exact fin
  cases h; exact fin
theorem slices_EqualFunc_api_Task_api_Task_api_Task_api_Task_ok {s1 : List api_Task} {s2 : List api_Task} {eq : (api_Task → api_Task → Option Bool)} {r : Bool}
    {eq_f : FuncId} {eq_c : List C} (eq_cl : Clo eq_c) (eq_ok : ∀ (x0 : api_Task) (x1 : api_Task) (r : Bool), eq x0 x1 = some r → Pu Tryz.prog eq_f ([.agg (e_api_Task x0), .agg (e_api_Task x1)] ++ eq_c.map V.one) (.one (.bool r))) (h : slices_EqualFunc_api_Task_api_Task_api_Task_api_Task s1 s2 eq = some r) :
    Pu Tryz.prog 30 [.one (.sl (s1.map e_api_Task)), .one (.sl (s2.map e_api_Task)), .one (.fn eq_f eq_c)] (.one (.bool r)) := by
  have F := trivial; have R := trivial
  refine pA Tryz.func30 ?_
  simp only [Tryz.f30]
  unfold slices_EqualFunc_api_Task_api_Task_api_Task_api_Task at h
  have F := And.intro eq_cl.all F
  refine tt ?_
  repeat (first | (with_reducible intro _) | (with_reducible refine and_i ?_ ?_; exact ss))
  refine fi h F (fun h _ F => ?_) (fun h _ F => ?_)
  refine bi h fun e_2 h he_2 => ?_
  refine tt ?_
  repeat (first | (with_reducible intro _) | (with_reducible refine and_i ?_ ?_; exact ss))
  refine lE (fun (s__ : Nat) (a__ : Unit) => match s__, a__ with | x_1, _ => ⟨[(1, .one (.sl (s2.map e_api_Task))), (2, .one (.fn eq_f eq_c)), (15, .one (.sl (s1.map e_api_Task))), (16, .one (.int .i64 (s1.length : Int))), (17, .one (.int .i64 (x_1 : Int)))], []⟩) (fun (e__ : Bool ⊕ Unit) (b__ : Unit) => match e__, b__ with | (.inl e_7), _ => ⟨[], []⟩ | (.inr ()), _ => ⟨[], []⟩) (fun (e__ : Bool ⊕ Unit) => match e__ with | (.inl _) => none | (.inr _) => some 0) () he_2 ?_ ?_
  intro i3 b3 hi3
  rcases e_2 with e_case | ⟨⟩
  cases hi3
  obtain rfl := Option.some.inj hi3
  obtain ⟨⟩ := b3
  dsimp only at h ⊢
  cases h; exact fin
  intro af3 m3 x_1 a3 o3 hf3 ho3 ih3
  obtain ⟨⟩ := a3
  dsimp only [slices_EqualFunc_api_Task_api_Task_api_Task_api_Task_L1] at hf3 ⊢
  refine fl hf3 F (fun hf3 _ F => ?_) (fun hf3 _ F => ?_)
  refine bx hf3 F fun x_4 hf3 hx_4 F => ?_
  refine bx hf3 F fun x_5 hf3 hx_5 F => ?_
  refine bi hf3 fun r_6 hf3 hr_6 => ?_
  refine tt ?_
  repeat (first | (with_reducible intro _) | (with_reducible refine and_i ?_ ?_; exact ss))
  refine cS (eq_ok _ _ _ hr_6) ?_
  refine fv hf3 F (fun hf3 _ F => ?_) (fun hf3 _ F => ?_)
  cases hf3
  refine tt ?_
  refine wn x_1 F fun F => ?_
  exact bk ih3 ho3 ()
  cases hf3
  obtain rfl := sr ho3
  try dsimp only at h
  cases h
  exact fin
  cases hf3
  refine tt ?_
  exact xt ho3 af3 ()
  cases h; exact fin
theorem slices_Equal_int_int_ok {s1 : List Int} {s2 : List Int} {r : Bool} (h : slices_Equal_int_int s1 s2 = some r) :
    Pu Tryz.prog 32 [.one (.sl (s1.map eI)), .one (.sl (s2.map eI))] (.one (.bool r)) := by
  have F := trivial; have R := trivial
  refine pA Tryz.func32 ?_
  simp only [Tryz.f32]
  unfold slices_Equal_int_int at h
  refine tt ?_
  repeat (first | (with_reducible intro _) | (with_reducible refine and_i ?_ ?_; exact ss))
  refine fi h F (fun h _ F => ?_) (fun h _ F => ?_)
  refine bi h fun e_2 h he_2 => ?_
  refine tt ?_
  repeat (first | (with_reducible intro _) | (with_reducible refine and_i ?_ ?_; exact ss))
  refine lE (fun (s__ : Nat) (a__ : Unit) => match s__, a__ with | x_1, _ => ⟨[(0, .one (.sl (s1.map eI))), (1, .one (.sl (s2.map eI))), (12, .one (.int .i64 (s1.length : Int))), (13, .one (.int .i64 (x_1 : Int)))], []⟩) (fun (e__ : Bool ⊕ Unit) (b__ : Unit) => match e__, b__ with | (.inl e_6), _ => ⟨[], []⟩ | (.inr ()), _ => ⟨[], []⟩) (fun (e__ : Bool ⊕ Unit) => match e__ with | (.inl _) => none | (.inr _) => some 0) () he_2 ?_ ?_
  intro i3 b3 hi3
  rcases e_2 with e_case | ⟨⟩
  cases hi3
  obtain rfl := Option.some.inj hi3
  obtain ⟨⟩ := b3
  dsimp only at h ⊢
  cases h; exact fin
  intro af3 m3 x_1 a3 o3 hf3 ho3 ih3
  obtain ⟨⟩ := a3
  dsimp only [slices_Equal_int_int_L1] at hf3 ⊢
  refine fl hf3 F (fun hf3 _ F => ?_) (fun hf3 _ F => ?_)
  refine bx hf3 F fun x_4 hf3 hx_4 F => ?_
  refine bx hf3 F fun x_5 hf3 hx_5 F => ?_
  refine tt ?_
  repeat (first | (with_reducible intro _) | (with_reducible refine and_i ?_ ?_; exact ss))
  refine fi hf3 F (fun hf3 _ F => ?_) (fun hf3 _ F => ?_)
  cases hf3
  refine tt ?_
  refine wn x_1 F fun F => ?_
  exact bk ih3 ho3 ()
  cases hf3
  obtain rfl := sr ho3
  try dsimp only at h
  cases h
  exact fin
  cases hf3
  refine tt ?_
  exact xt ho3 af3 ()
  cases h; exact fin
theorem image_Same_1_ok {x : api_Task} {y : api_Task} {r : Bool} (h : image_Same_1 x y = some r) :
    Pu Tryz.prog 31 [.agg (e_api_Task x), .agg (e_api_Task y)] (.one (.bool r)) := by
  have F := trivial; have R := trivial
  refine pA Tryz.func31 ?_
  simp only [Tryz.f31]
  unfold image_Same_1 at h
  refine tt ?_
  refine fi h F (fun h _ F => ?_) (fun h _ F => ?_)
  refine tt ?_
  refine fi h F (fun h _ F => ?_) (fun h _ F => ?_)
  refine bi h fun r_1 h hr_1 => ?_
  refine tt ?_
  repeat (first | (with_reducible intro _) | (with_reducible refine and_i ?_ ?_; exact ss))
  refine cS (slices_Equal_int_int_ok hr_1) ?_
  refine fv h F (fun h _ F => ?_) (fun h _ F => ?_)
  cases h; exact fin
  cases h; exact fin
  cases h; exact fin
  cases h; exact fin
theorem slices_Equal_string_string_ok {s1 : List Str} {s2 : List Str} {r : Bool} (h : slices_Equal_string_string s1 s2 = some r) :
    Pu Tryz.prog 33 [.one (.sl (s1.map eS)), .one (.sl (s2.map eS))] (.one (.bool r)) := by
  have F := trivial; have R := trivial
  refine pA Tryz.func33 ?_
  simp only [Tryz.f33]
  unfold slices_Equal_string_string at h
  refine tt ?_
  repeat (first | (with_reducible intro _) | (with_reducible refine and_i ?_ ?_; exact ss))
  refine fi h F (fun h _ F => ?_) (fun h _ F => ?_)
  refine bi h fun e_2 h he_2 => ?_
  refine tt ?_
  repeat (first | (with_reducible intro _) | (with_reducible refine and_i ?_ ?_; exact ss))
  refine lE (fun (s__ : Nat) (a__ : Unit) => match s__, a__ with | x_1, _ => ⟨[(0, .one (.sl (s1.map eS))), (1, .one (.sl (s2.map eS))), (12, .one (.int .i64 (s1.length : Int))), (13, .one (.int .i64 (x_1 : Int)))], []⟩) (fun (e__ : Bool ⊕ Unit) (b__ : Unit) => match e__, b__ with | (.inl e_6), _ => ⟨[], []⟩ | (.inr ()), _ => ⟨[], []⟩) (fun (e__ : Bool ⊕ Unit) => match e__ with | (.inl _) => none | (.inr _) => some 0) () he_2 ?_ ?_
  intro i3 b3 hi3
  rcases e_2 with e_case | ⟨⟩
  cases hi3
  obtain rfl := Option.some.inj hi3
  obtain ⟨⟩ := b3
  dsimp only at h ⊢
  cases h; exact fin
  intro af3 m3 x_1 a3 o3 hf3 ho3 ih3
  obtain ⟨⟩ := a3
  dsimp only [slices_Equal_string_string_L1] at hf3 ⊢
  refine fl hf3 F (fun hf3 _ F => ?_) (fun hf3 _ F => ?_)
  refine bx hf3 F fun x_4 hf3 hx_4 F => ?_
  refine bx hf3 F fun x_5 hf3 hx_5 F => ?_
  refine tt ?_
  repeat (first | (with_reducible intro _) | (with_reducible refine and_i ?_ ?_; exact ss))
  refine fi hf3 F (fun hf3 _ F => ?_) (fun hf3 _ F => ?_)
  cases hf3
  refine tt ?_
  refine wn x_1 F fun F => ?_
  exact bk ih3 ho3 ()
  cases hf3
  obtain rfl := sr ho3
  try dsimp only at h
  cases h
  exact fin
  cases hf3
  refine tt ?_
  exact xt ho3 af3 ()
  cases h; exact fin
theorem slices_Equal_2_int_2_int_ok {s1 : List (A2 Int)} {s2 : List (A2 Int)} {r : Bool} (h : slices_Equal_2_int_2_int s1 s2 = some r) :
    Pu Tryz.prog 34 [.one (.sl (s1.map (eA2 eI))), .one (.sl (s2.map (eA2 eI)))] (.one (.bool r)) := by
  have F := trivial; have R := trivial
  refine pA Tryz.func34 ?_
  simp only [Tryz.f34]
  unfold slices_Equal_2_int_2_int at h
  refine tt ?_
  repeat (first | (with_reducible intro _) | (with_reducible refine and_i ?_ ?_; exact ss))
  refine fi h F (fun h _ F => ?_) (fun h _ F => ?_)
  refine bi h fun e_2 h he_2 => ?_
  refine tt ?_
  repeat (first | (with_reducible intro _) | (with_reducible refine and_i ?_ ?_; exact ss))
  refine lE (fun (s__ : Nat) (a__ : Unit) => match s__, a__ with | x_1, _ => ⟨[(0, .one (.sl (s1.map (eA2 eI)))), (1, .one (.sl (s2.map (eA2 eI)))), (12, .one (.int .i64 (s1.length : Int))), (13, .one (.int .i64 (x_1 : Int)))], []⟩) (fun (e__ : Bool ⊕ Unit) (b__ : Unit) => match e__, b__ with | (.inl e_6), _ => ⟨[], []⟩ | (.inr ()), _ => ⟨[], []⟩) (fun (e__ : Bool ⊕ Unit) => match e__ with | (.inl _) => none | (.inr _) => some 0) () he_2 ?_ ?_
  intro i3 b3 hi3
  rcases e_2 with e_case | ⟨⟩
  cases hi3
  obtain rfl := Option.some.inj hi3
  obtain ⟨⟩ := b3
  dsimp only at h ⊢
  cases h; exact fin
  intro af3 m3 x_1 a3 o3 hf3 ho3 ih3
  obtain ⟨⟩ := a3
  dsimp only [slices_Equal_2_int_2_int_L1] at hf3 ⊢
  refine fl hf3 F (fun hf3 _ F => ?_) (fun hf3 _ F => ?_)
  refine bx hf3 F fun x_4 hf3 hx_4 F => ?_
  refine bx hf3 F fun x_5 hf3 hx_5 F => ?_
  refine tt ?_
  repeat (first | (with_reducible intro _) | (with_reducible refine and_i ?_ ?_; exact ss))
  refine fi hf3 F (fun hf3 _ F => ?_) (fun hf3 _ F => ?_)
  cases hf3
  refine tt ?_
  refine wn x_1 F fun F => ?_
  exact bk ih3 ho3 ()
  cases hf3
  obtain rfl := sr ho3
  try dsimp only at h
  cases h
  exact fin
  cases hf3
  refine tt ?_
  exact xt ho3 af3 ()
  cases h; exact fin
theorem slices_Equal_api_Site_api_Site_ok {s1 : List api_Site} {s2 : List api_Site} {r : Bool} (h : slices_Equal_api_Site_api_Site s1 s2 = some r) :
    Pu Tryz.prog 35 [.one (.sl (s1.map e_api_Site)), .one (.sl (s2.map e_api_Site))] (.one (.bool r)) := by
  have F := trivial; have R := trivial
  refine pA Tryz.func35 ?_
  simp only [Tryz.f35]
  unfold slices_Equal_api_Site_api_Site at h
  refine tt ?_
  repeat (first | (with_reducible intro _) | (with_reducible refine and_i ?_ ?_; exact ss))
  refine fi h F (fun h _ F => ?_) (fun h _ F => ?_)
  refine bi h fun e_2 h he_2 => ?_
  refine tt ?_
  repeat (first | (with_reducible intro _) | (with_reducible refine and_i ?_ ?_; exact ss))
  refine lE (fun (s__ : Nat) (a__ : Unit) => match s__, a__ with | x_1, _ => ⟨[(0, .one (.sl (s1.map e_api_Site))), (1, .one (.sl (s2.map e_api_Site))), (12, .one (.int .i64 (s1.length : Int))), (13, .one (.int .i64 (x_1 : Int)))], []⟩) (fun (e__ : Bool ⊕ Unit) (b__ : Unit) => match e__, b__ with | (.inl e_6), _ => ⟨[], []⟩ | (.inr ()), _ => ⟨[], []⟩) (fun (e__ : Bool ⊕ Unit) => match e__ with | (.inl _) => none | (.inr _) => some 0) () he_2 ?_ ?_
  intro i3 b3 hi3
  rcases e_2 with e_case | ⟨⟩
  cases hi3
  obtain rfl := Option.some.inj hi3
  obtain ⟨⟩ := b3
  dsimp only at h ⊢
  cases h; exact fin
  intro af3 m3 x_1 a3 o3 hf3 ho3 ih3
  obtain ⟨⟩ := a3
  dsimp only [slices_Equal_api_Site_api_Site_L1] at hf3 ⊢
  refine fl hf3 F (fun hf3 _ F => ?_) (fun hf3 _ F => ?_)
  refine bx hf3 F fun x_4 hf3 hx_4 F => ?_
  refine bx hf3 F fun x_5 hf3 hx_5 F => ?_
  refine tt ?_
  repeat (first | (with_reducible intro _) | (with_reducible refine and_i ?_ ?_; exact ss))
  refine fi hf3 F (fun hf3 _ F => ?_) (fun hf3 _ F => ?_)
  cases hf3
  refine tt ?_
  refine wn x_1 F fun F => ?_
  exact bk ih3 ho3 ()
  cases hf3
  obtain rfl := sr ho3
  try dsimp only at h
  cases h
  exact fin
  cases hf3
  refine tt ?_
  exact xt ho3 af3 ()
  cases h; exact fin
theorem slices_Equal_api_Var_api_Var_ok {s1 : List api_Var} {s2 : List api_Var} {r : Bool} (h : slices_Equal_api_Var_api_Var s1 s2 = some r) :
    Pu Tryz.prog 36 [.one (.sl (s1.map e_api_Var)), .one (.sl (s2.map e_api_Var))] (.one (.bool r)) := by
  have F := trivial; have R := trivial
  refine pA Tryz.func36 ?_
  simp only [Tryz.f36]
  unfold slices_Equal_api_Var_api_Var at h
  refine tt ?_
  repeat (first | (with_reducible intro _) | (with_reducible refine and_i ?_ ?_; exact ss))
  refine fi h F (fun h _ F => ?_) (fun h _ F => ?_)
  refine bi h fun e_2 h he_2 => ?_
  refine tt ?_
  repeat (first | (with_reducible intro _) | (with_reducible refine and_i ?_ ?_; exact ss))
  refine lE (fun (s__ : Nat) (a__ : Unit) => match s__, a__ with | x_1, _ => ⟨[(0, .one (.sl (s1.map e_api_Var))), (1, .one (.sl (s2.map e_api_Var))), (12, .one (.int .i64 (s1.length : Int))), (13, .one (.int .i64 (x_1 : Int)))], []⟩) (fun (e__ : Bool ⊕ Unit) (b__ : Unit) => match e__, b__ with | (.inl e_6), _ => ⟨[], []⟩ | (.inr ()), _ => ⟨[], []⟩) (fun (e__ : Bool ⊕ Unit) => match e__ with | (.inl _) => none | (.inr _) => some 0) () he_2 ?_ ?_
  intro i3 b3 hi3
  rcases e_2 with e_case | ⟨⟩
  cases hi3
  obtain rfl := Option.some.inj hi3
  obtain ⟨⟩ := b3
  dsimp only at h ⊢
  cases h; exact fin
  intro af3 m3 x_1 a3 o3 hf3 ho3 ih3
  obtain ⟨⟩ := a3
  dsimp only [slices_Equal_api_Var_api_Var_L1] at hf3 ⊢
  refine fl hf3 F (fun hf3 _ F => ?_) (fun hf3 _ F => ?_)
  refine bx hf3 F fun x_4 hf3 hx_4 F => ?_
  refine bx hf3 F fun x_5 hf3 hx_5 F => ?_
  refine tt ?_
  repeat (first | (with_reducible intro _) | (with_reducible refine and_i ?_ ?_; exact ss))
  refine fi hf3 F (fun hf3 _ F => ?_) (fun hf3 _ F => ?_)
  cases hf3
  refine tt ?_
  refine wn x_1 F fun F => ?_
  exact bk ih3 ho3 ()
  cases hf3
  obtain rfl := sr ho3
  try dsimp only at h
  cases h
  exact fin
  cases hf3
  refine tt ?_
  exact xt ho3 af3 ()
  cases h; exact fin
theorem slices_Equal_api_Block_api_Block_ok {s1 : List api_Block} {s2 : List api_Block} {r : Bool} (h : slices_Equal_api_Block_api_Block s1 s2 = some r) :
    Pu Tryz.prog 37 [.one (.sl (s1.map e_api_Block)), .one (.sl (s2.map e_api_Block))] (.one (.bool r)) := by
  have F := trivial; have R := trivial
  refine pA Tryz.func37 ?_
  simp only [Tryz.f37]
  unfold slices_Equal_api_Block_api_Block at h
  refine tt ?_
  repeat (first | (with_reducible intro _) | (with_reducible refine and_i ?_ ?_; exact ss))
  refine fi h F (fun h _ F => ?_) (fun h _ F => ?_)
  refine bi h fun e_2 h he_2 => ?_
  refine tt ?_
  repeat (first | (with_reducible intro _) | (with_reducible refine and_i ?_ ?_; exact ss))
  refine lE (fun (s__ : Nat) (a__ : Unit) => match s__, a__ with | x_1, _ => ⟨[(0, .one (.sl (s1.map e_api_Block))), (1, .one (.sl (s2.map e_api_Block))), (12, .one (.int .i64 (s1.length : Int))), (13, .one (.int .i64 (x_1 : Int)))], []⟩) (fun (e__ : Bool ⊕ Unit) (b__ : Unit) => match e__, b__ with | (.inl e_6), _ => ⟨[], []⟩ | (.inr ()), _ => ⟨[], []⟩) (fun (e__ : Bool ⊕ Unit) => match e__ with | (.inl _) => none | (.inr _) => some 0) () he_2 ?_ ?_
  intro i3 b3 hi3
  rcases e_2 with e_case | ⟨⟩
  cases hi3
  obtain rfl := Option.some.inj hi3
  obtain ⟨⟩ := b3
  dsimp only at h ⊢
  cases h; exact fin
  intro af3 m3 x_1 a3 o3 hf3 ho3 ih3
  obtain ⟨⟩ := a3
  dsimp only [slices_Equal_api_Block_api_Block_L1] at hf3 ⊢
  refine fl hf3 F (fun hf3 _ F => ?_) (fun hf3 _ F => ?_)
  refine bx hf3 F fun x_4 hf3 hx_4 F => ?_
  refine bx hf3 F fun x_5 hf3 hx_5 F => ?_
  refine tt ?_
  repeat (first | (with_reducible intro _) | (with_reducible refine and_i ?_ ?_; exact ss))
  refine fi hf3 F (fun hf3 _ F => ?_) (fun hf3 _ F => ?_)
  cases hf3
  refine tt ?_
  refine wn x_1 F fun F => ?_
  exact bk ih3 ho3 ()
  cases hf3
  obtain rfl := sr ho3
  try dsimp only at h
  cases h
  exact fin
  cases hf3
  refine tt ?_
  exact xt ho3 af3 ()
  cases h; exact fin
theorem slices_EqualFunc__LL_api_Ins__LL_api_Ins_api_Ins_api_Ins_ok {s1 : List (List api_Ins)} {s2 : List (List api_Ins)} {eq : ((List api_Ins) → (List api_Ins) → Option Bool)} {r : Bool}
    {eq_f : FuncId} {eq_c : List C} (eq_cl : Clo eq_c) (eq_ok : ∀ (x0 : List api_Ins) (x1 : List api_Ins) (r : Bool), eq x0 x1 = some r → Pu Tryz.prog eq_f ([.one (.sl (x0.map e_api_Ins)), .one (.sl (x1.map e_api_Ins))] ++ eq_c.map V.one) (.one (.bool r))) (h : slices_EqualFunc__LL_api_Ins__LL_api_Ins_api_Ins_api_Ins s1 s2 eq = some r) :
    Pu Tryz.prog 38 [.one (.sl (s1.map (eL e_api_Ins))), .one (.sl (s2.map (eL e_api_Ins))), .one (.fn eq_f eq_c)] (.one (.bool r)) := by
  have F := trivial; have R := trivial
  refine pA Tryz.func38 ?_
  simp only [Tryz.f38]
  unfold slices_EqualFunc__LL_api_Ins__LL_api_Ins_api_Ins_api_Ins at h
  have F := And.intro eq_cl.all F
  refine tt ?_
  repeat (first | (with_reducible intro _) | (with_reducible refine and_i ?_ ?_; exact ss))
  refine fi h F (fun h _ F => ?_) (fun h _ F => ?_)
  refine bi h fun e_2 h he_2 => ?_
  refine tt ?_
  repeat (first | (with_reducible intro _) | (with_reducible refine and_i ?_ ?_; exact ss))
  refine lE (fun (s__ : Nat) (a__ : Unit) => match s__, a__ with | x_1, _ => ⟨[(1, .one (.sl (s2.map (eL e_api_Ins)))), (2, .one (.fn eq_f eq_c)), (15, .one (.sl (s1.map (eL e_api_Ins)))), (16, .one (.int .i64 (s1.length : Int))), (17, .one (.int .i64 (x_1 : Int)))], []⟩) (fun (e__ : Bool ⊕ Unit) (b__ : Unit) => match e__, b__ with | (.inl e_7), _ => ⟨[], []⟩ | (.inr ()), _ => ⟨[], []⟩) (fun (e__ : Bool ⊕ Unit) => match e__ with | (.inl _) => none | (.inr _) => some 0) () he_2 ?_ ?_
  intro i3 b3 hi3
  rcases e_2 with e_case | ⟨⟩
  cases hi3
  obtain rfl := Option.some.inj hi3
  obtain ⟨⟩ := b3
  dsimp only at h ⊢
  cases h; exact fin
  intro af3 m3 x_1 a3 o3 hf3 ho3 ih3
  obtain ⟨⟩ := a3
  dsimp only [slices_EqualFunc__LL_api_Ins__LL_api_Ins_api_Ins_api_Ins_L1] at hf3 ⊢
  refine fl hf3 F (fun hf3 _ F => ?_) (fun hf3 _ F => ?_)
  refine bx hf3 F fun x_4 hf3 hx_4 F => ?_
  refine bx hf3 F fun x_5 hf3 hx_5 F => ?_
  refine bi hf3 fun r_6 hf3 hr_6 => ?_
  refine tt ?_
  repeat (first | (with_reducible intro _) | (with_reducible refine and_i ?_ ?_; exact ss))
  refine cS (eq_ok _ _ _ hr_6) ?_
  refine fv hf3 F (fun hf3 _ F => ?_) (fun hf3 _ F => ?_)
  cases hf3
  refine tt ?_
  refine wn x_1 F fun F => ?_
  exact bk ih3 ho3 ()
  cases hf3
  obtain rfl := sr ho3
  try dsimp only at h
  cases h
  exact fin
  cases hf3
  refine tt ?_
  exact xt ho3 af3 ()
  cases h; exact fin
theorem slices_Equal_api_Ins_api_Ins_ok {s1 : List api_Ins} {s2 : List api_Ins} {r : Bool} (h : slices_Equal_api_Ins_api_Ins s1 s2 = some r) :
    Pu Tryz.prog 39 [.one (.sl (s1.map e_api_Ins)), .one (.sl (s2.map e_api_Ins))] (.one (.bool r)) := by
  have F := trivial; have R := trivial
  refine pA Tryz.func39 ?_
  simp only [Tryz.f39]
  unfold slices_Equal_api_Ins_api_Ins at h
  refine tt ?_
  repeat (first | (with_reducible intro _) | (with_reducible refine and_i ?_ ?_; exact ss))
  refine fi h F (fun h _ F => ?_) (fun h _ F => ?_)
  refine bi h fun e_2 h he_2 => ?_
  refine tt ?_
  repeat (first | (with_reducible intro _) | (with_reducible refine and_i ?_ ?_; exact ss))
  refine lE (fun (s__ : Nat) (a__ : Unit) => match s__, a__ with | x_1, _ => ⟨[(0, .one (.sl (s1.map e_api_Ins))), (1, .one (.sl (s2.map e_api_Ins))), (12, .one (.int .i64 (s1.length : Int))), (13, .one (.int .i64 (x_1 : Int)))], []⟩) (fun (e__ : Bool ⊕ Unit) (b__ : Unit) => match e__, b__ with | (.inl e_6), _ => ⟨[], []⟩ | (.inr ()), _ => ⟨[], []⟩) (fun (e__ : Bool ⊕ Unit) => match e__ with | (.inl _) => none | (.inr _) => some 0) () he_2 ?_ ?_
  intro i3 b3 hi3
  rcases e_2 with e_case | ⟨⟩
  cases hi3
  obtain rfl := Option.some.inj hi3
  obtain ⟨⟩ := b3
  dsimp only at h ⊢
  cases h; exact fin
  intro af3 m3 x_1 a3 o3 hf3 ho3 ih3
  obtain ⟨⟩ := a3
  dsimp only [slices_Equal_api_Ins_api_Ins_L1] at hf3 ⊢
  refine fl hf3 F (fun hf3 _ F => ?_) (fun hf3 _ F => ?_)
  refine bx hf3 F fun x_4 hf3 hx_4 F => ?_
  refine bx hf3 F fun x_5 hf3 hx_5 F => ?_
  refine tt ?_
  repeat (first | (with_reducible intro _) | (with_reducible refine and_i ?_ ?_; exact ss))
  refine fi hf3 F (fun hf3 _ F => ?_) (fun hf3 _ F => ?_)
  cases hf3
  refine tt ?_
  refine wn x_1 F fun F => ?_
  exact bk ih3 ho3 ()
  cases hf3
  obtain rfl := sr ho3
  try dsimp only at h
  cases h
  exact fin
  cases hf3
  refine tt ?_
  exact xt ho3 af3 ()
  cases h; exact fin
theorem image_Same_ok {a : api_Image} {b : api_Image} {r : Bool} (h : image_Same a b = some r) :
    Pu Tryz.prog 14 [.agg (e_api_Image a), .agg (e_api_Image b)] (.one (.bool r)) := by
  have F := trivial; have R := trivial
  refine pA Tryz.func14 ?_
  simp only [Tryz.f14]
  unfold image_Same at h
  refine bi h fun r_1 h hr_1 => ?_
  refine tt ?_
  repeat (first | (with_reducible intro _) | (with_reducible refine and_i ?_ ?_; exact ss))
  refine cS (slices_EqualFunc_api_Task_api_Task_api_Task_api_Task_ok (eq_f := 31) (eq_c := []) clo (fun _ _ r h => image_Same_1_ok h) hr_1) ?_
  refine bi h fun r_2 h hr_2 => ?_
  refine tt ?_
  repeat (first | (with_reducible intro _) | (with_reducible refine and_i ?_ ?_; exact ss))
  refine cS (slices_Equal_string_string_ok hr_2) ?_
  refine fv h F (fun h _ F => ?_) (fun h _ F => ?_)
  refine bi h fun r_3 h hr_3 => ?_
  refine tt ?_
  repeat (first | (with_reducible intro _) | (with_reducible refine and_i ?_ ?_; exact ss))
  refine cS (slices_Equal_2_int_2_int_ok hr_3) ?_
  refine fv h F (fun h _ F => ?_) (fun h _ F => ?_)
  refine tt ?_
  refine fv h F (fun h _ F => ?_) (fun h _ F => ?_)
  refine bi h fun r_4 h hr_4 => ?_
  refine tt ?_
  repeat (first | (with_reducible intro _) | (with_reducible refine and_i ?_ ?_; exact ss))
  refine cS (slices_Equal_api_Site_api_Site_ok hr_4) ?_
  refine fv h F (fun h _ F => ?_) (fun h _ F => ?_)
  refine bi h fun r_5 h hr_5 => ?_
  refine tt ?_
  repeat (first | (with_reducible intro _) | (with_reducible refine and_i ?_ ?_; exact ss))
  refine cS (slices_Equal_api_Var_api_Var_ok hr_5) ?_
  refine fv h F (fun h _ F => ?_) (fun h _ F => ?_)
  refine bi h fun r_6 h hr_6 => ?_
  refine tt ?_
  repeat (first | (with_reducible intro _) | (with_reducible refine and_i ?_ ?_; exact ss))
  refine cS (slices_Equal_api_Block_api_Block_ok hr_6) ?_
  refine fv h F (fun h _ F => ?_) (fun h _ F => ?_)
  refine bi h fun r_7 h hr_7 => ?_
  refine tt ?_
  repeat (first | (with_reducible intro _) | (with_reducible refine and_i ?_ ?_; exact ss))
  refine cS (slices_EqualFunc__LL_api_Ins__LL_api_Ins_api_Ins_api_Ins_ok (eq_f := 39) (eq_c := []) clo (fun _ _ r h => slices_Equal_api_Ins_api_Ins_ok h) hr_7) ?_
  cases h; exact fin
  cases h; exact fin
  cases h; exact fin
  cases h; exact fin
  cases h; exact fin
  cases h; exact fin
  refine fv h F (fun h _ F => ?_) (fun h _ F => ?_)
  cases h; exact fin
  cases h; exact fin
theorem lazarettolaw18_awake_ok {r : Bool} (h : lazarettolaw18_awake = some r) :
    Pu Tryz.prog 6 [] (.one (.bool r)) := by
  have F := trivial; have R := trivial
  refine pA Tryz.func6 ?_
  simp only [Tryz.f6]
  unfold lazarettolaw18_awake at h
  refine bi h fun r_1 h hr_1 => ?_
  refine tt ?_
  repeat (first | (with_reducible intro _) | (with_reducible refine and_i ?_ ?_; exact ss))
  refine cS (image_Encode_ok hr_1) ?_
  refine bi h fun r_2 h hr_2 => ?_
  refine tt ?_
  repeat (first | (with_reducible intro _) | (with_reducible refine and_i ?_ ?_; exact ss))
  refine cS (image_Decode_ok hr_2) ?_
  refine nd h F fun h F => ?_
  refine bi h fun r_4 h hr_4 => ?_
  refine tt ?_
  repeat (first | (with_reducible intro _) | (with_reducible refine and_i ?_ ?_; exact ss))
  refine cS (image_Decode_ok hr_4) ?_
  refine tt ?_
  refine fi h F (fun h _ F => ?_) (fun h _ F => ?_)
  refine fi h F (fun h _ F => ?_) (fun h _ F => ?_)
  refine bi h fun r_5 h hr_5 => ?_
  refine tt ?_
  repeat (first | (with_reducible intro _) | (with_reducible refine and_i ?_ ?_; exact ss))
  refine cS (lazarettoref18_Same_ok hr_5) ?_
  refine fv h F (fun h _ F => ?_) (fun h _ F => ?_)
  refine tt ?_
  repeat (first | (with_reducible intro _) | (with_reducible refine and_i ?_ ?_; exact ss))
  refine fi h F (fun h _ F => ?_) (fun h _ F => ?_)
  refine nd h F fun h F => ?_
  refine tt ?_
  repeat (first | (with_reducible intro _) | (with_reducible refine and_i ?_ ?_; exact ss))
  refine fi h F (fun h _ F => ?_) (fun h _ F => ?_)
  refine fi h F (fun h _ F => ?_) (fun h _ F => ?_)
  refine bi h fun r_7 h hr_7 => ?_
  refine tt ?_
  repeat (first | (with_reducible intro _) | (with_reducible refine and_i ?_ ?_; exact ss))
  refine cS (image_Check_ok hr_7) ?_
  refine fi h F (fun h _ F => ?_) (fun h _ F => ?_)
  refine bi h fun r_8 h hr_8 => ?_
  refine tt ?_
  repeat (first | (with_reducible intro _) | (with_reducible refine and_i ?_ ?_; exact ss))
  refine cS (image_Same_ok hr_8) ?_
  cases h; exact fin
  cases h; exact fin
  cases h; exact fin
  cases h; exact fin
  cases h; exact fin
  cases h; exact fin
  cases h; exact fin
  cases h; exact fin
end Go.Lz
