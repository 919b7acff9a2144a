/- V17 -/
import Derived.Test.YtakkdadfikcpoaaDoorV17s
import Derived.Test.YtakkdadfikcpoaaDoorV17f
namespace Go.Lz
set_option linter.unusedVariables false
set_option linter.unusedSimpArgs false
open Go.Proofs
attribute [-go_sem] q_cond g_b gd_b
set_option maxRecDepth 100000
set_option maxHeartbeats 4000000
noncomputable section
def slices_IndexFunc_api_Ins_api_Ins_L1 (s : List api_Ins) (f : (api_Ins → Option Bool)) : Nat → Option ((Nat) ⊕ (Int ⊕ Unit))
  | x_1 => if (x_1 : Int) < (s.length : Int) then ((s[x_1]?).bind fun x_4 => (f x_4).bind fun r_5 => if r_5 = true then (some (.inr (.inl ((x_1 : Int))))) else (some (.inl (x_1 + 1)))) else (some (.inr (.inr (()))))
def slices_IndexFunc_api_Ins_api_Ins (s : List api_Ins) (f : (api_Ins → Option Bool)) : Option Int :=
  (loop (slices_IndexFunc_api_Ins_api_Ins_L1 s f) 0).bind (fun e__ => match e__ with | (.inl e_6) => some e_6 | (.inr ()) => some (-1))
def slices_ContainsFunc_api_Ins_api_Ins (s : List api_Ins) (f : (api_Ins → Option Bool)) : Option Bool :=
  (slices_IndexFunc_api_Ins_api_Ins s f).bind fun r_1 => some (decide (0 ≤ r_1))
def code_names (op : Int) : Option Int :=
  if op = 1 then (some 3) else (if op = 7 then (some 3) else (if op = 2 then (some 1) else (if op = 4 then (some 1) else (if op = 8 then (some 1) else (if op = 9 then (some 1) else (if op = 3 then (some 5) else (if op = 5 then (some 5) else (if op = 6 then (some 7) else (if op = 15 then (some 7) else (if op = 10 then (some 4) else (if op = 11 then (some 4) else (if op = 14 then (some 4) else (some 0)))))))))))))
def code_may (i : api_Ins) : Option Bool :=
  (code_names i.Op).bind fun r_1 => if (w64 (andI .i64 r_1 1)) = 0 then (if i.A = 0 then (if (w64 (andI .i64 r_1 2)) = 0 then (if i.B_ = 0 then (if (w64 (andI .i64 r_1 4)) = 0 then (if i.Label = 0 then (if 1 ≤ i.Op then (if i.Op ≤ 16 then (if (-2147483648) ≤ i.A then (if i.A < 2147483648 then (if 0 ≤ i.B_ then (if i.B_ < 256 then (if 0 ≤ i.Label then (some (decide (i.Label < 8))) else (some false)) else (some false)) else (some false)) else (some false)) else (some false)) else (some false)) else (some false)) else (some false)) else (if 1 ≤ i.Op then (if i.Op ≤ 16 then (if (-2147483648) ≤ i.A then (if i.A < 2147483648 then (if 0 ≤ i.B_ then (if i.B_ < 256 then (if 0 ≤ i.Label then (some (decide (i.Label < 8))) else (some false)) else (some false)) else (some false)) else (some false)) else (some false)) else (some false)) else (some false))) else (some false)) else (if (w64 (andI .i64 r_1 4)) = 0 then (if i.Label = 0 then (if 1 ≤ i.Op then (if i.Op ≤ 16 then (if (-2147483648) ≤ i.A then (if i.A < 2147483648 then (if 0 ≤ i.B_ then (if i.B_ < 256 then (if 0 ≤ i.Label then (some (decide (i.Label < 8))) else (some false)) else (some false)) else (some false)) else (some false)) else (some false)) else (some false)) else (some false)) else (some false)) else (if 1 ≤ i.Op then (if i.Op ≤ 16 then (if (-2147483648) ≤ i.A then (if i.A < 2147483648 then (if 0 ≤ i.B_ then (if i.B_ < 256 then (if 0 ≤ i.Label then (some (decide (i.Label < 8))) else (some false)) else (some false)) else (some false)) else (some false)) else (some false)) else (some false)) else (some false)))) else (some false)) else (if (w64 (andI .i64 r_1 2)) = 0 then (if i.B_ = 0 then (if (w64 (andI .i64 r_1 4)) = 0 then (if i.Label = 0 then (if 1 ≤ i.Op then (if i.Op ≤ 16 then (if (-2147483648) ≤ i.A then (if i.A < 2147483648 then (if 0 ≤ i.B_ then (if i.B_ < 256 then (if 0 ≤ i.Label then (some (decide (i.Label < 8))) else (some false)) else (some false)) else (some false)) else (some false)) else (some false)) else (some false)) else (some false)) else (some false)) else (if 1 ≤ i.Op then (if i.Op ≤ 16 then (if (-2147483648) ≤ i.A then (if i.A < 2147483648 then (if 0 ≤ i.B_ then (if i.B_ < 256 then (if 0 ≤ i.Label then (some (decide (i.Label < 8))) else (some false)) else (some false)) else (some false)) else (some false)) else (some false)) else (some false)) else (some false))) else (some false)) else (if (w64 (andI .i64 r_1 4)) = 0 then (if i.Label = 0 then (if 1 ≤ i.Op then (if i.Op ≤ 16 then (if (-2147483648) ≤ i.A then (if i.A < 2147483648 then (if 0 ≤ i.B_ then (if i.B_ < 256 then (if 0 ≤ i.Label then (some (decide (i.Label < 8))) else (some false)) else (some false)) else (some false)) else (some false)) else (some false)) else (some false)) else (some false)) else (some false)) else (if 1 ≤ i.Op then (if i.Op ≤ 16 then (if (-2147483648) ≤ i.A then (if i.A < 2147483648 then (if 0 ≤ i.B_ then (if i.B_ < 256 then (if 0 ≤ i.Label then (some (decide (i.Label < 8))) else (some false)) else (some false)) else (some false)) else (some false)) else (some false)) else (some false)) else (some false))))
def code_Check_1 (i : api_Ins) : Option Bool :=
  (code_may i).bind fun r_1 => some (!r_1)
def code_Check (l : List api_Ins) : Option Int :=
  if 32768 < (l.length : Int) then (some 3) else ((slices_ContainsFunc_api_Ins_api_Ins l code_Check_1).bind fun r_1 => if r_1 = true then (some 8) else (some 0))
def code_Encode_L2 (l : List api_Ins) : ((List Int) × Nat) → Option (((List Int) × Nat) ⊕ (List Int))
  | (b_12, x_14) => if (x_14 : Int) < (l.length : Int) then ((l[x_14]?).bind fun x_17 => (code_join b_12 [x_17.Op, x_17.Label, x_17.B_]).bind fun r_18 => (code_Four r_18 x_17.A).bind fun r_19 => some (.inl (r_19, (x_14 + 1)))) else (some (.inr (b_12)))
def code_Encode_L1 (l : List api_Ins) : ((List Int) × Nat) → Option (((List Int) × Nat) ⊕ (List Int))
  | (l_3, x_5) => if (x_5 : Int) < 4 then (([((l.length : Int).fdiv 16777216), ((l.length : Int).fdiv 65536), ((l.length : Int).fdiv 256), (l.length : Int)][x_5]?).bind fun x_8 => need ((l_3.length + 1) * 1 ≤ 140737488355328) (some (.inl ((l_3 ++ [(IntKind.u8.wrap x_8)]), (x_5 + 1))))) else (some (.inr (l_3)))
def code_Encode (l : List api_Ins) : Option Str :=
  (code_Check l).bind fun r_1 => if r_1 = 0 then ((loop (code_Encode_L1 l) ([], 0)).bind (fun e_6 => (loop (code_Encode_L2 l) (e_6, 0)).bind (fun e_15 => some (iBytes e_15)))) else (some [])
def code_Back_L1 (s : Str) : (Int × Nat) → Option ((Int × Nat) ⊕ (Int))
  | (n_1, x_2) => if (x_2 : Int) < 4 then ((s[x_2]?).bind fun c_5 => some (.inl ((w64 (orI .i64 (w64 (n_1 * 256)) (w64 (c_5.toNat : Int)))), (x_2 + 1)))) else (some (.inr (n_1)))
def code_Back (s : Str) : Option Int :=
  (loop (code_Back_L1 s) (0, 0)).bind (fun e_3 => some ((w64 (e_3 * 4294967296)).fdiv 4294967296))
def code_Read_L1 (s : Str) (r_1 : Int) : ((List api_Ins) × Nat) → Option (((List api_Ins) × Nat) ⊕ (List api_Ins))
  | (l_3, x_5) => if (x_5 : Int) < r_1 then (need (0 ≤ (w64 (4 + (w64 (7 * (x_5 : Int))))) ∧ (w64 (4 + (w64 (7 * (x_5 : Int))))) ≤ (s.length : Int) ∧ (s.length : Int) ≤ s.length) (((s.drop (w64 (4 + (w64 (7 * (x_5 : Int))))).toNat)[0]?).bind fun c_9 => ((s.drop (w64 (4 + (w64 (7 * (x_5 : Int))))).toNat)[1]?).bind fun c_10 => ((s.drop (w64 (4 + (w64 (7 * (x_5 : Int))))).toNat)[2]?).bind fun c_11 => need (0 ≤ 3 ∧ 3 ≤ ((s.drop (w64 (4 + (w64 (7 * (x_5 : Int))))).toNat).length : Int) ∧ ((s.drop (w64 (4 + (w64 (7 * (x_5 : Int))))).toNat).length : Int) ≤ (s.drop (w64 (4 + (w64 (7 * (x_5 : Int))))).toNat).length) ((code_Back ((s.drop (w64 (4 + (w64 (7 * (x_5 : Int))))).toNat).drop 3)).bind fun r_13 => need ((l_3.length + 1) * 32 ≤ 140737488355328) (some (.inl ((l_3 ++ [(⟨(w64 (c_9.toNat : Int)), r_13, (w64 (c_11.toNat : Int)), (w64 (c_10.toNat : Int))⟩ : api_Ins)]), (x_5 + 1))))))) else (some (.inr (l_3)))
def code_Read (s : Str) : Option ((List api_Ins) × Int × Bool) :=
  if (s.length : Int) < 4 then (some ([], 0, false)) else ((code_Back s).bind fun r_1 => if r_1 < 0 then (some ([], 0, false)) else (if 32768 < r_1 then (some ([], 0, false)) else (if (s.length : Int) < (w64 (4 + (w64 (7 * r_1)))) then (some ([], 0, false)) else ((loop (code_Read_L1 s r_1) ([], 0)).bind (fun e_6 => (code_Check e_6).bind fun r_16 => some (e_6, (w64 (4 + (w64 (7 * r_1)))), (decide (r_16 = 0))))))))
end
theorem slices_IndexFunc_api_Ins_api_Ins_ok {s : List api_Ins} {f : (api_Ins → Option Bool)} {r : Int}
    {f_f : FuncId} {f_c : List C} (f_cl : Clo f_c) (f_ok : ∀ (x0 : api_Ins) (r : Bool), f x0 = some r → Pu Tryd.prog f_f ([.agg (e_api_Ins x0)] ++ f_c.map V.one) (.one (.bool r))) (h : slices_IndexFunc_api_Ins_api_Ins s f = some r) :
    Pu Tryd.prog 32 [.one (.sl (s.map e_api_Ins)), .one (.fn f_f f_c)] (.one (.int .i64 r)) := by
  have F := trivial; have R := trivial
  refine pA Tryd.func32 ?_
  simp only [Tryd.f32]
  unfold slices_IndexFunc_api_Ins_api_Ins at h
  have F := And.intro f_cl.all F
  refine bi h fun e_2 h he_2 => ?_
  refine tt ?_
  repeat (first | (with_reducible intro _) | (with_reducible refine and_i ?_ ?_; exact ss))
  refine lE (fun (s__ : Nat) (a__ : Unit) => match s__, a__ with | x_1, _ => ⟨[(0, .one (.sl (s.map e_api_Ins))), (1, .one (.fn f_f f_c)), (7, .one (.int .i64 (s.length : Int))), (8, .one (.int .i64 (x_1 : Int)))], []⟩) (fun (e__ : Int ⊕ Unit) (b__ : Unit) => match e__, b__ with | (.inl e_6), _ => ⟨[], []⟩ | (.inr ()), _ => ⟨[], []⟩) (fun (e__ : Int ⊕ Unit) => match e__ with | (.inl _) => none | (.inr _) => some 0) () he_2 ?_ ?_
  intro i3 b3 hi3
  rcases e_2 with e_case | ⟨⟩
  cases hi3
  obtain rfl := Option.some.inj hi3
  obtain ⟨⟩ := b3
  dsimp only at h ⊢
  cases h; exact fin
  intro af3 m3 x_1 a3 o3 hf3 ho3 ih3
  obtain ⟨⟩ := a3
  dsimp only [slices_IndexFunc_api_Ins_api_Ins_L1] at hf3 ⊢
  refine fl hf3 F (fun hf3 _ F => ?_) (fun hf3 _ F => ?_)
  refine bx hf3 F fun x_4 hf3 hx_4 F => ?_
  refine bi hf3 fun r_5 hf3 hr_5 => ?_
  refine tt ?_
  repeat (first | (with_reducible intro _) | (with_reducible refine and_i ?_ ?_; exact ss))
  refine cS (f_ok _ _ hr_5) ?_
  refine fv hf3 F (fun hf3 _ F => ?_) (fun hf3 _ F => ?_)
  cases hf3
  obtain rfl := sr ho3
  try dsimp only at h
  cases h
  exact fin
  cases hf3
  refine tt ?_
  refine wn x_1 F fun F => ?_
  exact bk ih3 ho3 ()
  cases hf3
  refine tt ?_
  exact xt ho3 af3 ()
theorem slices_ContainsFunc_api_Ins_api_Ins_ok {s : List api_Ins} {f : (api_Ins → Option Bool)} {r : Bool}
    {f_f : FuncId} {f_c : List C} (f_cl : Clo f_c) (f_ok : ∀ (x0 : api_Ins) (r : Bool), f x0 = some r → Pu Tryd.prog f_f ([.agg (e_api_Ins x0)] ++ f_c.map V.one) (.one (.bool r))) (h : slices_ContainsFunc_api_Ins_api_Ins s f = some r) :
    Pu Tryd.prog 18 [.one (.sl (s.map e_api_Ins)), .one (.fn f_f f_c)] (.one (.bool r)) := by
  have F := trivial; have R := trivial
  refine pA Tryd.func18 ?_
  simp only [Tryd.f18]
  unfold slices_ContainsFunc_api_Ins_api_Ins at h
  have F := And.intro f_cl.all F
  refine bi h fun r_1 h hr_1 => ?_
  refine tt ?_
  repeat (first | (with_reducible intro _) | (with_reducible refine and_i ?_ ?_; exact ss))
  refine cS (slices_IndexFunc_api_Ins_api_Ins_ok (f_f := f_f) (f_c := f_c) f_cl f_ok hr_1) ?_
  cases h; exact fin
theorem code_names_ok {op : Int} {r : Int} (h : code_names op = some r) :
    Pu Tryd.prog 28 [.one (.int .i64 op)] (.one (.int .i64 r)) := by
  have F := trivial; have R := trivial
  refine pA Tryd.func28 ?_
  simp only [Tryd.f28]
  unfold code_names at h
  refine fi h F (fun h _ F => ?_) (fun h _ F => ?_)
  cases h; exact fin
  refine fi h F (fun h _ F => ?_) (fun h _ F => ?_)
  cases h; exact fin
  refine tt ?_
  refine fi h F (fun h _ F => ?_) (fun h _ F => ?_)
  cases h; exact fin
  refine fi h F (fun h _ F => ?_) (fun h _ F => ?_)
  cases h; exact fin
  refine fi h F (fun h _ F => ?_) (fun h _ F => ?_)
  cases h; exact fin
  refine fi h F (fun h _ F => ?_) (fun h _ F => ?_)
  cases h; exact fin
  refine tt ?_
  refine fi h F (fun h _ F => ?_) (fun h _ F => ?_)
  cases h; exact fin
  refine fi h F (fun h _ F => ?_) (fun h _ F => ?_)
  cases h; exact fin
  refine fi h F (fun h _ F => ?_) (fun h _ F => ?_)
  cases h; exact fin
  refine fi h F (fun h _ F => ?_) (fun h _ F => ?_)
  cases h; exact fin
  refine tt ?_
  refine fi h F (fun h _ F => ?_) (fun h _ F => ?_)
  cases h; exact fin
  refine fi h F (fun h _ F => ?_) (fun h _ F => ?_)
  cases h; exact fin
  refine fi h F (fun h _ F => ?_) (fun h _ F => ?_)
  cases h; exact fin
  cases h; exact fin
theorem code_may_ok {i : api_Ins} {r : Bool} (h : code_may i = some r) :
    Pu Tryd.prog 20 [.agg (e_api_Ins i)] (.one (.bool r)) := by
  have F := trivial; have R := trivial
  refine pA Tryd.func20 ?_
  simp only [Tryd.f20]
  unfold code_may at h
  refine bi h fun r_1 h hr_1 => ?_
  refine tt ?_
  repeat (first | (with_reducible intro _) | (with_reducible refine and_i ?_ ?_; exact ss))
  refine cS (code_names_ok hr_1) ?_
  refine fi h F (fun h _ F => ?_) (fun h _ F => ?_)
  refine tt ?_
  refine fi h F (fun h _ F => ?_) (fun h _ F => ?_)
  refine fi h F (fun h _ F => ?_) (fun h _ F => ?_)
  refine tt ?_
  refine fi h F (fun h _ F => ?_) (fun h _ F => ?_)
  refine fi h F (fun h _ F => ?_) (fun h _ F => ?_)
  refine tt ?_
  refine fi h F (fun h _ F => ?_) (fun h _ F => ?_)
  refine fi h F (fun h _ F => ?_) (fun h _ F => ?_)
  refine tt ?_
  refine fi h F (fun h _ F => ?_) (fun h _ F => ?_)
  refine fi h F (fun h _ F => ?_) (fun h _ F => ?_)
  refine tt ?_
  refine fi h F (fun h _ F => ?_) (fun h _ F => ?_)
  refine fi h F (fun h _ F => ?_) (fun h _ F => ?_)
  refine tt ?_
  refine fi h F (fun h _ F => ?_) (fun h _ F => ?_)
  refine fi h F (fun h _ F => ?_) (fun h _ F => ?_)
  cases h; exact fin
  cases h; exact fin
  cases h; exact fin
  cases h; exact fin
  cases h; exact fin
  cases h; exact fin
  cases h; exact fin
  cases h; exact fin
  cases h; exact fin
  refine tt ?_
  refine fi h F (fun h _ F => ?_) (fun h _ F => ?_)
  refine fi h F (fun h _ F => ?_) (fun h _ F => ?_)
  refine tt ?_
  refine fi h F (fun h _ F => ?_) (fun h _ F => ?_)
  refine fi h F (fun h _ F => ?_) (fun h _ F => ?_)
  refine tt ?_
  refine fi h F (fun h _ F => ?_) (fun h _ F => ?_)
  refine fi h F (fun h _ F => ?_) (fun h _ F => ?_)
  refine tt ?_
  refine fi h F (fun h _ F => ?_) (fun h _ F => ?_)
  cases h; exact fin
  cases h; exact fin
  cases h; exact fin
  cases h; exact fin
  cases h; exact fin
  cases h; exact fin
  cases h; exact fin
  cases h; exact fin
  cases h; exact fin
  refine tt ?_
  refine fi h F (fun h _ F => ?_) (fun h _ F => ?_)
  refine tt ?_
  refine fi h F (fun h _ F => ?_) (fun h _ F => ?_)
  refine fi h F (fun h _ F => ?_) (fun h _ F => ?_)
  refine tt ?_
  refine fi h F (fun h _ F => ?_) (fun h _ F => ?_)
  refine fi h F (fun h _ F => ?_) (fun h _ F => ?_)
  refine tt ?_
  refine fi h F (fun h _ F => ?_) (fun h _ F => ?_)
  refine fi h F (fun h _ F => ?_) (fun h _ F => ?_)
  refine tt ?_
  refine fi h F (fun h _ F => ?_) (fun h _ F => ?_)
  refine fi h F (fun h _ F => ?_) (fun h _ F => ?_)
  cases h; exact fin
  cases h; exact fin
  cases h; exact fin
  cases h; exact fin
  cases h; exact fin
  cases h; exact fin
  cases h; exact fin
  cases h; exact fin
  cases h; exact fin
  refine tt ?_
  refine fi h F (fun h _ F => ?_) (fun h _ F => ?_)
  refine fi h F (fun h _ F => ?_) (fun h _ F => ?_)
  refine tt ?_
  refine fi h F (fun h _ F => ?_) (fun h _ F => ?_)
  refine fi h F (fun h _ F => ?_) (fun h _ F => ?_)
  refine tt ?_
  refine fi h F (fun h _ F => ?_) (fun h _ F => ?_)
  refine fi h F (fun h _ F => ?_) (fun h _ F => ?_)
  refine tt ?_
  refine fi h F (fun h _ F => ?_) (fun h _ F => ?_)
  cases h; exact fin
  cases h; exact fin
  cases h; exact fin
  cases h; exact fin
  cases h; exact fin
  cases h; exact fin
  cases h; exact fin
  cases h; exact fin
  cases h; exact fin
  refine tt ?_
  refine fi h F (fun h _ F => ?_) (fun h _ F => ?_)
  refine fi h F (fun h _ F => ?_) (fun h _ F => ?_)
  refine tt ?_
  refine fi h F (fun h _ F => ?_) (fun h _ F => ?_)
  refine tt ?_
  refine fi h F (fun h _ F => ?_) (fun h _ F => ?_)
  refine fi h F (fun h _ F => ?_) (fun h _ F => ?_)
  refine tt ?_
  refine fi h F (fun h _ F => ?_) (fun h _ F => ?_)
  refine fi h F (fun h _ F => ?_) (fun h _ F => ?_)
  refine tt ?_
  refine fi h F (fun h _ F => ?_) (fun h _ F => ?_)
  refine fi h F (fun h _ F => ?_) (fun h _ F => ?_)
  refine tt ?_
  refine fi h F (fun h _ F => ?_) (fun h _ F => ?_)
  refine fi h F (fun h _ F => ?_) (fun h _ F => ?_)
  cases h; exact fin
  cases h; exact fin
  cases h; exact fin
  cases h; exact fin
  cases h; exact fin
  cases h; exact fin
  cases h; exact fin
  cases h; exact fin
  cases h; exact fin
  refine tt ?_
  refine fi h F (fun h _ F => ?_) (fun h _ F => ?_)
  refine fi h F (fun h _ F => ?_) (fun h _ F => ?_)
  refine tt ?_
  refine fi h F (fun h _ F => ?_) (fun h _ F => ?_)
  refine fi h F (fun h _ F => ?_) (fun h _ F => ?_)
  refine tt ?_
  refine fi h F (fun h _ F => ?_) (fun h _ F => ?_)
  refine fi h F (fun h _ F => ?_) (fun h _ F => ?_)
  refine tt ?_
  refine fi h F (fun h _ F => ?_) (fun h _ F => ?_)
  cases h; exact fin
  cases h; exact fin
  cases h; exact fin
  cases h; exact fin
  cases h; exact fin
  cases h; exact fin
  cases h; exact fin
  cases h; exact fin
  cases h; exact fin
  refine tt ?_
  refine fi h F (fun h _ F => ?_) (fun h _ F => ?_)
  refine tt ?_
  refine fi h F (fun h _ F => ?_) (fun h _ F => ?_)
  refine fi h F (fun h _ F => ?_) (fun h _ F => ?_)
  refine tt ?_
  refine fi h F (fun h _ F => ?_) (fun h _ F => ?_)
  refine fi h F (fun h _ F => ?_) (fun h _ F => ?_)
  refine tt ?_
  refine fi h F (fun h _ F => ?_) (fun h _ F => ?_)
  refine fi h F (fun h _ F => ?_) (fun h _ F => ?_)
  refine tt ?_
  refine fi h F (fun h _ F => ?_) (fun h _ F => ?_)
  refine fi h F (fun h _ F => ?_) (fun h _ F => ?_)
  cases h; exact fin
  cases h; exact fin
  cases h; exact fin
  cases h; exact fin
  cases h; exact fin
  cases h; exact fin
  cases h; exact fin
  cases h; exact fin
  cases h; exact fin
  refine tt ?_
  refine fi h F (fun h _ F => ?_) (fun h _ F => ?_)
  refine fi h F (fun h _ F => ?_) (fun h _ F => ?_)
  refine tt ?_
  refine fi h F (fun h _ F => ?_) (fun h _ F => ?_)
  refine fi h F (fun h _ F => ?_) (fun h _ F => ?_)
  refine tt ?_
  refine fi h F (fun h _ F => ?_) (fun h _ F => ?_)
  refine fi h F (fun h _ F => ?_) (fun h _ F => ?_)
  refine tt ?_
  refine fi h F (fun h _ F => ?_) (fun h _ F => ?_)
  cases h; exact fin
  cases h; exact fin
  cases h; exact fin
  cases h; exact fin
  cases h; exact fin
  cases h; exact fin
  cases h; exact fin
  cases h; exact fin
theorem code_Check_1_ok {i : api_Ins} {r : Bool} (h : code_Check_1 i = some r) :
    Pu Tryd.prog 19 [.agg (e_api_Ins i)] (.one (.bool r)) := by
  have F := trivial; have R := trivial
  refine pA Tryd.func19 ?_
  simp only [Tryd.f19]
  unfold code_Check_1 at h
  refine bi h fun r_1 h hr_1 => ?_
  refine tt ?_
  repeat (first | (with_reducible intro _) | (with_reducible refine and_i ?_ ?_; exact ss))
  refine cS (code_may_ok hr_1) ?_
  cases h; exact fin
theorem code_Check_ok {l : List api_Ins} {r : Int} (h : code_Check l = some r) :
    Pu Tryd.prog 9 [.one (.sl (l.map e_api_Ins))] (.one (.int .i64 r)) := by
  have F := trivial; have R := trivial
  refine pA Tryd.func9 ?_
  simp only [Tryd.f9]
  unfold code_Check at h
  refine tt ?_
  repeat (first | (with_reducible intro _) | (with_reducible refine and_i ?_ ?_; exact ss))
  refine fi h F (fun h _ F => ?_) (fun h _ F => ?_)
  cases h; exact fin
  refine bi h fun r_1 h hr_1 => ?_
  refine tt ?_
  repeat (first | (with_reducible intro _) | (with_reducible refine and_i ?_ ?_; exact ss))
  refine cS (slices_ContainsFunc_api_Ins_api_Ins_ok (f_f := 19) (f_c := []) clo (fun _ r h => code_Check_1_ok h) hr_1) ?_
  refine fv h F (fun h _ F => ?_) (fun h _ F => ?_)
  cases h; exact fin
  cases h; exact fin
theorem code_Encode_ok {l : List api_Ins} {r : Str} (h : code_Encode l = some r) :
    Pu Tryd.prog 11 [.one (.sl (l.map e_api_Ins))] (.one (.str r)) := by
  have F := trivial; have R := trivial
  refine pA Tryd.func11 ?_
  simp only [Tryd.f11]
  unfold code_Encode at h
  refine bi h fun r_1 h hr_1 => ?_
  refine tt ?_
  repeat (first | (with_reducible intro _) | (with_reducible refine and_i ?_ ?_; exact ss))
  refine cS (code_Check_ok hr_1) ?_
  refine fi h F (fun h _ F => ?_) (fun h _ F => ?_)
  refine tt ?_
  repeat (first | (with_reducible intro _) | (with_reducible refine and_i ?_ ?_; exact ss))
  refine iS Tryd.func22 ?_
  simp only [Tryd.f22]
  refine tt ?_
  repeat (first | (with_reducible intro _) | (with_reducible refine and_i ?_ ?_; exact ss))
  refine iS Tryd.func23 ?_
  simp only [Tryd.f23]
  refine bi h fun e_6 h he_6 => ?_
  refine tt ?_
  repeat (first | (with_reducible intro _) | (with_reducible refine and_i ?_ ?_; exact ss))
  refine seed_L 0 1 (by simp [go_sem]) ?_
  refine lE (fun (s__ : (List Int) × Nat) (a__ : Nat) => match s__, a__ with | (l_3, x_5), v_2 => ⟨[(0, .one (.msl 0 v_2 0 l_3.length)), (7, .one (.slf ([((l.length : Int).fdiv 16777216), ((l.length : Int).fdiv 65536), ((l.length : Int).fdiv 256), (l.length : Int)].map eI))), (8, .one (.int .i64 4)), (9, .one (.int .i64 (x_5 : Int)))], [.cells v_2 1 (l_3.map (eK .u8))]⟩) (fun (e__ : List Int) (b__ : Nat) => match e__, b__ with | e_6, b7 => ⟨[(0, .one (.msl 0 b7 0 e_6.length))], [.cells b7 1 (e_6.map (eK .u8))]⟩) (fun (_ : List Int) => some 0) 0 he_6 ?_ ?_
  intro i7 b7 hi7
  obtain rfl := Option.some.inj hi7
  dsimp only at h ⊢
  refine bi h fun e_15 h he_15 => ?_
  refine tt ?_
  repeat (first | (with_reducible intro _) | (with_reducible refine and_i ?_ ?_; exact ss))
  refine lE (fun (s__ : (List Int) × Nat) (a__ : Nat) => match s__, a__ with | (b_12, x_14), v_11 => ⟨[(3, .one (.msl 0 v_11 0 b_12.length)), (12, .one (.sl (l.map e_api_Ins))), (13, .one (.int .i64 (l.length : Int))), (14, .one (.int .i64 (x_14 : Int)))], [.cells v_11 1 (b_12.map (eK .u8))]⟩) (fun (e__ : List Int) (b__ : Nat) => match e__, b__ with | e_15, b16 => ⟨[(3, .one (.msl 0 b16 0 e_15.length))], [.cells b16 1 (e_15.map (eK .u8))]⟩) (fun (_ : List Int) => some 0) b7 he_15 ?_ ?_
  intro i16 b16 hi16
  obtain rfl := Option.some.inj hi16
  dsimp only at h ⊢
  cases h; exact fin
  intro af16 m16 s16 v_11 o16 hf16 ho16 ih16
  obtain ⟨b_12, x_14⟩ := s16
  dsimp only [code_Encode_L2] at hf16 ⊢
  refine fl hf16 F (fun hf16 _ F => ?_) (fun hf16 _ F => ?_)
  refine bx hf16 F fun x_17 hf16 hx_17 F => ?_
  refine tt ?_
  repeat (first | (with_reducible intro _) | (with_reducible refine and_i ?_ ?_; exact ss))
  first | refine ⟨by kernel_rfl, [1], [9, 10], [8], by kernel_rfl, ?_⟩ | refine ⟨mo, drawB_i (by kernel_rfl), by kernel_rfl, [1], [9, 10], [8], by kernel_rfl, ?_⟩
  refine tt ?_
  repeat (first | (with_reducible intro _) | ((with_reducible refine and_i ?_ ?_); first | ((with_reducible refine sq_i ?_); exact sq_) | exact ss))
  refine bi hf16 fun r_18 hf16 hr_18 => ?_
  refine cL [0] (.one (.msl 0 (v_11 + 3) 0 r_18.length)) [.cells (v_11 + 3) 1 (r_18.map (eK .u8)), .cells 0 4 [[.int .i64 x_17.Op, .int .i64 x_17.A, .int .i64 x_17.B_, .int .i64 x_17.Label]]] (code_join_st (v := v_11) hr_18) ?_
  refine tt ?_
  repeat (first | (with_reducible intro _) | ((with_reducible refine and_i ?_ ?_); first | ((with_reducible refine sq_i ?_); exact sq_) | exact ss))
  refine bi hf16 fun r_19 hf16 hr_19 => ?_
  refine cL [0] (.one (.msl 0 ((v_11 + 3) + 4) 0 r_19.length)) [.cells ((v_11 + 3) + 4) 1 (r_19.map (eK .u8)), .cells 0 4 [[.int .i64 x_17.Op, .int .i64 x_17.A, .int .i64 x_17.B_, .int .i64 x_17.Label]]] (code_Four_st (v := (v_11 + 3)) hr_19) ?_
  refine tt ?_
  repeat (first | (with_reducible intro _) | ((with_reducible refine and_i ?_ ?_); first | ((with_reducible refine sq_i ?_); exact sq_) | exact ss))
  cases hf16
  refine tt ?_
  refine wn x_14 F fun F => ?_
  exact bk ih16 ho16 ((v_11 + 3) + 4)
  cases hf16
  refine tt ?_
  exact xt ho16 af16 v_11
  intro af7 m7 s7 v_2 o7 hf7 ho7 ih7
  obtain ⟨l_3, x_5⟩ := s7
  dsimp only [code_Encode_L1] at hf7 ⊢
  refine fi hf7 F (fun hf7 _ F => ?_) (fun hf7 _ F => ?_)
  refine bx hf7 F fun x_8 hf7 hx_8 F => ?_
  refine ln F fun F => ?_
  have R := And.intro (show ([[.int .i64 ((l.length : Int).fdiv 16777216)], [.int .i64 ((l.length : Int).fdiv 65536)], [.int .i64 ((l.length : Int).fdiv 256)], [.int .i64 (l.length : Int)]] : List (List C))[x_5]? = some [.int .i64 x_8] from q_map (f := eI) hx_8) R
  refine nd hf7 F fun hf7 F => ?_
  cases hf7
  refine tt ?_
  repeat (first | (with_reducible intro _) | (with_reducible refine and_i ?_ ?_; exact ss))
  refine wn x_5 F fun F => ?_
  exact bk ih7 ho7 (v_2 + 1)
  cases hf7
  refine tt ?_
  exact xt ho7 af7 v_2
  cases h; exact fin
theorem code_Back_ok {s : Str} {r : Int} (h : code_Back s = some r) :
    Pu Tryd.prog 33 [.one (.str s)] (.one (.int .i64 r)) := by
  have F := trivial; have R := trivial
  refine pA Tryd.func33 ?_
  simp only [Tryd.f33]
  unfold code_Back at h
  refine bi h fun e_3 h he_3 => ?_
  refine tt ?_
  refine lE (fun (s__ : Int × Nat) (a__ : Unit) => match s__, a__ with | (n_1, x_2), _ => ⟨[(0, .one (.str s)), (3, .one (.int .i64 n_1)), (5, .one (.int .i64 (x_2 : Int)))], []⟩) (fun (e__ : Int) (b__ : Unit) => match e__, b__ with | e_3, _ => ⟨[(3, .one (.int .i64 e_3))], []⟩) (fun (_ : Int) => some 0) () he_3 ?_ ?_
  intro i4 b4 hi4
  obtain rfl := Option.some.inj hi4
  obtain ⟨⟩ := b4
  dsimp only at h ⊢
  cases h; exact fin
  intro af4 m4 s4 a4 o4 hf4 ho4 ih4
  obtain ⟨n_1, x_2⟩ := s4
  obtain ⟨⟩ := a4
  dsimp only [code_Back_L1] at hf4 ⊢
  refine fi hf4 F (fun hf4 _ F => ?_) (fun hf4 _ F => ?_)
  refine bx hf4 F fun c_5 hf4 hc_5 F => ?_
  cases hf4
  refine tt ?_
  repeat (first | (with_reducible intro _) | (with_reducible refine and_i ?_ ?_; exact ss))
  refine wn x_2 F fun F => ?_
  exact bk ih4 ho4 ()
  cases hf4
  refine tt ?_
  exact xt ho4 af4 ()
theorem code_Read_ok {s : Str} {r : (List api_Ins) × Int × Bool} (h : code_Read s = some r) :
    Pu Tryd.prog 25 [.one (.str s)] (.tup [.one (.sl (r.1.map e_api_Ins)), .one (.int .i64 r.2.1), .one (.bool r.2.2)]) := by
  have F := trivial; have R := trivial
  refine pA Tryd.func25 ?_
  simp only [Tryd.f25]
  unfold code_Read at h
  refine tt ?_
  repeat (first | (with_reducible intro _) | (with_reducible refine and_i ?_ ?_; exact ss))
  refine fi h F (fun h _ F => ?_) (fun h _ F => ?_)
  cases h; exact fin
  refine bi h fun r_1 h hr_1 => ?_
  refine tt ?_
  repeat (first | (with_reducible intro _) | (with_reducible refine and_i ?_ ?_; exact ss))
  refine cS (code_Back_ok hr_1) ?_
  refine fi h F (fun h _ F => ?_) (fun h _ F => ?_)
  cases h; exact fin
  refine tt ?_
  refine fi h F (fun h _ F => ?_) (fun h _ F => ?_)
  cases h; exact fin
  refine tt ?_
  repeat (first | (with_reducible intro _) | (with_reducible refine and_i ?_ ?_; exact ss))
  refine fi h F (fun h _ F => ?_) (fun h _ F => ?_)
  cases h; exact fin
  refine bi h fun e_6 h he_6 => ?_
  refine tt ?_
  refine seed_L 6 4 (by simp [go_sem]) ?_
  refine lE (fun (s__ : (List api_Ins) × Nat) (a__ : Nat) => match s__, a__ with | (l_3, x_5), v_2 => ⟨[(0, .one (.str s)), (5, .one (.int .i64 r_1)), (6, .one (.msl 0 v_2 0 l_3.length)), (28, .one (.int .i64 r_1)), (29, .one (.int .i64 (x_5 : Int)))], [.cells v_2 4 (l_3.map e_api_Ins)]⟩) (fun (e__ : List api_Ins) (b__ : Nat) => match e__, b__ with | e_6, b7 => ⟨[(5, .one (.int .i64 r_1)), (6, .one (.msl 0 b7 0 e_6.length))], [.cells b7 4 (e_6.map e_api_Ins)]⟩) (fun (_ : List api_Ins) => some 0) 0 he_6 ?_ ?_
  intro i7 b7 hi7
  obtain rfl := Option.some.inj hi7
  dsimp only at h ⊢
  refine bi h fun r_16 h hr_16 => ?_
  refine tt ?_
  repeat (first | (with_reducible intro _) | (with_reducible refine and_i ?_ ?_; exact ss))
  refine cS (code_Check_ok hr_16) ?_
  cases h; exact fin
  intro af7 m7 s7 v_2 o7 hf7 ho7 ih7
  obtain ⟨l_3, x_5⟩ := s7
  dsimp only [code_Read_L1] at hf7 ⊢
  refine fi hf7 F (fun hf7 _ F => ?_) (fun hf7 _ F => ?_)
  refine nd hf7 F fun hf7 F => ?_
  refine bx hf7 F fun c_9 hf7 hc_9 F => ?_
  refine ln F fun F => ?_
  refine bx hf7 F fun c_10 hf7 hc_10 F => ?_
  refine ln F fun F => ?_
  refine bx hf7 F fun c_11 hf7 hc_11 F => ?_
  refine ln F fun F => ?_
  refine nd hf7 F fun hf7 F => ?_
  refine bi hf7 fun r_13 hf7 hr_13 => ?_
  refine tt ?_
  repeat (first | (with_reducible intro _) | (with_reducible refine and_i ?_ ?_; exact ss))
  refine cD (code_Back_ok hr_13) ?_
  refine nd hf7 F fun hf7 F => ?_
  cases hf7
  refine tt ?_
  repeat (first | (with_reducible intro _) | (with_reducible refine and_i ?_ ?_; exact ss))
  refine wn x_5 F fun F => ?_
  exact bk ih7 ho7 (v_2 + 1)
  cases hf7
  refine tt ?_
  exact xt ho7 af7 v_2
end Go.Lz
