/- V06 -/
import Derived.Test.YtmgedefdjobgdaaGreatV05
namespace Go.Lz
set_option linter.unusedVariables false
set_option linter.unusedSimpArgs false
open Go.Proofs
attribute [-go_sem] q_cond g_b gd_b
set_option maxRecDepth 100000
set_option maxHeartbeats 4000000
noncomputable section
def lazarettolaw06_Few_L1 (lazarettolaw06_Few_r : api_Expr → Int → Int → Option Int) (e : api_Expr) (deep : Int) : (Int × Nat) → Option ((Int × Nat) ⊕ (Int))
  | (left_1, i_2) => if (i_2 : Int) < (e.Args.length : Int) then (if 0 ≤ left_1 then ((e.Args[i_2]?).bind fun x_5 => (lazarettolaw06_Few_r x_5 (w64 (deep - 1)) left_1).bind fun r_6 => some (.inl (r_6, (i_2 + 1)))) else (some (.inr (left_1)))) else (some (.inr (left_1)))
def lazarettolaw06_Few_b (lazarettolaw06_Few_r : api_Expr → Int → Int → Option Int) (e : api_Expr) (deep : Int) (left : Int) : Option Int :=
  if deep < 1 then (some (-1)) else (if (w64 (left - (w64 ((w64 (1 + (e.Args.length : Int))) + (w64 ((e.Name.length : Int).tdiv 100)))))) < 0 then (some (-1)) else ((loop (lazarettolaw06_Few_L1 lazarettolaw06_Few_r e deep) ((w64 (left - (w64 ((w64 (1 + (e.Args.length : Int))) + (w64 ((e.Name.length : Int).tdiv 100)))))), 0)).bind (fun e_3 => some e_3)))
def lazarettolaw06_Few_g : Nat → (api_Expr → Int → Int → Option Int)
  | 0 => fun _ _ _ => none
  | n + 1 => lazarettolaw06_Few_b (lazarettolaw06_Few_g n)
def lazarettolaw06_Few_n (n : Nat) (e : api_Expr) (deep : Int) (left : Int) : Option Int := (lazarettolaw06_Few_g n) e deep left
def lazarettolaw06_Few (e : api_Expr) (deep : Int) (left : Int) : Option Int := lazarettolaw06_Few_n 1000000 e deep left
def lazarettoref06_form (e : api_Expr) : Option Bool :=
  if e.Op = 1 then (if 0 ≤ e.N then (if e.Kind = 1 then (if e.N ≤ 1 then (if (e.Args.length : Int) = 0 then (some (decide (e.Name = []))) else (some false)) else (if e.Kind = 2 then none else (if e.Kind = 3 then none else (if e.Kind = 4 then none else (some false))))) else (if e.Kind = 2 then (if e.N ≤ 32767 then (if (e.Args.length : Int) = 0 then (some (decide (e.Name = []))) else (some false)) else (if e.Kind = 3 then none else (if e.Kind = 4 then none else (some false)))) else (if e.Kind = 3 then (if e.N ≤ 2147483647 then (if (e.Args.length : Int) = 0 then (some (decide (e.Name = []))) else (some false)) else (some false)) else (if e.Kind = 4 then (if e.N ≤ 2147483647 then (if (e.Args.length : Int) = 0 then (some (decide (e.Name = []))) else (some false)) else (some false)) else (some false))))) else (some false)) else (if e.Kind = 0 then (if e.Op = 2 then (if (e.Args.length : Int) = 0 then (if e.N = 0 then ((lazarettoref05_Name e.Name).bind fun r_1 => some r_1) else (some false)) else (some false)) else (if e.Op = 4 then (if (e.Args.length : Int) = 0 then (if 0 ≤ e.N then (if e.N ≤ 9 then ((lazarettoref05_Name e.Name).bind fun r_2 => some r_2) else (some false)) else (some false)) else (some false)) else (if e.Op = 3 then (if (e.Args.length : Int) = 1 then (if e.N = 0 then ((lazarettoref05_Name e.Name).bind fun r_3 => some r_3) else (some false)) else (some false)) else (if e.Op = 21 then (if (e.Args.length : Int) = 1 then (if e.N = 0 then ((lazarettoref05_Name e.Name).bind fun r_4 => some r_4) else (some false)) else (some false)) else (if e.Op = 5 then (if (e.Args.length : Int) = 1 then (if e.N = 0 then (some (decide (e.Name = []))) else (some false)) else (some false)) else (if e.Op = 6 then (if (e.Args.length : Int) = 1 then (if e.N = 0 then (some (decide (e.Name = []))) else (some false)) else (some false)) else (if 7 ≤ e.Op then (if e.Op ≤ 20 then (if (e.Args.length : Int) = 2 then (if e.N = 0 then (some (decide (e.Name = []))) else (some false)) else (some false)) else (some false)) else (some false)))))))) else (some false))
def lazarettoref06_brief_L1 (lazarettoref06_brief_r : api_Expr → Int → Int → Option Int) (e : api_Expr) (deep : Int) : (Int × Nat) → Option ((Int × Nat) ⊕ (Int))
  | (left_2, i_3) => if (i_3 : Int) < (e.Args.length : Int) then (if 0 ≤ left_2 then ((e.Args[i_3]?).bind fun x_6 => (lazarettoref06_brief_r x_6 (w64 (deep - 1)) left_2).bind fun r_7 => some (.inl (r_7, (i_3 + 1)))) else (some (.inr (left_2)))) else (some (.inr (left_2)))
def lazarettoref06_brief_b (lazarettoref06_brief_r : api_Expr → Int → Int → Option Int) (e : api_Expr) (deep : Int) (left : Int) : Option Int :=
  if deep < 1 then (some (-1)) else (if left < 0 then (some (-1)) else ((lazarettoref06_form e).bind fun r_1 => if r_1 = true then ((loop (lazarettoref06_brief_L1 lazarettoref06_brief_r e deep) ((w64 (left - 1)), 0)).bind (fun e_4 => some e_4)) else (some (-1))))
def lazarettoref06_brief_g : Nat → (api_Expr → Int → Int → Option Int)
  | 0 => fun _ _ _ => none
  | n + 1 => lazarettoref06_brief_b (lazarettoref06_brief_g n)
def lazarettoref06_brief_n (n : Nat) (e : api_Expr) (deep : Int) (left : Int) : Option Int := (lazarettoref06_brief_g n) e deep left
def lazarettoref06_brief (e : api_Expr) (deep : Int) (left : Int) : Option Int := lazarettoref06_brief_n 1000000 e deep left
def lazarettoref06_level (op : Int) : Option Int :=
  if op = 20 then (some 1) else (if op = 19 then (some 2) else (if op = 18 then (some 3) else (if 12 ≤ op then (if op ≤ 17 then (some 4) else (if op = 10 then (some 5) else (if op = 11 then (some 5) else (if 7 ≤ op then (if op ≤ 9 then (some 6) else (if op = 5 then (some 7) else (if op = 6 then (some 7) else (some 8)))) else (if op = 5 then (some 7) else (if op = 6 then (some 7) else (some 8))))))) else (if op = 10 then (some 5) else (if op = 11 then (some 5) else (if 7 ≤ op then (if op ≤ 9 then (some 6) else (if op = 5 then (some 7) else (if op = 6 then (some 7) else (some 8)))) else (if op = 5 then (some 7) else (if op = 6 then (some 7) else (some 8)))))))))
def lazarettoref06_signs (level : Int) : Option (Str × Int) :=
  if level = 1 then (some (([79, 82] : Str), 20)) else (if level = 2 then (some (([88, 79, 82] : Str), 19)) else (if level = 3 then (some (([65, 78, 68] : Str), 18)) else (if level = 4 then (some (([61, 32, 60, 62, 32, 60, 32, 60, 61, 32, 62, 32, 62, 61] : Str), 12)) else (if level = 5 then (some (([43, 32, 45] : Str), 10)) else (some (([42, 32, 47, 32, 77, 79, 68] : Str), 7))))))
def lazarettoref06_sign_L1 (op : Int) (r_2 : Str × Int) : (Int × Int × Nat) → Option ((Int × Int × Nat) ⊕ (Str ⊕ Unit))
  | (k_3, from_4, i_5) => if (i_5 : Int) ≤ (r_2.1.length : Int) then (if (i_5 : Int) = (r_2.1.length : Int) then (if k_3 = op then (need (0 ≤ from_4 ∧ from_4 ≤ (i_5 : Int) ∧ (i_5 : Int) ≤ r_2.1.length) (some (.inr (.inl (((r_2.1.take i_5).drop from_4.toNat)))))) else (some (.inl ((w64 (k_3 + 1)), (w64 ((i_5 : Int) + 1)), (i_5 + 1))))) else ((r_2.1[i_5]?).bind fun c_9 => if (c_9.toNat : Int) = 32 then (if k_3 = op then (need (0 ≤ from_4 ∧ from_4 ≤ (i_5 : Int) ∧ (i_5 : Int) ≤ r_2.1.length) (some (.inr (.inl (((r_2.1.take i_5).drop from_4.toNat)))))) else (some (.inl ((w64 (k_3 + 1)), (w64 ((i_5 : Int) + 1)), (i_5 + 1))))) else (some (.inl (k_3, from_4, (i_5 + 1)))))) else (some (.inr (.inr (()))))
def lazarettoref06_sign (op : Int) : Option Str :=
  (lazarettoref06_level op).bind fun r_1 => (lazarettoref06_signs r_1).bind fun r_2 => (loop (lazarettoref06_sign_L1 op r_2) (r_2.2, 0, 0)).bind (fun e__ => match e__ with | (.inl e_11) => some e_11 | (.inr ()) => some [])
def lazarettoref06_text_b (lazarettoref06_text_r : api_Expr → Option Str) (lazarettoref06_part_r : api_Expr → Int → Option Str) (e : api_Expr) : Option Str :=
  if e.Op = 1 then (if e.Kind = 1 then (if e.N = 1 then (some ([84, 82, 85, 69] : Str)) else (some ([70, 65, 76, 83, 69] : Str))) else (if e.Kind = 3 then ((lazarettoref05_Digits e.N).bind fun r_1 => need (r_1.length + 5 ≤ 281474976710656) (need (r_1.length + 6 ≤ 281474976710656) (some ((([68, 73, 78, 84, 40] : Str) ++ r_1) ++ ([41] : Str))))) else (if e.Kind = 4 then ((lazarettoref05_Digits e.N).bind fun r_4 => need (r_4.length + 5 ≤ 281474976710656) (need (r_4.length + 6 ≤ 281474976710656) (some ((([84, 73, 77, 69, 40] : Str) ++ r_4) ++ ([41] : Str))))) else ((lazarettoref05_Digits e.N).bind fun r_7 => some r_7)))) else (if e.Op = 2 then (some e.Name) else (if e.Op = 4 then (need (e.Name.length + 1 ≤ 281474976710656) ((lazarettoref05_Digits e.N).bind fun r_9 => need (e.Name.length + r_9.length + 1 ≤ 281474976710656) (some ((e.Name ++ ([46] : Str)) ++ r_9)))) else (if e.Op = 3 then (need (e.Name.length + 1 ≤ 281474976710656) ((e.Args[0]?).bind fun x_12 => (lazarettoref06_text_r x_12).bind fun r_13 => need (e.Name.length + r_13.length + 1 ≤ 281474976710656) (need (e.Name.length + r_13.length + 2 ≤ 281474976710656) (some (((e.Name ++ ([91] : Str)) ++ r_13) ++ ([93] : Str)))))) else (if e.Op = 21 then (need (e.Name.length + 11 ≤ 281474976710656) (need (e.Name.length + 13 ≤ 281474976710656) ((e.Args[0]?).bind fun x_18 => (lazarettoref06_text_r x_18).bind fun r_19 => need (e.Name.length + r_19.length + 13 ≤ 281474976710656) (need (e.Name.length + r_19.length + 14 ≤ 281474976710656) (some ((((([68, 69, 67, 76, 65, 83, 83, 73, 70, 89, 40] : Str) ++ e.Name) ++ ([44, 32] : Str)) ++ r_19) ++ ([41] : Str))))))) else (if e.Op = 5 then ((e.Args[0]?).bind fun x_22 => (lazarettoref06_part_r x_22 7).bind fun r_23 => need (r_23.length + 1 ≤ 281474976710656) (some (([45] : Str) ++ r_23))) else (if e.Op = 6 then ((e.Args[0]?).bind fun x_25 => (lazarettoref06_part_r x_25 7).bind fun r_26 => need (r_26.length + 4 ≤ 281474976710656) (some (([78, 79, 84, 32] : Str) ++ r_26))) else ((lazarettoref06_level e.Op).bind fun r_28 => (e.Args[0]?).bind fun x_29 => (lazarettoref06_part_r x_29 r_28).bind fun r_30 => need (r_30.length + 1 ≤ 281474976710656) ((lazarettoref06_sign e.Op).bind fun r_32 => need (r_30.length + r_32.length + 1 ≤ 281474976710656) (need (r_30.length + r_32.length + 2 ≤ 281474976710656) ((e.Args[1]?).bind fun x_35 => (lazarettoref06_part_r x_35 (w64 (r_28 + 1))).bind fun r_36 => need (r_30.length + r_32.length + r_36.length + 2 ≤ 281474976710656) (some ((((r_30 ++ ([32] : Str)) ++ r_32) ++ ([32] : Str)) ++ r_36))))))))))))
def lazarettoref06_part_b (lazarettoref06_text_r : api_Expr → Option Str) (lazarettoref06_part_r : api_Expr → Int → Option Str) (e : api_Expr) (least : Int) : Option Str :=
  (lazarettoref06_level e.Op).bind fun r_1 => if r_1 < least then ((lazarettoref06_text_r e).bind fun r_2 => need (r_2.length + 1 ≤ 281474976710656) (need (r_2.length + 2 ≤ 281474976710656) (some ((([40] : Str) ++ r_2) ++ ([41] : Str))))) else ((lazarettoref06_text_r e).bind fun r_5 => some r_5)
def lazarettoref06_text_g : Nat → (api_Expr → Option Str) × (api_Expr → Int → Option Str)
  | 0 => (fun _ => none, fun _ _ => none)
  | n + 1 => (lazarettoref06_text_b (lazarettoref06_text_g n).1 (lazarettoref06_text_g n).2, lazarettoref06_part_b (lazarettoref06_text_g n).1 (lazarettoref06_text_g n).2)
def lazarettoref06_text_n (n : Nat) (e : api_Expr) : Option Str := (lazarettoref06_text_g n).1 e
def lazarettoref06_text (e : api_Expr) : Option Str := lazarettoref06_text_n 1000000 e
def lazarettoref06_part_n (n : Nat) (e : api_Expr) (least : Int) : Option Str := (lazarettoref06_text_g n).2 e least
def lazarettoref06_part (e : api_Expr) (least : Int) : Option Str := lazarettoref06_part_n 1000000 e least
def lazarettoref06_Check (e : api_Expr) : Option Bool :=
  (lazarettoref06_brief e 24 16384).bind fun r_1 => if 0 ≤ r_1 then ((lazarettoref06_text e).bind fun r_2 => some (decide ((r_2.length : Int) ≤ 16384))) else (some false)
def lazarettoref06_Same_L1 (lazarettoref06_Same_r : api_Expr → api_Expr → Option Bool) (a : api_Expr) (b : api_Expr) : Nat → Option ((Nat) ⊕ (Bool ⊕ Unit))
  | i_1 => if (i_1 : Int) < (a.Args.length : Int) then ((a.Args[i_1]?).bind fun x_4 => (b.Args[i_1]?).bind fun x_5 => (lazarettoref06_Same_r x_4 x_5).bind fun r_6 => if r_6 = true then (some (.inl (i_1 + 1))) else (some (.inr (.inl (false))))) else (some (.inr (.inr (()))))
def lazarettoref06_Same_b (lazarettoref06_Same_r : api_Expr → api_Expr → Option Bool) (a : api_Expr) (b : api_Expr) : Option Bool :=
  if a.Op = b.Op then (if a.N = b.N then (if a.Kind = b.Kind then (if a.Name = b.Name then (if (a.Args.length : Int) = (b.Args.length : Int) then ((loop (lazarettoref06_Same_L1 lazarettoref06_Same_r a b) 0).bind (fun e__ => match e__ with | (.inl e_7) => some e_7 | (.inr ()) => some true)) else (some false)) else (some false)) else (some false)) else (some false)) else (some false)
def lazarettoref06_Same_g : Nat → (api_Expr → api_Expr → Option Bool)
  | 0 => fun _ _ => none
  | n + 1 => lazarettoref06_Same_b (lazarettoref06_Same_g n)
def lazarettoref06_Same_n (n : Nat) (a : api_Expr) (b : api_Expr) : Option Bool := (lazarettoref06_Same_g n) a b
def lazarettoref06_Same (a : api_Expr) (b : api_Expr) : Option Bool := lazarettoref06_Same_n 1000000 a b
def lazarettoref06_Print (e : api_Expr) : Option Str :=
  (lazarettoref06_Check e).bind fun r_1 => if r_1 = true then ((lazarettoref06_text e).bind fun r_2 => some r_2) else (some [])
end
theorem lazarettolaw06_Few_b_ok {lazarettolaw06_Few_r : api_Expr → Int → Int → Option Int} {e : api_Expr} {deep : Int} {left : Int} {r : Int}
    (lazarettolaw06_Few_r_ok : ∀ (x0 : api_Expr) (x1 : Int) (x2 : Int) (r : Int), lazarettolaw06_Few_r x0 x1 x2 = some r → Pu Tryz.prog 70 [.agg (e_api_Expr x0), .one (.int .i64 x1), .one (.int .i64 x2)] (.one (.int .i64 r))) (h : lazarettolaw06_Few_b lazarettolaw06_Few_r e deep left = some r) :
    Pu Tryz.prog 70 [.agg (e_api_Expr e), .one (.int .i64 deep), .one (.int .i64 left)] (.one (.int .i64 r)) := by
  have F := trivial; have R := trivial
  refine pA Tryz.func70 ?_
  simp only [Tryz.f70]
  unfold lazarettolaw06_Few_b at h
  refine tt ?_
  repeat (first | (with_reducible intro _) | (with_reducible refine and_i ?_ ?_; exact ss))
  refine fi h F (fun h _ F => ?_) (fun h _ F => ?_)
  cases h; exact fin
  refine fi h F (fun h _ F => ?_) (fun h _ F => ?_)
  cases h; exact fin
  refine bi h fun e_3 h he_3 => ?_
  refine tt ?_
  refine lE (fun (s__ : Int × Nat) (a__ : Unit) => match s__, a__ with | (left_1, i_2), _ => ⟨[(1, .one (.int .i64 deep)), (2, .one (.int .i64 left_1)), (3, .one (.ref 0 0 0 0)), (7, .one (.int .i64 (i_2 : Int)))], [.cells 0 5 [[.int .i64 e.Op, .int .i64 e.N, .int .i64 e.Kind, .str e.Name, .sl (e.Args.map e_api_Expr)]]]⟩) (fun (e__ : Int) (b__ : Unit) => match e__, b__ with | e_3, _ => ⟨[(2, .one (.int .i64 e_3))], [.cells 0 5 [[.int .i64 e.Op, .int .i64 e.N, .int .i64 e.Kind, .str e.Name, .sl (e.Args.map e_api_Expr)]]]⟩) (fun (_ : Int) => some 0) () he_3 ?_ ?_
  intro i4 b4 hi4
  obtain rfl := Option.some.inj hi4
  obtain ⟨⟩ := b4
  dsimp only at h ⊢
  cases h; exact fin
  intro af4 m4 s4 a4 o4 hf4 ho4 ih4
  obtain ⟨left_1, i_2⟩ := s4
  obtain ⟨⟩ := a4
  dsimp only [lazarettolaw06_Few_L1] at hf4 ⊢
  refine tt ?_
  repeat (first | (with_reducible intro _) | (with_reducible refine and_i ?_ ?_; exact ss))
  refine fl hf4 F (fun hf4 _ F => ?_) (fun hf4 _ F => ?_)
  refine fi hf4 F (fun hf4 _ F => ?_) (fun hf4 _ F => ?_)
  refine bx hf4 F fun x_5 hf4 hx_5 F => ?_
  refine bi hf4 fun r_6 hf4 hr_6 => ?_
  refine tt ?_
  repeat (first | (with_reducible intro _) | (with_reducible refine and_i ?_ ?_; exact ss))
  refine cS (lazarettolaw06_Few_r_ok _ _ _ _ hr_6) ?_
  cases hf4
  refine tt ?_
  refine wn i_2 F fun F => ?_
  exact bk ih4 ho4 ()
  cases hf4
  refine tt ?_
  exact xt ho4 af4 ()
  cases hf4
  refine tt ?_
  exact xt ho4 af4 ()
theorem lazarettolaw06_Few_g_ok (n : Nat) : (∀ (x0 : api_Expr) (x1 : Int) (x2 : Int) (r : Int), (lazarettolaw06_Few_g n) x0 x1 x2 = some r → Pu Tryz.prog 70 [.agg (e_api_Expr x0), .one (.int .i64 x1), .one (.int .i64 x2)] (.one (.int .i64 r))) := by
  induction n with
  | zero => exact fun _ _ _ r h => (by cases h)
  | succ n ih =>
    have ih0 := ih
    exact fun _ _ _ r h => lazarettolaw06_Few_b_ok ih0 h
theorem lazarettolaw06_Few_ok {e : api_Expr} {deep : Int} {left : Int} {r : Int} (h : lazarettolaw06_Few e deep left = some r) : Pu Tryz.prog 70 [.agg (e_api_Expr e), .one (.int .i64 deep), .one (.int .i64 left)] (.one (.int .i64 r)) := (lazarettolaw06_Few_g_ok 1000000) _ _ _ _ h
theorem lazarettoref06_form_ok {e : api_Expr} {r : Bool} (h : lazarettoref06_form e = some r) :
    Pu Tryz.prog 101 [.agg (e_api_Expr e)] (.one (.bool r)) := by
  have F := trivial; have R := trivial
  refine pA Tryz.func101 ?_
  simp only [Tryz.f101]
  unfold lazarettoref06_form at h
  refine tt ?_
  repeat (first | (with_reducible intro _) | (with_reducible refine and_i ?_ ?_; exact ss))
  refine fi h F (fun h _ F => ?_) (fun h _ F => ?_)
  refine fi h F (fun h _ F => ?_) (fun h _ F => ?_)
  refine tt ?_
  refine fi h F (fun h _ F => ?_) (fun h _ F => ?_)
  refine fi h F (fun h _ F => ?_) (fun h _ F => ?_)
  refine tt ?_
  refine fi h F (fun h _ F => ?_) (fun h _ F => ?_)
  cases h; exact fin
  cases h; exact fin
  refine tt ?_
  refine fi h F (fun h _ F => ?_) (fun h _ F => ?_)
  exact (by omega : False).elim
  refine tt ?_
  refine fi h F (fun h _ F => ?_) (fun h _ F => ?_)
  exact (by omega : False).elim
  refine fi h F (fun h _ F => ?_) (fun h _ F => ?_)
  exact (by omega : False).elim
  cases h; exact fin
  refine fi h F (fun h _ F => ?_) (fun h _ F => ?_)
  refine tt ?_
  refine fi h F (fun h _ F => ?_) (fun h _ F => ?_)
  refine tt ?_
  refine fi h F (fun h _ F => ?_) (fun h _ F => ?_)
  cases h; exact fin
  cases h; exact fin
  refine fi h F (fun h _ F => ?_) (fun h _ F => ?_)
  exact (by omega : False).elim
  refine tt ?_
  refine fi h F (fun h _ F => ?_) (fun h _ F => ?_)
  exact (by omega : False).elim
  cases h; exact fin
  refine tt ?_
  refine fi h F (fun h _ F => ?_) (fun h _ F => ?_)
  refine tt ?_
  refine fi h F (fun h _ F => ?_) (fun h _ F => ?_)
  refine fi h F (fun h _ F => ?_) (fun h _ F => ?_)
  cases h; exact fin
  cases h; exact fin
  cases h; exact fin
  refine fi h F (fun h _ F => ?_) (fun h _ F => ?_)
  refine tt ?_
  refine fi h F (fun h _ F => ?_) (fun h _ F => ?_)
  refine fi h F (fun h _ F => ?_) (fun h _ F => ?_)
  cases h; exact fin
  cases h; exact fin
  cases h; exact fin
  cases h; exact fin
  cases h; exact fin
  refine fi h F (fun h _ F => ?_) (fun h _ F => ?_)
  refine tt ?_
  refine fi h F (fun h _ F => ?_) (fun h _ F => ?_)
  refine fi h F (fun h _ F => ?_) (fun h _ F => ?_)
  refine tt ?_
  refine fi h F (fun h _ F => ?_) (fun h _ F => ?_)
  refine bi h fun r_1 h hr_1 => ?_
  refine tt ?_
  repeat (first | (with_reducible intro _) | (with_reducible refine and_i ?_ ?_; exact ss))
  refine cS (lazarettoref05_Name_ok hr_1) ?_
  cases h; exact fin
  cases h; exact fin
  cases h; exact fin
  refine fi h F (fun h _ F => ?_) (fun h _ F => ?_)
  refine tt ?_
  refine fi h F (fun h _ F => ?_) (fun h _ F => ?_)
  refine fi h F (fun h _ F => ?_) (fun h _ F => ?_)
  refine tt ?_
  refine fi h F (fun h _ F => ?_) (fun h _ F => ?_)
  refine bi h fun r_2 h hr_2 => ?_
  refine tt ?_
  repeat (first | (with_reducible intro _) | (with_reducible refine and_i ?_ ?_; exact ss))
  refine cS (lazarettoref05_Name_ok hr_2) ?_
  cases h; exact fin
  cases h; exact fin
  cases h; exact fin
  cases h; exact fin
  refine tt ?_
  refine fi h F (fun h _ F => ?_) (fun h _ F => ?_)
  refine fi h F (fun h _ F => ?_) (fun h _ F => ?_)
  refine tt ?_
  refine fi h F (fun h _ F => ?_) (fun h _ F => ?_)
  refine bi h fun r_3 h hr_3 => ?_
  refine tt ?_
  repeat (first | (with_reducible intro _) | (with_reducible refine and_i ?_ ?_; exact ss))
  refine cS (lazarettoref05_Name_ok hr_3) ?_
  cases h; exact fin
  cases h; exact fin
  cases h; exact fin
  refine fi h F (fun h _ F => ?_) (fun h _ F => ?_)
  refine tt ?_
  refine fi h F (fun h _ F => ?_) (fun h _ F => ?_)
  refine fi h F (fun h _ F => ?_) (fun h _ F => ?_)
  refine bi h fun r_4 h hr_4 => ?_
  refine tt ?_
  repeat (first | (with_reducible intro _) | (with_reducible refine and_i ?_ ?_; exact ss))
  refine cS (lazarettoref05_Name_ok hr_4) ?_
  cases h; exact fin
  cases h; exact fin
  cases h; exact fin
  refine tt ?_
  refine fi h F (fun h _ F => ?_) (fun h _ F => ?_)
  refine fi h F (fun h _ F => ?_) (fun h _ F => ?_)
  refine tt ?_
  refine fi h F (fun h _ F => ?_) (fun h _ F => ?_)
  cases h; exact fin
  cases h; exact fin
  cases h; exact fin
  refine fi h F (fun h _ F => ?_) (fun h _ F => ?_)
  refine tt ?_
  refine fi h F (fun h _ F => ?_) (fun h _ F => ?_)
  refine fi h F (fun h _ F => ?_) (fun h _ F => ?_)
  cases h; exact fin
  cases h; exact fin
  cases h; exact fin
  refine tt ?_
  refine fi h F (fun h _ F => ?_) (fun h _ F => ?_)
  refine fi h F (fun h _ F => ?_) (fun h _ F => ?_)
  refine tt ?_
  refine fi h F (fun h _ F => ?_) (fun h _ F => ?_)
  refine fi h F (fun h _ F => ?_) (fun h _ F => ?_)
  cases h; exact fin
  cases h; exact fin
  cases h; exact fin
  cases h; exact fin
  cases h; exact fin
  cases h; exact fin
theorem lazarettoref06_brief_b_ok {lazarettoref06_brief_r : api_Expr → Int → Int → Option Int} {e : api_Expr} {deep : Int} {left : Int} {r : Int}
    (lazarettoref06_brief_r_ok : ∀ (x0 : api_Expr) (x1 : Int) (x2 : Int) (r : Int), lazarettoref06_brief_r x0 x1 x2 = some r → Pu Tryz.prog 63 [.agg (e_api_Expr x0), .one (.int .i64 x1), .one (.int .i64 x2)] (.one (.int .i64 r))) (h : lazarettoref06_brief_b lazarettoref06_brief_r e deep left = some r) :
    Pu Tryz.prog 63 [.agg (e_api_Expr e), .one (.int .i64 deep), .one (.int .i64 left)] (.one (.int .i64 r)) := by
  have F := trivial; have R := trivial
  refine pA Tryz.func63 ?_
  simp only [Tryz.f63]
  unfold lazarettoref06_brief_b at h
  refine fi h F (fun h _ F => ?_) (fun h _ F => ?_)
  cases h; exact fin
  refine tt ?_
  refine fi h F (fun h _ F => ?_) (fun h _ F => ?_)
  cases h; exact fin
  refine bi h fun r_1 h hr_1 => ?_
  refine tt ?_
  repeat (first | (with_reducible intro _) | (with_reducible refine and_i ?_ ?_; exact ss))
  refine cS (lazarettoref06_form_ok hr_1) ?_
  refine fv h F (fun h _ F => ?_) (fun h _ F => ?_)
  refine bi h fun e_4 h he_4 => ?_
  refine tt ?_
  refine lE (fun (s__ : Int × Nat) (a__ : Unit) => match s__, a__ with | (left_2, i_3), _ => ⟨[(1, .one (.int .i64 deep)), (2, .one (.int .i64 left_2)), (3, .one (.ref 0 0 0 0)), (7, .one (.int .i64 (i_3 : Int)))], [.cells 0 5 [[.int .i64 e.Op, .int .i64 e.N, .int .i64 e.Kind, .str e.Name, .sl (e.Args.map e_api_Expr)]]]⟩) (fun (e__ : Int) (b__ : Unit) => match e__, b__ with | e_4, _ => ⟨[(2, .one (.int .i64 e_4))], [.cells 0 5 [[.int .i64 e.Op, .int .i64 e.N, .int .i64 e.Kind, .str e.Name, .sl (e.Args.map e_api_Expr)]]]⟩) (fun (_ : Int) => some 0) () he_4 ?_ ?_
  intro i5 b5 hi5
  obtain rfl := Option.some.inj hi5
  obtain ⟨⟩ := b5
  dsimp only at h ⊢
  cases h; exact fin
  intro af5 m5 s5 a5 o5 hf5 ho5 ih5
  obtain ⟨left_2, i_3⟩ := s5
  obtain ⟨⟩ := a5
  dsimp only [lazarettoref06_brief_L1] at hf5 ⊢
  refine tt ?_
  repeat (first | (with_reducible intro _) | (with_reducible refine and_i ?_ ?_; exact ss))
  refine fl hf5 F (fun hf5 _ F => ?_) (fun hf5 _ F => ?_)
  refine fi hf5 F (fun hf5 _ F => ?_) (fun hf5 _ F => ?_)
  refine bx hf5 F fun x_6 hf5 hx_6 F => ?_
  refine bi hf5 fun r_7 hf5 hr_7 => ?_
  refine tt ?_
  repeat (first | (with_reducible intro _) | (with_reducible refine and_i ?_ ?_; exact ss))
  refine cS (lazarettoref06_brief_r_ok _ _ _ _ hr_7) ?_
  cases hf5
  refine tt ?_
  refine wn i_3 F fun F => ?_
  exact bk ih5 ho5 ()
  cases hf5
  refine tt ?_
  exact xt ho5 af5 ()
  cases hf5
  refine tt ?_
  exact xt ho5 af5 ()
  cases h; exact fin
theorem lazarettoref06_brief_g_ok (n : Nat) : (∀ (x0 : api_Expr) (x1 : Int) (x2 : Int) (r : Int), (lazarettoref06_brief_g n) x0 x1 x2 = some r → Pu Tryz.prog 63 [.agg (e_api_Expr x0), .one (.int .i64 x1), .one (.int .i64 x2)] (.one (.int .i64 r))) := by
  induction n with
  | zero => exact fun _ _ _ r h => (by cases h)
  | succ n ih =>
    have ih0 := ih
    exact fun _ _ _ r h => lazarettoref06_brief_b_ok ih0 h
theorem lazarettoref06_brief_ok {e : api_Expr} {deep : Int} {left : Int} {r : Int} (h : lazarettoref06_brief e deep left = some r) : Pu Tryz.prog 63 [.agg (e_api_Expr e), .one (.int .i64 deep), .one (.int .i64 left)] (.one (.int .i64 r)) := (lazarettoref06_brief_g_ok 1000000) _ _ _ _ h
theorem lazarettoref06_level_ok {op : Int} {r : Int} (h : lazarettoref06_level op = some r) :
    Pu Tryz.prog 104 [.one (.int .i64 op)] (.one (.int .i64 r)) := by
  have F := trivial; have R := trivial
  refine pA Tryz.func104 ?_
  simp only [Tryz.f104]
  unfold lazarettoref06_level at h
  refine fi h F (fun h _ F => ?_) (fun h _ F => ?_)
  cases h; exact fin
  refine tt ?_
  refine fi h F (fun h _ F => ?_) (fun h _ F => ?_)
  cases h; exact fin
  refine fi h F (fun h _ F => ?_) (fun h _ F => ?_)
  cases h; exact fin
  refine fi h F (fun h _ F => ?_) (fun h _ F => ?_)
  refine tt ?_
  refine fi h F (fun h _ F => ?_) (fun h _ F => ?_)
  cases h; exact fin
  refine fi h F (fun h _ F => ?_) (fun h _ F => ?_)
  cases h; exact fin
  refine tt ?_
  refine fi h F (fun h _ F => ?_) (fun h _ F => ?_)
  cases h; exact fin
  refine fi h F (fun h _ F => ?_) (fun h _ F => ?_)
  refine tt ?_
  refine fi h F (fun h _ F => ?_) (fun h _ F => ?_)
  cases h; exact fin
  refine fi h F (fun h _ F => ?_) (fun h _ F => ?_)
  cases h; exact fin
  refine tt ?_
  refine fi h F (fun h _ F => ?_) (fun h _ F => ?_)
  cases h; exact fin
  cases h; exact fin
  refine tt ?_
  refine fi h F (fun h _ F => ?_) (fun h _ F => ?_)
  cases h; exact fin
  refine fi h F (fun h _ F => ?_) (fun h _ F => ?_)
  cases h; exact fin
  cases h; exact fin
  refine tt ?_
  refine fi h F (fun h _ F => ?_) (fun h _ F => ?_)
  cases h; exact fin
  refine fi h F (fun h _ F => ?_) (fun h _ F => ?_)
  cases h; exact fin
  refine tt ?_
  refine fi h F (fun h _ F => ?_) (fun h _ F => ?_)
  refine fi h F (fun h _ F => ?_) (fun h _ F => ?_)
  cases h; exact fin
  refine tt ?_
  refine fi h F (fun h _ F => ?_) (fun h _ F => ?_)
  cases h; exact fin
  refine fi h F (fun h _ F => ?_) (fun h _ F => ?_)
  cases h; exact fin
  cases h; exact fin
  refine fi h F (fun h _ F => ?_) (fun h _ F => ?_)
  cases h; exact fin
  refine tt ?_
  refine fi h F (fun h _ F => ?_) (fun h _ F => ?_)
  cases h; exact fin
  cases h; exact fin
theorem lazarettoref06_signs_ok {level : Int} {r : Str × Int} (h : lazarettoref06_signs level = some r) :
    Pu Tryz.prog 124 [.one (.int .i64 level)] (.tup [.one (.str r.1), .one (.int .i64 r.2)]) := by
  have F := trivial; have R := trivial
  refine pA Tryz.func124 ?_
  simp only [Tryz.f124]
  unfold lazarettoref06_signs at h
  refine fi h F (fun h _ F => ?_) (fun h _ F => ?_)
  cases h; exact fin
  refine tt ?_
  refine fi h F (fun h _ F => ?_) (fun h _ F => ?_)
  cases h; exact fin
  refine fi h F (fun h _ F => ?_) (fun h _ F => ?_)
  cases h; exact fin
  refine fi h F (fun h _ F => ?_) (fun h _ F => ?_)
  cases h; exact fin
  refine fi h F (fun h _ F => ?_) (fun h _ F => ?_)
  cases h; exact fin
  cases h; exact fin
theorem lazarettoref06_sign_ok {op : Int} {r : Str} (h : lazarettoref06_sign op = some r) :
    Pu Tryz.prog 105 [.one (.int .i64 op)] (.one (.str r)) := by
  have F := trivial; have R := trivial
  refine pA Tryz.func105 ?_
  simp only [Tryz.f105]
  unfold lazarettoref06_sign at h
  refine bi h fun r_1 h hr_1 => ?_
  refine tt ?_
  repeat (first | (with_reducible intro _) | (with_reducible refine and_i ?_ ?_; exact ss))
  refine cS (lazarettoref06_level_ok hr_1) ?_
  refine bi h fun r_2 h hr_2 => ?_
  refine tt ?_
  repeat (first | (with_reducible intro _) | (with_reducible refine and_i ?_ ?_; exact ss))
  refine cS (lazarettoref06_signs_ok hr_2) ?_
  refine bi h fun e_6 h he_6 => ?_
  refine tt ?_
  refine lE (fun (s__ : Int × Int × Nat) (a__ : Unit) => match s__, a__ with | (k_3, from_4, i_5), _ => ⟨[(0, .one (.int .i64 op)), (3, .one (.str r_2.1)), (5, .one (.int .i64 k_3)), (6, .one (.int .i64 from_4)), (7, .one (.int .i64 (i_5 : Int)))], []⟩) (fun (e__ : Str ⊕ Unit) (b__ : Unit) => match e__, b__ with | (.inl e_11), _ => ⟨[], []⟩ | (.inr ()), _ => ⟨[], []⟩) (fun (e__ : Str ⊕ Unit) => match e__ with | (.inl _) => none | (.inr _) => some 0) () he_6 ?_ ?_
  intro i7 b7 hi7
  rcases e_6 with e_case | ⟨⟩
  cases hi7
  obtain rfl := Option.some.inj hi7
  obtain ⟨⟩ := b7
  dsimp only at h ⊢
  cases h; exact fin
  intro af7 m7 s7 a7 o7 hf7 ho7 ih7
  obtain ⟨k_3, from_4, i_5⟩ := s7
  obtain ⟨⟩ := a7
  dsimp only [lazarettoref06_sign_L1] at hf7 ⊢
  refine tt ?_
  repeat (first | (with_reducible intro _) | (with_reducible refine and_i ?_ ?_; exact ss))
  refine fm hf7 F (fun hf7 _ F => ?_) (fun hf7 _ F => ?_)
  refine tt ?_
  repeat (first | (with_reducible intro _) | (with_reducible refine and_i ?_ ?_; exact ss))
  refine fi hf7 F (fun hf7 _ F => ?_) (fun hf7 _ F => ?_)
  refine fi hf7 F (fun hf7 _ F => ?_) (fun hf7 _ F => ?_)
  refine nd hf7 F fun hf7 F => ?_
  cases hf7
  obtain rfl := sr ho7
  try dsimp only at h
  cases h
  exact fin
  cases hf7
  refine tt ?_
  refine wn i_5 F fun F => ?_
  exact bk ih7 ho7 ()
  refine bx hf7 F fun c_9 hf7 hc_9 F => ?_
  refine tt ?_
  repeat (first | (with_reducible intro _) | (with_reducible refine and_i ?_ ?_; exact ss))
  refine fi hf7 F (fun hf7 _ F => ?_) (fun hf7 _ F => ?_)
  refine fi hf7 F (fun hf7 _ F => ?_) (fun hf7 _ F => ?_)
  refine nd hf7 F fun hf7 F => ?_
  cases hf7
  obtain rfl := sr ho7
  try dsimp only at h
  cases h
  exact fin
  cases hf7
  refine tt ?_
  refine wn i_5 F fun F => ?_
  exact bk ih7 ho7 ()
  cases hf7
  refine tt ?_
  refine wn i_5 F fun F => ?_
  exact bk ih7 ho7 ()
  cases hf7
  refine tt ?_
  exact xt ho7 af7 ()
theorem lazarettoref06_text_b_ok {lazarettoref06_text_r : api_Expr → Option Str} {lazarettoref06_part_r : api_Expr → Int → Option Str} {e : api_Expr} {r : Str}
    (lazarettoref06_text_r_ok : ∀ (x0 : api_Expr) (r : Str), lazarettoref06_text_r x0 = some r → Pu Tryz.prog 64 [.agg (e_api_Expr x0)] (.one (.str r)))
    (lazarettoref06_part_r_ok : ∀ (x0 : api_Expr) (x1 : Int) (r : Str), lazarettoref06_part_r x0 x1 = some r → Pu Tryz.prog 103 [.agg (e_api_Expr x0), .one (.int .i64 x1)] (.one (.str r))) (h : lazarettoref06_text_b lazarettoref06_text_r lazarettoref06_part_r e = some r) :
    Pu Tryz.prog 64 [.agg (e_api_Expr e)] (.one (.str r)) := by
  have F := trivial; have R := trivial
  refine pA Tryz.func64 ?_
  simp only [Tryz.f64]
  unfold lazarettoref06_text_b at h
  refine fi h F (fun h _ F => ?_) (fun h _ F => ?_)
  refine tt ?_
  refine fi h F (fun h _ F => ?_) (fun h _ F => ?_)
  refine fi h F (fun h _ F => ?_) (fun h _ F => ?_)
  cases h; exact fin
  cases h; exact fin
  refine fi h F (fun h _ F => ?_) (fun h _ F => ?_)
  refine bi h fun r_1 h hr_1 => ?_
  refine tt ?_
  repeat (first | (with_reducible intro _) | (with_reducible refine and_i ?_ ?_; exact ss))
  refine cS (lazarettoref05_Digits_ok hr_1) ?_
  refine nd h F fun h F => ?_
  refine nd h F fun h F => ?_
  cases h; exact fin
  refine fi h F (fun h _ F => ?_) (fun h _ F => ?_)
  refine bi h fun r_4 h hr_4 => ?_
  refine tt ?_
  repeat (first | (with_reducible intro _) | (with_reducible refine and_i ?_ ?_; exact ss))
  refine cS (lazarettoref05_Digits_ok hr_4) ?_
  refine nd h F fun h F => ?_
  refine nd h F fun h F => ?_
  cases h; exact fin
  refine bi h fun r_7 h hr_7 => ?_
  refine tt ?_
  repeat (first | (with_reducible intro _) | (with_reducible refine and_i ?_ ?_; exact ss))
  refine cS (lazarettoref05_Digits_ok hr_7) ?_
  cases h; exact fin
  refine tt ?_
  refine fi h F (fun h _ F => ?_) (fun h _ F => ?_)
  cases h; exact fin
  refine fi h F (fun h _ F => ?_) (fun h _ F => ?_)
  refine nd h F fun h F => ?_
  refine bi h fun r_9 h hr_9 => ?_
  refine tt ?_
  repeat (first | (with_reducible intro _) | (with_reducible refine and_i ?_ ?_; exact ss))
  refine cD (lazarettoref05_Digits_ok hr_9) ?_
  refine nd h F fun h F => ?_
  cases h; exact fin
  refine fi h F (fun h _ F => ?_) (fun h _ F => ?_)
  refine nd h F fun h F => ?_
  refine bx h F fun x_12 h hx_12 F => ?_
  refine bi h fun r_13 h hr_13 => ?_
  refine tt ?_
  repeat (first | (with_reducible intro _) | (with_reducible refine and_i ?_ ?_; exact ss))
  refine cD (lazarettoref06_text_r_ok _ _ hr_13) ?_
  refine nd h F fun h F => ?_
  refine nd h F fun h F => ?_
  cases h; exact fin
  refine fi h F (fun h _ F => ?_) (fun h _ F => ?_)
  refine nd h F fun h F => ?_
  refine nd h F fun h F => ?_
  refine bx h F fun x_18 h hx_18 F => ?_
  refine bi h fun r_19 h hr_19 => ?_
  refine tt ?_
  repeat (first | (with_reducible intro _) | (with_reducible refine and_i ?_ ?_; exact ss))
  refine cD (lazarettoref06_text_r_ok _ _ hr_19) ?_
  refine nd h F fun h F => ?_
  refine nd h F fun h F => ?_
  cases h; exact fin
  refine tt ?_
  refine fi h F (fun h _ F => ?_) (fun h _ F => ?_)
  refine bx h F fun x_22 h hx_22 F => ?_
  refine bi h fun r_23 h hr_23 => ?_
  refine tt ?_
  repeat (first | (with_reducible intro _) | (with_reducible refine and_i ?_ ?_; exact ss))
  refine cS (lazarettoref06_part_r_ok _ _ _ hr_23) ?_
  refine nd h F fun h F => ?_
  cases h; exact fin
  refine fi h F (fun h _ F => ?_) (fun h _ F => ?_)
  refine bx h F fun x_25 h hx_25 F => ?_
  refine bi h fun r_26 h hr_26 => ?_
  refine tt ?_
  repeat (first | (with_reducible intro _) | (with_reducible refine and_i ?_ ?_; exact ss))
  refine cS (lazarettoref06_part_r_ok _ _ _ hr_26) ?_
  refine nd h F fun h F => ?_
  cases h; exact fin
  refine bi h fun r_28 h hr_28 => ?_
  refine tt ?_
  repeat (first | (with_reducible intro _) | (with_reducible refine and_i ?_ ?_; exact ss))
  refine cS (lazarettoref06_level_ok hr_28) ?_
  refine bx h F fun x_29 h hx_29 F => ?_
  refine bi h fun r_30 h hr_30 => ?_
  refine tt ?_
  repeat (first | (with_reducible intro _) | (with_reducible refine and_i ?_ ?_; exact ss))
  refine cD (lazarettoref06_part_r_ok _ _ _ hr_30) ?_
  refine nd h F fun h F => ?_
  refine bi h fun r_32 h hr_32 => ?_
  refine tt ?_
  repeat (first | (with_reducible intro _) | (with_reducible refine and_i ?_ ?_; exact ss))
  refine cD (lazarettoref06_sign_ok hr_32) ?_
  refine nd h F fun h F => ?_
  refine nd h F fun h F => ?_
  refine bx h F fun x_35 h hx_35 F => ?_
  refine bi h fun r_36 h hr_36 => ?_
  refine tt ?_
  repeat (first | (with_reducible intro _) | (with_reducible refine and_i ?_ ?_; exact ss))
  refine cD (lazarettoref06_part_r_ok _ _ _ hr_36) ?_
  refine nd h F fun h F => ?_
  cases h; exact fin
theorem lazarettoref06_part_b_ok {lazarettoref06_text_r : api_Expr → Option Str} {lazarettoref06_part_r : api_Expr → Int → Option Str} {e : api_Expr} {least : Int} {r : Str}
    (lazarettoref06_text_r_ok : ∀ (x0 : api_Expr) (r : Str), lazarettoref06_text_r x0 = some r → Pu Tryz.prog 64 [.agg (e_api_Expr x0)] (.one (.str r)))
    (lazarettoref06_part_r_ok : ∀ (x0 : api_Expr) (x1 : Int) (r : Str), lazarettoref06_part_r x0 x1 = some r → Pu Tryz.prog 103 [.agg (e_api_Expr x0), .one (.int .i64 x1)] (.one (.str r))) (h : lazarettoref06_part_b lazarettoref06_text_r lazarettoref06_part_r e least = some r) :
    Pu Tryz.prog 103 [.agg (e_api_Expr e), .one (.int .i64 least)] (.one (.str r)) := by
  have F := trivial; have R := trivial
  refine pA Tryz.func103 ?_
  simp only [Tryz.f103]
  unfold lazarettoref06_part_b at h
  refine bi h fun r_1 h hr_1 => ?_
  refine tt ?_
  repeat (first | (with_reducible intro _) | (with_reducible refine and_i ?_ ?_; exact ss))
  refine cS (lazarettoref06_level_ok hr_1) ?_
  refine fi h F (fun h _ F => ?_) (fun h _ F => ?_)
  refine bi h fun r_2 h hr_2 => ?_
  refine tt ?_
  repeat (first | (with_reducible intro _) | (with_reducible refine and_i ?_ ?_; exact ss))
  refine cS (lazarettoref06_text_r_ok _ _ hr_2) ?_
  refine nd h F fun h F => ?_
  refine nd h F fun h F => ?_
  cases h; exact fin
  refine bi h fun r_5 h hr_5 => ?_
  refine tt ?_
  repeat (first | (with_reducible intro _) | (with_reducible refine and_i ?_ ?_; exact ss))
  refine cS (lazarettoref06_text_r_ok _ _ hr_5) ?_
  cases h; exact fin
theorem lazarettoref06_text_g_ok (n : Nat) : (∀ (x0 : api_Expr) (r : Str), (lazarettoref06_text_g n).1 x0 = some r → Pu Tryz.prog 64 [.agg (e_api_Expr x0)] (.one (.str r))) ∧ (∀ (x0 : api_Expr) (x1 : Int) (r : Str), (lazarettoref06_text_g n).2 x0 x1 = some r → Pu Tryz.prog 103 [.agg (e_api_Expr x0), .one (.int .i64 x1)] (.one (.str r))) := by
  induction n with
  | zero => exact ⟨fun _ r h => (by cases h), fun _ _ r h => (by cases h)⟩
  | succ n ih =>
    obtain ⟨ih0, ih1⟩ := ih
    exact ⟨fun _ r h => lazarettoref06_text_b_ok ih0 ih1 h, fun _ _ r h => lazarettoref06_part_b_ok ih0 ih1 h⟩
theorem lazarettoref06_text_ok {e : api_Expr} {r : Str} (h : lazarettoref06_text e = some r) : Pu Tryz.prog 64 [.agg (e_api_Expr e)] (.one (.str r)) := (lazarettoref06_text_g_ok 1000000).1 _ _ h
theorem lazarettoref06_part_ok {e : api_Expr} {least : Int} {r : Str} (h : lazarettoref06_part e least = some r) : Pu Tryz.prog 103 [.agg (e_api_Expr e), .one (.int .i64 least)] (.one (.str r)) := (lazarettoref06_text_g_ok 1000000).2 _ _ _ h
theorem lazarettoref06_Check_ok {e : api_Expr} {r : Bool} (h : lazarettoref06_Check e = some r) :
    Pu Tryz.prog 37 [.agg (e_api_Expr e)] (.one (.bool r)) := by
  have F := trivial; have R := trivial
  refine pA Tryz.func37 ?_
  simp only [Tryz.f37]
  unfold lazarettoref06_Check at h
  refine bi h fun r_1 h hr_1 => ?_
  refine tt ?_
  repeat (first | (with_reducible intro _) | (with_reducible refine and_i ?_ ?_; exact ss))
  refine cS (lazarettoref06_brief_ok hr_1) ?_
  refine fi h F (fun h _ F => ?_) (fun h _ F => ?_)
  refine bi h fun r_2 h hr_2 => ?_
  refine tt ?_
  repeat (first | (with_reducible intro _) | (with_reducible refine and_i ?_ ?_; exact ss))
  refine cS (lazarettoref06_text_ok hr_2) ?_
  cases h; exact fin
  cases h; exact fin
theorem lazarettoref06_Same_b_ok {lazarettoref06_Same_r : api_Expr → api_Expr → Option Bool} {a : api_Expr} {b : api_Expr} {r : Bool}
    (lazarettoref06_Same_r_ok : ∀ (x0 : api_Expr) (x1 : api_Expr) (r : Bool), lazarettoref06_Same_r x0 x1 = some r → Pu Tryz.prog 139 [.agg (e_api_Expr x0), .agg (e_api_Expr x1)] (.one (.bool r))) (h : lazarettoref06_Same_b lazarettoref06_Same_r a b = some r) :
    Pu Tryz.prog 139 [.agg (e_api_Expr a), .agg (e_api_Expr b)] (.one (.bool r)) := by
  have F := trivial; have R := trivial
  refine pA Tryz.func139 ?_
  simp only [Tryz.f139]
  unfold lazarettoref06_Same_b at h
  refine tt ?_
  refine fi h F (fun h _ F => ?_) (fun h _ F => ?_)
  refine tt ?_
  refine fi h F (fun h _ F => ?_) (fun h _ F => ?_)
  refine tt ?_
  refine fi h F (fun h _ F => ?_) (fun h _ F => ?_)
  refine tt ?_
  refine fi h F (fun h _ F => ?_) (fun h _ F => ?_)
  refine tt ?_
  repeat (first | (with_reducible intro _) | (with_reducible refine and_i ?_ ?_; exact ss))
  refine fi h F (fun h _ F => ?_) (fun h _ F => ?_)
  refine bi h fun e_2 h he_2 => ?_
  refine tt ?_
  refine lE (fun (s__ : Nat) (a__ : Unit) => match s__, a__ with | i_1, _ => ⟨[(2, .one (.ref 0 0 0 0)), (3, .one (.ref 1 0 0 0)), (5, .one (.int .i64 (i_1 : Int)))], [.cells 0 5 [[.int .i64 a.Op, .int .i64 a.N, .int .i64 a.Kind, .str a.Name, .sl (a.Args.map e_api_Expr)]], .cells 0 5 [[.int .i64 b.Op, .int .i64 b.N, .int .i64 b.Kind, .str b.Name, .sl (b.Args.map e_api_Expr)]]]⟩) (fun (e__ : Bool ⊕ Unit) (b__ : Unit) => match e__, b__ with | (.inl e_7), _ => ⟨[], []⟩ | (.inr ()), _ => ⟨[], [.cells 0 5 [[.int .i64 a.Op, .int .i64 a.N, .int .i64 a.Kind, .str a.Name, .sl (a.Args.map e_api_Expr)]], .cells 0 5 [[.int .i64 b.Op, .int .i64 b.N, .int .i64 b.Kind, .str b.Name, .sl (b.Args.map e_api_Expr)]]]⟩) (fun (e__ : Bool ⊕ Unit) => match e__ with | (.inl _) => none | (.inr _) => some 0) () he_2 ?_ ?_
  intro i3 b3 hi3
  rcases e_2 with e_case | ⟨⟩
  cases hi3
  obtain rfl := Option.some.inj hi3
  obtain ⟨⟩ := b3
  dsimp only at h ⊢
  cases h; exact fin
  intro af3 m3 i_1 a3 o3 hf3 ho3 ih3
  obtain ⟨⟩ := a3
  dsimp only [lazarettoref06_Same_L1] at hf3 ⊢
  refine tt ?_
  repeat (first | (with_reducible intro _) | (with_reducible refine and_i ?_ ?_; exact ss))
  refine fl hf3 F (fun hf3 _ F => ?_) (fun hf3 _ F => ?_)
  refine bx hf3 F fun x_4 hf3 hx_4 F => ?_
  refine bx hf3 F fun x_5 hf3 hx_5 F => ?_
  refine bi hf3 fun r_6 hf3 hr_6 => ?_
  refine tt ?_
  repeat (first | (with_reducible intro _) | (with_reducible refine and_i ?_ ?_; exact ss))
  refine cD (lazarettoref06_Same_r_ok _ _ _ hr_6) ?_
  refine tt ?_
  repeat (first | (with_reducible intro _) | (with_reducible refine and_i ?_ ?_; exact ss))
  refine fv hf3 F (fun hf3 _ F => ?_) (fun hf3 _ F => ?_)
  cases hf3
  refine tt ?_
  refine wn i_1 F fun F => ?_
  exact bk ih3 ho3 ()
  cases hf3
  obtain rfl := sr ho3
  try dsimp only at h
  cases h
  exact fin
  cases hf3
  refine tt ?_
  exact xt ho3 af3 ()
  cases h; exact fin
  cases h; exact fin
  cases h; exact fin
  cases h; exact fin
  cases h; exact fin
theorem lazarettoref06_Same_g_ok (n : Nat) : (∀ (x0 : api_Expr) (x1 : api_Expr) (r : Bool), (lazarettoref06_Same_g n) x0 x1 = some r → Pu Tryz.prog 139 [.agg (e_api_Expr x0), .agg (e_api_Expr x1)] (.one (.bool r))) := by
  induction n with
  | zero => exact fun _ _ r h => (by cases h)
  | succ n ih =>
    have ih0 := ih
    exact fun _ _ r h => lazarettoref06_Same_b_ok ih0 h
theorem lazarettoref06_Same_ok {a : api_Expr} {b : api_Expr} {r : Bool} (h : lazarettoref06_Same a b = some r) : Pu Tryz.prog 139 [.agg (e_api_Expr a), .agg (e_api_Expr b)] (.one (.bool r)) := (lazarettoref06_Same_g_ok 1000000) _ _ _ h
theorem lazarettoref06_Print_ok {e : api_Expr} {r : Str} (h : lazarettoref06_Print e = some r) :
    Pu Tryz.prog 137 [.agg (e_api_Expr e)] (.one (.str r)) := by
  have F := trivial; have R := trivial
  refine pA Tryz.func137 ?_
  simp only [Tryz.f137]
  unfold lazarettoref06_Print at h
  refine bi h fun r_1 h hr_1 => ?_
  refine tt ?_
  repeat (first | (with_reducible intro _) | (with_reducible refine and_i ?_ ?_; exact ss))
  refine cS (lazarettoref06_Check_ok hr_1) ?_
  refine fv h F (fun h _ F => ?_) (fun h _ F => ?_)
  refine bi h fun r_2 h hr_2 => ?_
  refine tt ?_
  repeat (first | (with_reducible intro _) | (with_reducible refine and_i ?_ ?_; exact ss))
  refine cS (lazarettoref06_text_ok hr_2) ?_
  cases h; exact fin
  cases h; exact fin
end Go.Lz
