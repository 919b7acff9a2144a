/- V07 -/
import Derived.Test.YtmgedefdjobgdaaGreatV06
namespace Go.Lz
set_option linter.unusedVariables false
set_option linter.unusedSimpArgs false
open Go.Proofs
attribute [-go_sem] q_cond g_b gd_b
set_option maxRecDepth 100000
set_option maxHeartbeats 4000000
noncomputable section
def lazarettolaw07_Few_L2 (lazarettolaw07_Few_r : (List api_Stmt) → Int → Int → Option Int) (l : List api_Stmt) (deep : Int) : (Int × Nat) → Option ((Int × Nat) ⊕ (Int))
  | (left_12, i_13) => if (i_13 : Int) < (l.length : Int) then (if 0 ≤ left_12 then ((l[i_13]?).bind fun x_16 => (lazarettolaw06_Few x_16.Target 60 (w64 (left_12 - (w64 ((x_16.Name.length : Int).tdiv 100))))).bind fun r_17 => if 0 ≤ r_17 then ((lazarettolaw06_Few x_16.Value 60 r_17).bind fun r_18 => if 0 ≤ r_18 then ((lazarettolaw06_Few (⟨0, 0, 0, [], x_16.Args⟩ : api_Expr) 60 r_18).bind fun r_19 => if 0 ≤ r_19 then ((lazarettolaw07_Few_r x_16.Body (w64 (deep - 1)) r_19).bind fun r_20 => if 0 ≤ r_20 then ((lazarettolaw07_Few_r x_16.Else (w64 (deep - 1)) r_20).bind fun r_21 => some (.inl (r_21, (i_13 + 1)))) else (some (.inl (r_20, (i_13 + 1))))) else (some (.inl (r_19, (i_13 + 1))))) else (some (.inl (r_18, (i_13 + 1))))) else (some (.inl (r_17, (i_13 + 1))))) else (some (.inr (left_12)))) else (some (.inr (left_12)))
def lazarettolaw07_Few_L1 (lazarettolaw07_Few_r : (List api_Stmt) → Int → Int → Option Int) (l : List api_Stmt) (deep : Int) : (Int × Nat) → Option ((Int × Nat) ⊕ (Int))
  | (left_1, i_2) => if (i_2 : Int) < (l.length : Int) then (if 0 ≤ left_1 then ((l[i_2]?).bind fun x_5 => (lazarettolaw06_Few x_5.Target 60 (w64 (left_1 - (w64 ((x_5.Name.length : Int).tdiv 100))))).bind fun r_6 => if 0 ≤ r_6 then ((lazarettolaw06_Few x_5.Value 60 r_6).bind fun r_7 => if 0 ≤ r_7 then ((lazarettolaw06_Few (⟨0, 0, 0, [], x_5.Args⟩ : api_Expr) 60 r_7).bind fun r_8 => if 0 ≤ r_8 then ((lazarettolaw07_Few_r x_5.Body (w64 (deep - 1)) r_8).bind fun r_9 => if 0 ≤ r_9 then ((lazarettolaw07_Few_r x_5.Else (w64 (deep - 1)) r_9).bind fun r_10 => some (.inl (r_10, (i_2 + 1)))) else (some (.inl (r_9, (i_2 + 1))))) else (some (.inl (r_8, (i_2 + 1))))) else (some (.inl (r_7, (i_2 + 1))))) else (some (.inl (r_6, (i_2 + 1))))) else (some (.inr (left_1)))) else (some (.inr (left_1)))
def lazarettolaw07_Few_b (lazarettolaw07_Few_r : (List api_Stmt) → Int → Int → Option Int) (l : List api_Stmt) (deep : Int) (left : Int) : Option Int :=
  if 0 < (l.length : Int) then (if deep < 1 then (some (-1)) else (if (w64 (left - (l.length : Int))) < 0 then (some (-1)) else ((loop (lazarettolaw07_Few_L1 lazarettolaw07_Few_r l deep) ((w64 (left - (l.length : Int))), 0)).bind (fun e_3 => some e_3)))) else (if (w64 (left - (l.length : Int))) < 0 then (some (-1)) else ((loop (lazarettolaw07_Few_L2 lazarettolaw07_Few_r l deep) ((w64 (left - (l.length : Int))), 0)).bind (fun e_14 => some e_14)))
def lazarettolaw07_Few_g : Nat → ((List api_Stmt) → Int → Int → Option Int)
  | 0 => fun _ _ _ => none
  | n + 1 => lazarettolaw07_Few_b (lazarettolaw07_Few_g n)
def lazarettolaw07_Few_n (n : Nat) (l : List api_Stmt) (deep : Int) (left : Int) : Option Int := (lazarettolaw07_Few_g n) l deep left
def lazarettolaw07_Few (l : List api_Stmt) (deep : Int) (left : Int) : Option Int := lazarettolaw07_Few_n 1000000 l deep left
def lazarettoref07_target (e : api_Expr) : Option Bool :=
  if e.Op = 2 then ((lazarettoref06_Check e).bind fun r_1 => some r_1) else (if e.Op = 3 then (if (e.Args.length : Int) = 1 then (if e.N = 0 then (if e.Kind = 0 then ((lazarettoref05_Name e.Name).bind fun r_2 => if r_2 = true then ((e.Args[0]?).bind fun x_3 => (lazarettoref06_Check x_3).bind fun r_4 => some r_4) else (some false)) else (some false)) else (some false)) else (some false)) else (some false))
def lazarettoref07_none (e : api_Expr) : Option Bool :=
  (lazarettoref06_Same e (⟨0, 0, 0, [], []⟩ : api_Expr)).bind fun r_1 => some r_1
def lazarettoref07_args_L1 (l : List api_Expr) : Nat → Option ((Nat) ⊕ (Bool ⊕ Unit))
  | i_1 => if (i_1 : Int) < (l.length : Int) then ((l[i_1]?).bind fun x_4 => (lazarettoref06_Check x_4).bind fun r_5 => if r_5 = true then (some (.inl (i_1 + 1))) else (some (.inr (.inl (false))))) else (some (.inr (.inr (()))))
def lazarettoref07_args (l : List api_Expr) : Option Bool :=
  (loop (lazarettoref07_args_L1 l) 0).bind (fun e__ => match e__ with | (.inl e_6) => some e_6 | (.inr ()) => some true)
def lazarettoref07_form (s : api_Stmt) : Option Bool :=
  if (s.Body.length : Int) = 0 then (if s.Kind = 1 then (if (s.Else.length : Int) = 0 then (if s.Name = [] then (if (s.Args.length : Int) = 0 then ((lazarettoref07_target s.Target).bind fun r_1 => if r_1 = true then ((lazarettoref06_Check s.Value).bind fun r_2 => some r_2) else (some false)) else (some false)) else (some false)) else (some false)) else (if s.Kind = 2 then (if s.Name = [] then (if (s.Args.length : Int) = 0 then ((lazarettoref07_none s.Target).bind fun r_3 => if r_3 = true then ((lazarettoref06_Check s.Value).bind fun r_4 => some r_4) else (some false)) else (some false)) else (some false)) else (if s.Kind = 3 then (if s.Name = [] then (if (s.Args.length : Int) = 0 then (if (s.Else.length : Int) = 0 then ((lazarettoref07_none s.Target).bind fun r_5 => if r_5 = true then ((lazarettoref06_Check s.Value).bind fun r_6 => some r_6) else (some false)) else (some false)) else (some false)) else (some false)) else (if s.Kind = 4 then ((lazarettoref05_Name s.Name).bind fun r_7 => if r_7 = true then (if (s.Args.length : Int) = 2 then ((lazarettoref07_args s.Args).bind fun r_8 => if r_8 = true then (if (s.Else.length : Int) = 0 then ((lazarettoref07_none s.Target).bind fun r_9 => if r_9 = true then ((lazarettoref07_none s.Value).bind fun r_10 => some r_10) else (some false)) else (some false)) else (some false)) else (some false)) else (some false)) else (if s.Kind = 5 then (if (s.Else.length : Int) = 0 then ((lazarettoref05_Name s.Name).bind fun r_11 => if r_11 = true then ((lazarettoref07_none s.Target).bind fun r_12 => if r_12 = true then ((lazarettoref07_none s.Value).bind fun r_13 => if r_13 = true then (if (s.Args.length : Int) ≤ 16384 then ((lazarettoref07_args s.Args).bind fun r_14 => some r_14) else (some false)) else (some false)) else (some false)) else (some false)) else (some false)) else (some false)))))) else (if s.Kind = 1 then (some false) else (if s.Kind = 2 then (if s.Name = [] then (if (s.Args.length : Int) = 0 then ((lazarettoref07_none s.Target).bind fun r_15 => if r_15 = true then ((lazarettoref06_Check s.Value).bind fun r_16 => some r_16) else (some false)) else (some false)) else (some false)) else (if s.Kind = 3 then (if s.Name = [] then (if (s.Args.length : Int) = 0 then (if (s.Else.length : Int) = 0 then ((lazarettoref07_none s.Target).bind fun r_17 => if r_17 = true then ((lazarettoref06_Check s.Value).bind fun r_18 => some r_18) else (some false)) else (some false)) else (some false)) else (some false)) else (if s.Kind = 4 then ((lazarettoref05_Name s.Name).bind fun r_19 => if r_19 = true then (if (s.Args.length : Int) = 2 then ((lazarettoref07_args s.Args).bind fun r_20 => if r_20 = true then (if (s.Else.length : Int) = 0 then ((lazarettoref07_none s.Target).bind fun r_21 => if r_21 = true then ((lazarettoref07_none s.Value).bind fun r_22 => some r_22) else (some false)) else (some false)) else (some false)) else (some false)) else (some false)) else (if s.Kind = 5 then (some false) else (some false))))))
def lazarettoref07_index (e : api_Expr) : Option Str :=
  if e.Op = 3 then ((e.Args[0]?).bind fun x_1 => (lazarettoref06_Print x_1).bind fun r_2 => need (r_2.length + 1 ≤ 281474976710656) (need (r_2.length + 2 ≤ 281474976710656) (some ((([91] : Str) ++ r_2) ++ ([93] : Str))))) else (some [])
def lazarettoref07_head_L1 (s : api_Stmt) : (Str × Nat) → Option ((Str × Nat) ⊕ (Str))
  | (t_25, i_26) => if (i_26 : Int) < (s.Args.length : Int) then (if 0 < (i_26 : Int) then (need (t_25.length + 2 ≤ 281474976710656) ((s.Args[i_26]?).bind fun x_30 => (lazarettoref06_Print x_30).bind fun r_31 => need (t_25.length + r_31.length + 2 ≤ 281474976710656) (some (.inl (((t_25 ++ ([44, 32] : Str)) ++ r_31), (i_26 + 1)))))) else ((s.Args[i_26]?).bind fun x_33 => (lazarettoref06_Print x_33).bind fun r_34 => need (t_25.length + r_34.length ≤ 281474976710656) (some (.inl ((t_25 ++ r_34), (i_26 + 1)))))) else (some (.inr (t_25)))
def lazarettoref07_head (s : api_Stmt) : Option Str :=
  if s.Kind = 1 then ((lazarettoref06_Print (⟨2, 0, 0, s.Target.Name, []⟩ : api_Expr)).bind fun r_1 => (lazarettoref07_index s.Target).bind fun r_2 => need (r_1.length + r_2.length ≤ 281474976710656) (need (r_1.length + r_2.length + 4 ≤ 281474976710656) ((lazarettoref06_Print s.Value).bind fun r_5 => need (r_1.length + r_2.length + r_5.length + 4 ≤ 281474976710656) (need (r_1.length + r_2.length + r_5.length + 5 ≤ 281474976710656) (some ((((r_1 ++ r_2) ++ ([32, 58, 61, 32] : Str)) ++ r_5) ++ ([59] : Str))))))) else (if s.Kind = 2 then ((lazarettoref06_Print s.Value).bind fun r_8 => need (r_8.length + 3 ≤ 281474976710656) (need (r_8.length + 9 ≤ 281474976710656) (some ((([73, 70, 32] : Str) ++ r_8) ++ ([32, 84, 72, 69, 78, 32] : Str))))) else (if s.Kind = 3 then ((lazarettoref06_Print s.Value).bind fun r_11 => need (r_11.length + 6 ≤ 281474976710656) (need (r_11.length + 10 ≤ 281474976710656) (some ((([87, 72, 73, 76, 69, 32] : Str) ++ r_11) ++ ([32, 68, 79, 32] : Str))))) else (if s.Kind = 4 then (need (s.Name.length + 4 ≤ 281474976710656) (need (s.Name.length + 8 ≤ 281474976710656) ((s.Args[0]?).bind fun x_16 => (lazarettoref06_Print x_16).bind fun r_17 => need (s.Name.length + r_17.length + 8 ≤ 281474976710656) (need (s.Name.length + r_17.length + 12 ≤ 281474976710656) ((s.Args[1]?).bind fun x_20 => (lazarettoref06_Print x_20).bind fun r_21 => need (s.Name.length + r_17.length + r_21.length + 12 ≤ 281474976710656) (need (s.Name.length + r_17.length + r_21.length + 16 ≤ 281474976710656) (some ((((((([70, 79, 82, 32] : Str) ++ s.Name) ++ ([32, 58, 61, 32] : Str)) ++ r_17) ++ ([32, 84, 79, 32] : Str)) ++ r_21) ++ ([32, 68, 79, 32] : Str))))))))) else (need (s.Name.length + 1 ≤ 281474976710656) ((loop (lazarettoref07_head_L1 s) ((s.Name ++ ([40] : Str)), 0)).bind (fun e_27 => need (e_27.length + 2 ≤ 281474976710656) (some (e_27 ++ ([41, 59] : Str)))))))))
def lazarettoref07_brief_L2 (lazarettoref07_brief_r : (List api_Stmt) → Int → Int → Option Int) (l : List api_Stmt) (deep : Int) : (Int × Nat) → Option ((Int × Nat) ⊕ (Int ⊕ Int))
  | (left_12, i_13) => if (i_13 : Int) < (l.length : Int) then (if 0 ≤ left_12 then ((l[i_13]?).bind fun x_16 => (lazarettoref07_form x_16).bind fun r_17 => if r_17 = true then ((lazarettoref07_head x_16).bind fun r_18 => if 0 ≤ (w64 (left_12 - (r_18.length : Int))) then ((lazarettoref07_brief_r x_16.Body (w64 (deep - 1)) (w64 (left_12 - (r_18.length : Int)))).bind fun r_19 => if 0 ≤ r_19 then ((lazarettoref07_brief_r x_16.Else (w64 (deep - 1)) r_19).bind fun r_20 => some (.inl (r_20, (i_13 + 1)))) else (some (.inl (r_19, (i_13 + 1))))) else (some (.inl ((w64 (left_12 - (r_18.length : Int))), (i_13 + 1))))) else (some (.inr (.inl ((-1)))))) else (some (.inr (.inr (left_12))))) else (some (.inr (.inr (left_12))))
def lazarettoref07_brief_L1 (lazarettoref07_brief_r : (List api_Stmt) → Int → Int → Option Int) (l : List api_Stmt) (deep : Int) : (Int × Nat) → Option ((Int × Nat) ⊕ (Int ⊕ Int))
  | (left_1, i_2) => if (i_2 : Int) < (l.length : Int) then (if 0 ≤ left_1 then ((l[i_2]?).bind fun x_5 => (lazarettoref07_form x_5).bind fun r_6 => if r_6 = true then ((lazarettoref07_head x_5).bind fun r_7 => if 0 ≤ (w64 (left_1 - (r_7.length : Int))) then ((lazarettoref07_brief_r x_5.Body (w64 (deep - 1)) (w64 (left_1 - (r_7.length : Int)))).bind fun r_8 => if 0 ≤ r_8 then ((lazarettoref07_brief_r x_5.Else (w64 (deep - 1)) r_8).bind fun r_9 => some (.inl (r_9, (i_2 + 1)))) else (some (.inl (r_8, (i_2 + 1))))) else (some (.inl ((w64 (left_1 - (r_7.length : Int))), (i_2 + 1))))) else (some (.inr (.inl ((-1)))))) else (some (.inr (.inr (left_1))))) else (some (.inr (.inr (left_1))))
def lazarettoref07_brief_b (lazarettoref07_brief_r : (List api_Stmt) → Int → Int → Option Int) (l : List api_Stmt) (deep : Int) (left : Int) : Option Int :=
  if deep < 0 then (some (-1)) else (if 0 < (l.length : Int) then (if deep < 1 then (some (-1)) else (if left < (l.length : Int) then (some (-1)) else ((loop (lazarettoref07_brief_L1 lazarettoref07_brief_r l deep) (left, 0)).bind (fun e__ => match e__ with | (.inl e_10) => some e_10 | (.inr left_11) => some left_11)))) else (if left < (l.length : Int) then (some (-1)) else ((loop (lazarettoref07_brief_L2 lazarettoref07_brief_r l deep) (left, 0)).bind (fun e__ => match e__ with | (.inl e_21) => some e_21 | (.inr left_22) => some left_22))))
def lazarettoref07_brief_g : Nat → ((List api_Stmt) → Int → Int → Option Int)
  | 0 => fun _ _ _ => none
  | n + 1 => lazarettoref07_brief_b (lazarettoref07_brief_g n)
def lazarettoref07_brief_n (n : Nat) (l : List api_Stmt) (deep : Int) (left : Int) : Option Int := (lazarettoref07_brief_g n) l deep left
def lazarettoref07_brief (l : List api_Stmt) (deep : Int) (left : Int) : Option Int := lazarettoref07_brief_n 1000000 l deep left
def lazarettoref07_Fits (l : List api_Stmt) : Option Bool :=
  (lazarettoref07_brief l 24 16384).bind fun r_1 => some (decide (0 ≤ r_1))
def lazarettoref07_text_L1 (lazarettoref07_text_r : (List api_Stmt) → Option Str) (l : List api_Stmt) : (Str × Nat) → Option ((Str × Nat) ⊕ (Str))
  | (t_1, i_2) => if (i_2 : Int) < (l.length : Int) then (if 0 < (i_2 : Int) then (need (t_1.length + 1 ≤ 281474976710656) ((l[i_2]?).bind fun x_6 => (lazarettoref07_head x_6).bind fun r_7 => need (t_1.length + r_7.length + 1 ≤ 281474976710656) ((lazarettoref07_text_r x_6.Body).bind fun r_9 => if r_9 = [] then (if x_6.Kind = 2 then (need (t_1.length + r_7.length + r_9.length + 1 ≤ 281474976710656) (if 0 < (x_6.Else.length : Int) then ((lazarettoref07_text_r x_6.Else).bind fun r_11 => need (r_11.length + 5 ≤ 281474976710656) (need (r_11.length + 6 ≤ 281474976710656) (need (t_1.length + r_7.length + r_9.length + r_11.length + 7 ≤ 281474976710656) (need (t_1.length + r_7.length + r_9.length + r_11.length + 14 ≤ 281474976710656) (some (.inl ((((((t_1 ++ ([32] : Str)) ++ r_7) ++ r_9) ++ ((([69, 76, 83, 69, 32] : Str) ++ r_11) ++ ([32] : Str))) ++ ([69, 78, 68, 95, 73, 70, 59] : Str)), (i_2 + 1)))))))) else (need (t_1.length + r_7.length + r_9.length + 8 ≤ 281474976710656) (some (.inl (((((t_1 ++ ([32] : Str)) ++ r_7) ++ r_9) ++ ([69, 78, 68, 95, 73, 70, 59] : Str)), (i_2 + 1))))))) else (if x_6.Kind = 3 then (need (r_9.length + 10 ≤ 281474976710656) (need (t_1.length + r_7.length + r_9.length + 11 ≤ 281474976710656) (some (.inl ((((t_1 ++ ([32] : Str)) ++ r_7) ++ (r_9 ++ ([69, 78, 68, 95, 87, 72, 73, 76, 69, 59] : Str))), (i_2 + 1)))))) else (if x_6.Kind = 4 then (need (r_9.length + 8 ≤ 281474976710656) (need (t_1.length + r_7.length + r_9.length + 9 ≤ 281474976710656) (some (.inl ((((t_1 ++ ([32] : Str)) ++ r_7) ++ (r_9 ++ ([69, 78, 68, 95, 70, 79, 82, 59] : Str))), (i_2 + 1)))))) else (some (.inl (((t_1 ++ ([32] : Str)) ++ r_7), (i_2 + 1))))))) else (need (r_9.length + 1 ≤ 281474976710656) (if x_6.Kind = 2 then (need (t_1.length + r_7.length + r_9.length + 2 ≤ 281474976710656) (if 0 < (x_6.Else.length : Int) then ((lazarettoref07_text_r x_6.Else).bind fun r_23 => need (r_23.length + 5 ≤ 281474976710656) (need (r_23.length + 6 ≤ 281474976710656) (need (t_1.length + r_7.length + r_9.length + r_23.length + 8 ≤ 281474976710656) (need (t_1.length + r_7.length + r_9.length + r_23.length + 15 ≤ 281474976710656) (some (.inl ((((((t_1 ++ ([32] : Str)) ++ r_7) ++ (r_9 ++ ([32] : Str))) ++ ((([69, 76, 83, 69, 32] : Str) ++ r_23) ++ ([32] : Str))) ++ ([69, 78, 68, 95, 73, 70, 59] : Str)), (i_2 + 1)))))))) else (need (t_1.length + r_7.length + r_9.length + 9 ≤ 281474976710656) (some (.inl (((((t_1 ++ ([32] : Str)) ++ r_7) ++ (r_9 ++ ([32] : Str))) ++ ([69, 78, 68, 95, 73, 70, 59] : Str)), (i_2 + 1))))))) else (if x_6.Kind = 3 then (need (r_9.length + 11 ≤ 281474976710656) (need (t_1.length + r_7.length + r_9.length + 12 ≤ 281474976710656) (some (.inl ((((t_1 ++ ([32] : Str)) ++ r_7) ++ ((r_9 ++ ([32] : Str)) ++ ([69, 78, 68, 95, 87, 72, 73, 76, 69, 59] : Str))), (i_2 + 1)))))) else (if x_6.Kind = 4 then (need (r_9.length + 9 ≤ 281474976710656) (need (t_1.length + r_7.length + r_9.length + 10 ≤ 281474976710656) (some (.inl ((((t_1 ++ ([32] : Str)) ++ r_7) ++ ((r_9 ++ ([32] : Str)) ++ ([69, 78, 68, 95, 70, 79, 82, 59] : Str))), (i_2 + 1)))))) else (some (.inl (((t_1 ++ ([32] : Str)) ++ r_7), (i_2 + 1))))))))))) else ((l[i_2]?).bind fun x_33 => (lazarettoref07_head x_33).bind fun r_34 => need (t_1.length + r_34.length ≤ 281474976710656) ((lazarettoref07_text_r x_33.Body).bind fun r_36 => if r_36 = [] then (if x_33.Kind = 2 then (need (t_1.length + r_34.length + r_36.length ≤ 281474976710656) (if 0 < (x_33.Else.length : Int) then ((lazarettoref07_text_r x_33.Else).bind fun r_38 => need (r_38.length + 5 ≤ 281474976710656) (need (r_38.length + 6 ≤ 281474976710656) (need (t_1.length + r_34.length + r_36.length + r_38.length + 6 ≤ 281474976710656) (need (t_1.length + r_34.length + r_36.length + r_38.length + 13 ≤ 281474976710656) (some (.inl (((((t_1 ++ r_34) ++ r_36) ++ ((([69, 76, 83, 69, 32] : Str) ++ r_38) ++ ([32] : Str))) ++ ([69, 78, 68, 95, 73, 70, 59] : Str)), (i_2 + 1)))))))) else (need (t_1.length + r_34.length + r_36.length + 7 ≤ 281474976710656) (some (.inl ((((t_1 ++ r_34) ++ r_36) ++ ([69, 78, 68, 95, 73, 70, 59] : Str)), (i_2 + 1))))))) else (if x_33.Kind = 3 then (need (r_36.length + 10 ≤ 281474976710656) (need (t_1.length + r_34.length + r_36.length + 10 ≤ 281474976710656) (some (.inl (((t_1 ++ r_34) ++ (r_36 ++ ([69, 78, 68, 95, 87, 72, 73, 76, 69, 59] : Str))), (i_2 + 1)))))) else (if x_33.Kind = 4 then (need (r_36.length + 8 ≤ 281474976710656) (need (t_1.length + r_34.length + r_36.length + 8 ≤ 281474976710656) (some (.inl (((t_1 ++ r_34) ++ (r_36 ++ ([69, 78, 68, 95, 70, 79, 82, 59] : Str))), (i_2 + 1)))))) else (some (.inl ((t_1 ++ r_34), (i_2 + 1))))))) else (need (r_36.length + 1 ≤ 281474976710656) (if x_33.Kind = 2 then (need (t_1.length + r_34.length + r_36.length + 1 ≤ 281474976710656) (if 0 < (x_33.Else.length : Int) then ((lazarettoref07_text_r x_33.Else).bind fun r_50 => need (r_50.length + 5 ≤ 281474976710656) (need (r_50.length + 6 ≤ 281474976710656) (need (t_1.length + r_34.length + r_36.length + r_50.length + 7 ≤ 281474976710656) (need (t_1.length + r_34.length + r_36.length + r_50.length + 14 ≤ 281474976710656) (some (.inl (((((t_1 ++ r_34) ++ (r_36 ++ ([32] : Str))) ++ ((([69, 76, 83, 69, 32] : Str) ++ r_50) ++ ([32] : Str))) ++ ([69, 78, 68, 95, 73, 70, 59] : Str)), (i_2 + 1)))))))) else (need (t_1.length + r_34.length + r_36.length + 8 ≤ 281474976710656) (some (.inl ((((t_1 ++ r_34) ++ (r_36 ++ ([32] : Str))) ++ ([69, 78, 68, 95, 73, 70, 59] : Str)), (i_2 + 1))))))) else (if x_33.Kind = 3 then (need (r_36.length + 11 ≤ 281474976710656) (need (t_1.length + r_34.length + r_36.length + 11 ≤ 281474976710656) (some (.inl (((t_1 ++ r_34) ++ ((r_36 ++ ([32] : Str)) ++ ([69, 78, 68, 95, 87, 72, 73, 76, 69, 59] : Str))), (i_2 + 1)))))) else (if x_33.Kind = 4 then (need (r_36.length + 9 ≤ 281474976710656) (need (t_1.length + r_34.length + r_36.length + 9 ≤ 281474976710656) (some (.inl (((t_1 ++ r_34) ++ ((r_36 ++ ([32] : Str)) ++ ([69, 78, 68, 95, 70, 79, 82, 59] : Str))), (i_2 + 1)))))) else (some (.inl ((t_1 ++ r_34), (i_2 + 1))))))))))) else (some (.inr (t_1)))
def lazarettoref07_text_b (lazarettoref07_text_r : (List api_Stmt) → Option Str) (l : List api_Stmt) : Option Str :=
  (loop (lazarettoref07_text_L1 lazarettoref07_text_r l) ([], 0)).bind (fun e_3 => some e_3)
def lazarettoref07_text_g : Nat → ((List api_Stmt) → Option Str)
  | 0 => fun _ => none
  | n + 1 => lazarettoref07_text_b (lazarettoref07_text_g n)
def lazarettoref07_text_n (n : Nat) (l : List api_Stmt) : Option Str := (lazarettoref07_text_g n) l
def lazarettoref07_text (l : List api_Stmt) : Option Str := lazarettoref07_text_n 1000000 l
def lazarettoref07_Text (l : List api_Stmt) : Option Str :=
  (lazarettoref07_text l).bind fun r_1 => some r_1
end
theorem lazarettolaw07_Few_b_ok {lazarettolaw07_Few_r : (List api_Stmt) → Int → Int → Option Int} {l : List api_Stmt} {deep : Int} {left : Int} {r : Int}
    (lazarettolaw07_Few_r_ok : ∀ (x0 : List api_Stmt) (x1 : Int) (x2 : Int) (r : Int), lazarettolaw07_Few_r x0 x1 x2 = some r → Pu Tryz.prog 44 [.one (.sl (x0.map e_api_Stmt)), .one (.int .i64 x1), .one (.int .i64 x2)] (.one (.int .i64 r))) (h : lazarettolaw07_Few_b lazarettolaw07_Few_r l deep left = some r) :
    Pu Tryz.prog 44 [.one (.sl (l.map e_api_Stmt)), .one (.int .i64 deep), .one (.int .i64 left)] (.one (.int .i64 r)) := by
  have F := trivial; have R := trivial
  refine pA Tryz.func44 ?_
  simp only [Tryz.f44]
  unfold lazarettolaw07_Few_b at h
  refine tt ?_
  repeat (first | (with_reducible intro _) | (with_reducible refine and_i ?_ ?_; exact ss))
  refine fi h F (fun h _ F => ?_) (fun h _ F => ?_)
  refine fi h F (fun h _ F => ?_) (fun h _ F => ?_)
  cases h; exact fin
  refine tt ?_
  refine fi h F (fun h _ F => ?_) (fun h _ F => ?_)
  cases h; exact fin
  refine bi h fun e_3 h he_3 => ?_
  refine tt ?_
  refine lE (fun (s__ : Int × Nat) (a__ : Unit) => match s__, a__ with | (left_1, i_2), _ => ⟨[(0, .one (.sl (l.map e_api_Stmt))), (1, .one (.int .i64 deep)), (2, .one (.int .i64 left_1)), (7, .one (.int .i64 (i_2 : Int)))], []⟩) (fun (e__ : Int) (b__ : Unit) => match e__, b__ with | e_3, _ => ⟨[(2, .one (.int .i64 e_3))], []⟩) (fun (_ : Int) => some 0) () he_3 ?_ ?_
  intro i4 b4 hi4
  obtain rfl := Option.some.inj hi4
  obtain ⟨⟩ := b4
  dsimp only at h ⊢
  cases h; exact fin
  intro af4 m4 s4 a4 o4 hf4 ho4 ih4
  obtain ⟨left_1, i_2⟩ := s4
  obtain ⟨⟩ := a4
  dsimp only [lazarettolaw07_Few_L1] at hf4 ⊢
  refine tt ?_
  repeat (first | (with_reducible intro _) | (with_reducible refine and_i ?_ ?_; exact ss))
  refine fl hf4 F (fun hf4 _ F => ?_) (fun hf4 _ F => ?_)
  refine fi hf4 F (fun hf4 _ F => ?_) (fun hf4 _ F => ?_)
  refine bx hf4 F fun x_5 hf4 hx_5 F => ?_
  refine bi hf4 fun r_6 hf4 hr_6 => ?_
  refine tt ?_
  repeat (first | (with_reducible intro _) | (with_reducible refine and_i ?_ ?_; exact ss))
  refine cD (lazarettolaw06_Few_ok hr_6) ?_
  refine tt ?_
  repeat (first | (with_reducible intro _) | (with_reducible refine and_i ?_ ?_; exact ss))
  refine fi hf4 F (fun hf4 _ F => ?_) (fun hf4 _ F => ?_)
  refine bi hf4 fun r_7 hf4 hr_7 => ?_
  refine tt ?_
  repeat (first | (with_reducible intro _) | (with_reducible refine and_i ?_ ?_; exact ss))
  refine cS (lazarettolaw06_Few_ok hr_7) ?_
  refine fi hf4 F (fun hf4 _ F => ?_) (fun hf4 _ F => ?_)
  refine bi hf4 fun r_8 hf4 hr_8 => ?_
  refine tt ?_
  repeat (first | (with_reducible intro _) | (with_reducible refine and_i ?_ ?_; exact ss))
  refine cS (lazarettolaw06_Few_ok hr_8) ?_
  refine fi hf4 F (fun hf4 _ F => ?_) (fun hf4 _ F => ?_)
  refine bi hf4 fun r_9 hf4 hr_9 => ?_
  refine tt ?_
  repeat (first | (with_reducible intro _) | (with_reducible refine and_i ?_ ?_; exact ss))
  refine cS (lazarettolaw07_Few_r_ok _ _ _ _ hr_9) ?_
  refine fi hf4 F (fun hf4 _ F => ?_) (fun hf4 _ F => ?_)
  refine bi hf4 fun r_10 hf4 hr_10 => ?_
  refine tt ?_
  repeat (first | (with_reducible intro _) | (with_reducible refine and_i ?_ ?_; exact ss))
  refine cS (lazarettolaw07_Few_r_ok _ _ _ _ hr_10) ?_
  cases hf4
  refine tt ?_
  refine wn i_2 F fun F => ?_
  exact bk ih4 ho4 ()
  cases hf4
  refine tt ?_
  refine wn i_2 F fun F => ?_
  exact bk ih4 ho4 ()
  cases hf4
  refine tt ?_
  refine wn i_2 F fun F => ?_
  exact bk ih4 ho4 ()
  cases hf4
  refine tt ?_
  refine wn i_2 F fun F => ?_
  exact bk ih4 ho4 ()
  cases hf4
  refine tt ?_
  refine wn i_2 F fun F => ?_
  exact bk ih4 ho4 ()
  cases hf4
  refine tt ?_
  exact xt ho4 af4 ()
  cases hf4
  refine tt ?_
  exact xt ho4 af4 ()
  refine fi h F (fun h _ F => ?_) (fun h _ F => ?_)
  cases h; exact fin
  refine bi h fun e_14 h he_14 => ?_
  refine tt ?_
  refine lE (fun (s__ : Int × Nat) (a__ : Unit) => match s__, a__ with | (left_12, i_13), _ => ⟨[(0, .one (.sl (l.map e_api_Stmt))), (1, .one (.int .i64 deep)), (2, .one (.int .i64 left_12)), (7, .one (.int .i64 (i_13 : Int)))], []⟩) (fun (e__ : Int) (b__ : Unit) => match e__, b__ with | e_14, _ => ⟨[(2, .one (.int .i64 e_14))], []⟩) (fun (_ : Int) => some 0) () he_14 ?_ ?_
  intro i15 b15 hi15
  obtain rfl := Option.some.inj hi15
  obtain ⟨⟩ := b15
  dsimp only at h ⊢
  cases h; exact fin
  intro af15 m15 s15 a15 o15 hf15 ho15 ih15
  obtain ⟨left_12, i_13⟩ := s15
  obtain ⟨⟩ := a15
  dsimp only [lazarettolaw07_Few_L2] at hf15 ⊢
  refine tt ?_
  repeat (first | (with_reducible intro _) | (with_reducible refine and_i ?_ ?_; exact ss))
  refine fl hf15 F (fun hf15 _ F => ?_) (fun hf15 _ F => ?_)
  refine fi hf15 F (fun hf15 _ F => ?_) (fun hf15 _ F => ?_)
  refine bx hf15 F fun x_16 hf15 hx_16 F => ?_
  refine bi hf15 fun r_17 hf15 hr_17 => ?_
  refine tt ?_
  repeat (first | (with_reducible intro _) | (with_reducible refine and_i ?_ ?_; exact ss))
  refine cD (lazarettolaw06_Few_ok hr_17) ?_
  refine tt ?_
  repeat (first | (with_reducible intro _) | (with_reducible refine and_i ?_ ?_; exact ss))
  refine fi hf15 F (fun hf15 _ F => ?_) (fun hf15 _ F => ?_)
  refine bi hf15 fun r_18 hf15 hr_18 => ?_
  refine tt ?_
  repeat (first | (with_reducible intro _) | (with_reducible refine and_i ?_ ?_; exact ss))
  refine cS (lazarettolaw06_Few_ok hr_18) ?_
  refine fi hf15 F (fun hf15 _ F => ?_) (fun hf15 _ F => ?_)
  refine bi hf15 fun r_19 hf15 hr_19 => ?_
  refine tt ?_
  repeat (first | (with_reducible intro _) | (with_reducible refine and_i ?_ ?_; exact ss))
  refine cS (lazarettolaw06_Few_ok hr_19) ?_
  refine fi hf15 F (fun hf15 _ F => ?_) (fun hf15 _ F => ?_)
  refine bi hf15 fun r_20 hf15 hr_20 => ?_
  refine tt ?_
  repeat (first | (with_reducible intro _) | (with_reducible refine and_i ?_ ?_; exact ss))
  refine cS (lazarettolaw07_Few_r_ok _ _ _ _ hr_20) ?_
  refine fi hf15 F (fun hf15 _ F => ?_) (fun hf15 _ F => ?_)
  refine bi hf15 fun r_21 hf15 hr_21 => ?_
  refine tt ?_
  repeat (first | (with_reducible intro _) | (with_reducible refine and_i ?_ ?_; exact ss))
  refine cS (lazarettolaw07_Few_r_ok _ _ _ _ hr_21) ?_
  cases hf15
  refine tt ?_
  refine wn i_13 F fun F => ?_
  exact bk ih15 ho15 ()
  cases hf15
  refine tt ?_
  refine wn i_13 F fun F => ?_
  exact bk ih15 ho15 ()
  cases hf15
  refine tt ?_
  refine wn i_13 F fun F => ?_
  exact bk ih15 ho15 ()
  cases hf15
  refine tt ?_
  refine wn i_13 F fun F => ?_
  exact bk ih15 ho15 ()
  cases hf15
  refine tt ?_
  refine wn i_13 F fun F => ?_
  exact bk ih15 ho15 ()
  cases hf15
  refine tt ?_
  exact xt ho15 af15 ()
  cases hf15
  refine tt ?_
  exact xt ho15 af15 ()
theorem lazarettolaw07_Few_g_ok (n : Nat) : (∀ (x0 : List api_Stmt) (x1 : Int) (x2 : Int) (r : Int), (lazarettolaw07_Few_g n) x0 x1 x2 = some r → Pu Tryz.prog 44 [.one (.sl (x0.map e_api_Stmt)), .one (.int .i64 x1), .one (.int .i64 x2)] (.one (.int .i64 r))) := by
  induction n with
  | zero => exact fun _ _ _ r h => (by cases h)
  | succ n ih =>
    have ih0 := ih
    exact fun _ _ _ r h => lazarettolaw07_Few_b_ok ih0 h
theorem lazarettolaw07_Few_ok {l : List api_Stmt} {deep : Int} {left : Int} {r : Int} (h : lazarettolaw07_Few l deep left = some r) : Pu Tryz.prog 44 [.one (.sl (l.map e_api_Stmt)), .one (.int .i64 deep), .one (.int .i64 left)] (.one (.int .i64 r)) := (lazarettolaw07_Few_g_ok 1000000) _ _ _ _ h
theorem lazarettoref07_target_ok {e : api_Expr} {r : Bool} (h : lazarettoref07_target e = some r) :
    Pu Tryz.prog 134 [.agg (e_api_Expr e)] (.one (.bool r)) := by
  have F := trivial; have R := trivial
  refine pA Tryz.func134 ?_
  simp only [Tryz.f134]
  unfold lazarettoref07_target at h
  refine fi h F (fun h _ F => ?_) (fun h _ F => ?_)
  refine bi h fun r_1 h hr_1 => ?_
  refine tt ?_
  repeat (first | (with_reducible intro _) | (with_reducible refine and_i ?_ ?_; exact ss))
  refine cS (lazarettoref06_Check_ok hr_1) ?_
  cases h; exact fin
  refine tt ?_
  refine fi h F (fun h _ F => ?_) (fun h _ F => ?_)
  refine tt ?_
  repeat (first | (with_reducible intro _) | (with_reducible refine and_i ?_ ?_; exact ss))
  refine fi h F (fun h _ F => ?_) (fun h _ F => ?_)
  refine fi h F (fun h _ F => ?_) (fun h _ F => ?_)
  refine tt ?_
  refine fi h F (fun h _ F => ?_) (fun h _ F => ?_)
  refine bi h fun r_2 h hr_2 => ?_
  refine tt ?_
  repeat (first | (with_reducible intro _) | (with_reducible refine and_i ?_ ?_; exact ss))
  refine cS (lazarettoref05_Name_ok hr_2) ?_
  refine fv h F (fun h _ F => ?_) (fun h _ F => ?_)
  refine bx h F fun x_3 h hx_3 F => ?_
  refine bi h fun r_4 h hr_4 => ?_
  refine tt ?_
  repeat (first | (with_reducible intro _) | (with_reducible refine and_i ?_ ?_; exact ss))
  refine cS (lazarettoref06_Check_ok hr_4) ?_
  cases h; exact fin
  cases h; exact fin
  cases h; exact fin
  cases h; exact fin
  cases h; exact fin
  cases h; exact fin
theorem lazarettoref07_none_ok {e : api_Expr} {r : Bool} (h : lazarettoref07_none e = some r) :
    Pu Tryz.prog 135 [.agg (e_api_Expr e)] (.one (.bool r)) := by
  have F := trivial; have R := trivial
  refine pA Tryz.func135 ?_
  simp only [Tryz.f135]
  unfold lazarettoref07_none at h
  refine bi h fun r_1 h hr_1 => ?_
  refine tt ?_
  repeat (first | (with_reducible intro _) | (with_reducible refine and_i ?_ ?_; exact ss))
  refine cS (lazarettoref06_Same_ok hr_1) ?_
  cases h; exact fin
theorem lazarettoref07_args_ok {l : List api_Expr} {r : Bool} (h : lazarettoref07_args l = some r) :
    Pu Tryz.prog 136 [.one (.sl (l.map e_api_Expr))] (.one (.bool r)) := by
  have F := trivial; have R := trivial
  refine pA Tryz.func136 ?_
  simp only [Tryz.f136]
  unfold lazarettoref07_args at h
  refine bi h fun e_2 h he_2 => ?_
  refine tt ?_
  refine lE (fun (s__ : Nat) (a__ : Unit) => match s__, a__ with | i_1, _ => ⟨[(0, .one (.sl (l.map e_api_Expr))), (3, .one (.int .i64 (i_1 : Int)))], []⟩) (fun (e__ : Bool ⊕ Unit) (b__ : Unit) => match e__, b__ with | (.inl e_6), _ => ⟨[], []⟩ | (.inr ()), _ => ⟨[], []⟩) (fun (e__ : Bool ⊕ Unit) => match e__ with | (.inl _) => none | (.inr _) => some 0) () he_2 ?_ ?_
  intro i3 b3 hi3
  rcases e_2 with e_case | ⟨⟩
  cases hi3
  obtain rfl := Option.some.inj hi3
  obtain ⟨⟩ := b3
  dsimp only at h ⊢
  cases h; exact fin
  intro af3 m3 i_1 a3 o3 hf3 ho3 ih3
  obtain ⟨⟩ := a3
  dsimp only [lazarettoref07_args_L1] at hf3 ⊢
  refine tt ?_
  repeat (first | (with_reducible intro _) | (with_reducible refine and_i ?_ ?_; exact ss))
  refine fl hf3 F (fun hf3 _ F => ?_) (fun hf3 _ F => ?_)
  refine bx hf3 F fun x_4 hf3 hx_4 F => ?_
  refine bi hf3 fun r_5 hf3 hr_5 => ?_
  refine tt ?_
  repeat (first | (with_reducible intro _) | (with_reducible refine and_i ?_ ?_; exact ss))
  refine cS (lazarettoref06_Check_ok hr_5) ?_
  refine fv hf3 F (fun hf3 _ F => ?_) (fun hf3 _ F => ?_)
  cases hf3
  refine tt ?_
  refine wn i_1 F fun F => ?_
  exact bk ih3 ho3 ()
  cases hf3
  obtain rfl := sr ho3
  try dsimp only at h
  cases h
  exact fin
  cases hf3
  refine tt ?_
  exact xt ho3 af3 ()
theorem lazarettoref07_form_ok {s : api_Stmt} {r : Bool} (h : lazarettoref07_form s = some r) :
    Pu Tryz.prog 129 [.agg (e_api_Stmt s)] (.one (.bool r)) := by
  have F := trivial; have R := trivial
  refine pA Tryz.func129 ?_
  simp only [Tryz.f129]
  unfold lazarettoref07_form at h
  refine tt ?_
  repeat (first | (with_reducible intro _) | (with_reducible refine and_i ?_ ?_; exact ss))
  refine fi h F (fun h _ F => ?_) (fun h _ F => ?_)
  refine tt ?_
  repeat (first | (with_reducible intro _) | (with_reducible refine and_i ?_ ?_; exact ss))
  refine fi h F (fun h _ F => ?_) (fun h _ F => ?_)
  refine fi h F (fun h _ F => ?_) (fun h _ F => ?_)
  refine tt ?_
  refine fi h F (fun h _ F => ?_) (fun h _ F => ?_)
  refine tt ?_
  repeat (first | (with_reducible intro _) | (with_reducible refine and_i ?_ ?_; exact ss))
  refine fi h F (fun h _ F => ?_) (fun h _ F => ?_)
  refine bi h fun r_1 h hr_1 => ?_
  refine tt ?_
  repeat (first | (with_reducible intro _) | (with_reducible refine and_i ?_ ?_; exact ss))
  refine cS (lazarettoref07_target_ok hr_1) ?_
  refine fv h F (fun h _ F => ?_) (fun h _ F => ?_)
  refine bi h fun r_2 h hr_2 => ?_
  refine tt ?_
  repeat (first | (with_reducible intro _) | (with_reducible refine and_i ?_ ?_; exact ss))
  refine cS (lazarettoref06_Check_ok hr_2) ?_
  cases h; exact fin
  cases h; exact fin
  cases h; exact fin
  cases h; exact fin
  cases h; exact fin
  refine fi h F (fun h _ F => ?_) (fun h _ F => ?_)
  refine fi h F (fun h _ F => ?_) (fun h _ F => ?_)
  refine tt ?_
  repeat (first | (with_reducible intro _) | (with_reducible refine and_i ?_ ?_; exact ss))
  refine fi h F (fun h _ F => ?_) (fun h _ F => ?_)
  refine bi h fun r_3 h hr_3 => ?_
  refine tt ?_
  repeat (first | (with_reducible intro _) | (with_reducible refine and_i ?_ ?_; exact ss))
  refine cS (lazarettoref07_none_ok hr_3) ?_
  refine fv h F (fun h _ F => ?_) (fun h _ F => ?_)
  refine bi h fun r_4 h hr_4 => ?_
  refine tt ?_
  repeat (first | (with_reducible intro _) | (with_reducible refine and_i ?_ ?_; exact ss))
  refine cS (lazarettoref06_Check_ok hr_4) ?_
  cases h; exact fin
  cases h; exact fin
  cases h; exact fin
  cases h; exact fin
  refine fi h F (fun h _ F => ?_) (fun h _ F => ?_)
  refine tt ?_
  refine fi h F (fun h _ F => ?_) (fun h _ F => ?_)
  refine tt ?_
  repeat (first | (with_reducible intro _) | (with_reducible refine and_i ?_ ?_; exact ss))
  refine fi h F (fun h _ F => ?_) (fun h _ F => ?_)
  refine tt ?_
  repeat (first | (with_reducible intro _) | (with_reducible refine and_i ?_ ?_; exact ss))
  refine fi h F (fun h _ F => ?_) (fun h _ F => ?_)
  refine bi h fun r_5 h hr_5 => ?_
  refine tt ?_
  repeat (first | (with_reducible intro _) | (with_reducible refine and_i ?_ ?_; exact ss))
  refine cS (lazarettoref07_none_ok hr_5) ?_
  refine fv h F (fun h _ F => ?_) (fun h _ F => ?_)
  refine bi h fun r_6 h hr_6 => ?_
  refine tt ?_
  repeat (first | (with_reducible intro _) | (with_reducible refine and_i ?_ ?_; exact ss))
  refine cS (lazarettoref06_Check_ok hr_6) ?_
  cases h; exact fin
  cases h; exact fin
  cases h; exact fin
  cases h; exact fin
  cases h; exact fin
  refine fi h F (fun h _ F => ?_) (fun h _ F => ?_)
  refine bi h fun r_7 h hr_7 => ?_
  refine tt ?_
  repeat (first | (with_reducible intro _) | (with_reducible refine and_i ?_ ?_; exact ss))
  refine cS (lazarettoref05_Name_ok hr_7) ?_
  refine fv h F (fun h _ F => ?_) (fun h _ F => ?_)
  refine tt ?_
  repeat (first | (with_reducible intro _) | (with_reducible refine and_i ?_ ?_; exact ss))
  refine fi h F (fun h _ F => ?_) (fun h _ F => ?_)
  refine bi h fun r_8 h hr_8 => ?_
  refine tt ?_
  repeat (first | (with_reducible intro _) | (with_reducible refine and_i ?_ ?_; exact ss))
  refine cS (lazarettoref07_args_ok hr_8) ?_
  refine fv h F (fun h _ F => ?_) (fun h _ F => ?_)
  refine tt ?_
  repeat (first | (with_reducible intro _) | (with_reducible refine and_i ?_ ?_; exact ss))
  refine fi h F (fun h _ F => ?_) (fun h _ F => ?_)
  refine bi h fun r_9 h hr_9 => ?_
  refine tt ?_
  repeat (first | (with_reducible intro _) | (with_reducible refine and_i ?_ ?_; exact ss))
  refine cS (lazarettoref07_none_ok hr_9) ?_
  refine fv h F (fun h _ F => ?_) (fun h _ F => ?_)
  refine bi h fun r_10 h hr_10 => ?_
  refine tt ?_
  repeat (first | (with_reducible intro _) | (with_reducible refine and_i ?_ ?_; exact ss))
  refine cS (lazarettoref07_none_ok hr_10) ?_
  cases h; exact fin
  cases h; exact fin
  cases h; exact fin
  cases h; exact fin
  cases h; exact fin
  cases h; exact fin
  refine tt ?_
  refine fi h F (fun h _ F => ?_) (fun h _ F => ?_)
  refine fi h F (fun h _ F => ?_) (fun h _ F => ?_)
  refine bi h fun r_11 h hr_11 => ?_
  refine tt ?_
  repeat (first | (with_reducible intro _) | (with_reducible refine and_i ?_ ?_; exact ss))
  refine cS (lazarettoref05_Name_ok hr_11) ?_
  refine fv h F (fun h _ F => ?_) (fun h _ F => ?_)
  refine bi h fun r_12 h hr_12 => ?_
  refine tt ?_
  repeat (first | (with_reducible intro _) | (with_reducible refine and_i ?_ ?_; exact ss))
  refine cS (lazarettoref07_none_ok hr_12) ?_
  refine fv h F (fun h _ F => ?_) (fun h _ F => ?_)
  refine bi h fun r_13 h hr_13 => ?_
  refine tt ?_
  repeat (first | (with_reducible intro _) | (with_reducible refine and_i ?_ ?_; exact ss))
  refine cS (lazarettoref07_none_ok hr_13) ?_
  refine fv h F (fun h _ F => ?_) (fun h _ F => ?_)
  refine tt ?_
  repeat (first | (with_reducible intro _) | (with_reducible refine and_i ?_ ?_; exact ss))
  refine fi h F (fun h _ F => ?_) (fun h _ F => ?_)
  refine bi h fun r_14 h hr_14 => ?_
  refine tt ?_
  repeat (first | (with_reducible intro _) | (with_reducible refine and_i ?_ ?_; exact ss))
  refine cS (lazarettoref07_args_ok hr_14) ?_
  cases h; exact fin
  cases h; exact fin
  cases h; exact fin
  cases h; exact fin
  cases h; exact fin
  cases h; exact fin
  cases h; exact fin
  refine fi h F (fun h _ F => ?_) (fun h _ F => ?_)
  cases h; exact fin
  refine tt ?_
  refine fi h F (fun h _ F => ?_) (fun h _ F => ?_)
  refine fi h F (fun h _ F => ?_) (fun h _ F => ?_)
  refine tt ?_
  repeat (first | (with_reducible intro _) | (with_reducible refine and_i ?_ ?_; exact ss))
  refine fi h F (fun h _ F => ?_) (fun h _ F => ?_)
  refine bi h fun r_15 h hr_15 => ?_
  refine tt ?_
  repeat (first | (with_reducible intro _) | (with_reducible refine and_i ?_ ?_; exact ss))
  refine cS (lazarettoref07_none_ok hr_15) ?_
  refine fv h F (fun h _ F => ?_) (fun h _ F => ?_)
  refine bi h fun r_16 h hr_16 => ?_
  refine tt ?_
  repeat (first | (with_reducible intro _) | (with_reducible refine and_i ?_ ?_; exact ss))
  refine cS (lazarettoref06_Check_ok hr_16) ?_
  cases h; exact fin
  cases h; exact fin
  cases h; exact fin
  cases h; exact fin
  refine fi h F (fun h _ F => ?_) (fun h _ F => ?_)
  refine fi h F (fun h _ F => ?_) (fun h _ F => ?_)
  refine tt ?_
  repeat (first | (with_reducible intro _) | (with_reducible refine and_i ?_ ?_; exact ss))
  refine fi h F (fun h _ F => ?_) (fun h _ F => ?_)
  refine tt ?_
  repeat (first | (with_reducible intro _) | (with_reducible refine and_i ?_ ?_; exact ss))
  refine fi h F (fun h _ F => ?_) (fun h _ F => ?_)
  refine bi h fun r_17 h hr_17 => ?_
  refine tt ?_
  repeat (first | (with_reducible intro _) | (with_reducible refine and_i ?_ ?_; exact ss))
  refine cS (lazarettoref07_none_ok hr_17) ?_
  refine fv h F (fun h _ F => ?_) (fun h _ F => ?_)
  refine bi h fun r_18 h hr_18 => ?_
  refine tt ?_
  repeat (first | (with_reducible intro _) | (with_reducible refine and_i ?_ ?_; exact ss))
  refine cS (lazarettoref06_Check_ok hr_18) ?_
  cases h; exact fin
  cases h; exact fin
  cases h; exact fin
  cases h; exact fin
  cases h; exact fin
  refine fi h F (fun h _ F => ?_) (fun h _ F => ?_)
  refine bi h fun r_19 h hr_19 => ?_
  refine tt ?_
  repeat (first | (with_reducible intro _) | (with_reducible refine and_i ?_ ?_; exact ss))
  refine cS (lazarettoref05_Name_ok hr_19) ?_
  refine fv h F (fun h _ F => ?_) (fun h _ F => ?_)
  refine tt ?_
  repeat (first | (with_reducible intro _) | (with_reducible refine and_i ?_ ?_; exact ss))
  refine fi h F (fun h _ F => ?_) (fun h _ F => ?_)
  refine bi h fun r_20 h hr_20 => ?_
  refine tt ?_
  repeat (first | (with_reducible intro _) | (with_reducible refine and_i ?_ ?_; exact ss))
  refine cS (lazarettoref07_args_ok hr_20) ?_
  refine fv h F (fun h _ F => ?_) (fun h _ F => ?_)
  refine tt ?_
  repeat (first | (with_reducible intro _) | (with_reducible refine and_i ?_ ?_; exact ss))
  refine fi h F (fun h _ F => ?_) (fun h _ F => ?_)
  refine bi h fun r_21 h hr_21 => ?_
  refine tt ?_
  repeat (first | (with_reducible intro _) | (with_reducible refine and_i ?_ ?_; exact ss))
  refine cS (lazarettoref07_none_ok hr_21) ?_
  refine fv h F (fun h _ F => ?_) (fun h _ F => ?_)
  refine bi h fun r_22 h hr_22 => ?_
  refine tt ?_
  repeat (first | (with_reducible intro _) | (with_reducible refine and_i ?_ ?_; exact ss))
  refine cS (lazarettoref07_none_ok hr_22) ?_
  cases h; exact fin
  cases h; exact fin
  cases h; exact fin
  cases h; exact fin
  cases h; exact fin
  cases h; exact fin
  refine fi h F (fun h _ F => ?_) (fun h _ F => ?_)
  cases h; exact fin
  cases h; exact fin
theorem lazarettoref07_index_ok {e : api_Expr} {r : Str} (h : lazarettoref07_index e = some r) :
    Pu Tryz.prog 138 [.agg (e_api_Expr e)] (.one (.str r)) := by
  have F := trivial; have R := trivial
  refine pA Tryz.func138 ?_
  simp only [Tryz.f138]
  unfold lazarettoref07_index at h
  refine fi h F (fun h _ F => ?_) (fun h _ F => ?_)
  refine bx h F fun x_1 h hx_1 F => ?_
  refine bi h fun r_2 h hr_2 => ?_
  refine tt ?_
  repeat (first | (with_reducible intro _) | (with_reducible refine and_i ?_ ?_; exact ss))
  refine cS (lazarettoref06_Print_ok hr_2) ?_
  refine nd h F fun h F => ?_
  refine nd h F fun h F => ?_
  cases h; exact fin
  cases h; exact fin
theorem lazarettoref07_head_ok {s : api_Stmt} {r : Str} (h : lazarettoref07_head s = some r) :
    Pu Tryz.prog 130 [.agg (e_api_Stmt s)] (.one (.str r)) := by
  have F := trivial; have R := trivial
  refine pA Tryz.func130 ?_
  simp only [Tryz.f130]
  unfold lazarettoref07_head at h
  refine fi h F (fun h _ F => ?_) (fun h _ F => ?_)
  refine bi h fun r_1 h hr_1 => ?_
  refine tt ?_
  repeat (first | (with_reducible intro _) | (with_reducible refine and_i ?_ ?_; exact ss))
  refine cD (lazarettoref06_Print_ok hr_1) ?_
  refine bi h fun r_2 h hr_2 => ?_
  refine tt ?_
  repeat (first | (with_reducible intro _) | (with_reducible refine and_i ?_ ?_; exact ss))
  refine cD (lazarettoref07_index_ok hr_2) ?_
  refine nd h F fun h F => ?_
  refine nd h F fun h F => ?_
  refine bi h fun r_5 h hr_5 => ?_
  refine tt ?_
  repeat (first | (with_reducible intro _) | (with_reducible refine and_i ?_ ?_; exact ss))
  refine cD (lazarettoref06_Print_ok hr_5) ?_
  refine nd h F fun h F => ?_
  refine nd h F fun h F => ?_
  cases h; exact fin
  refine tt ?_
  refine fi h F (fun h _ F => ?_) (fun h _ F => ?_)
  refine bi h fun r_8 h hr_8 => ?_
  refine tt ?_
  repeat (first | (with_reducible intro _) | (with_reducible refine and_i ?_ ?_; exact ss))
  refine cS (lazarettoref06_Print_ok hr_8) ?_
  refine nd h F fun h F => ?_
  refine nd h F fun h F => ?_
  cases h; exact fin
  refine fi h F (fun h _ F => ?_) (fun h _ F => ?_)
  refine bi h fun r_11 h hr_11 => ?_
  refine tt ?_
  repeat (first | (with_reducible intro _) | (with_reducible refine and_i ?_ ?_; exact ss))
  refine cS (lazarettoref06_Print_ok hr_11) ?_
  refine nd h F fun h F => ?_
  refine nd h F fun h F => ?_
  cases h; exact fin
  refine fi h F (fun h _ F => ?_) (fun h _ F => ?_)
  refine nd h F fun h F => ?_
  refine nd h F fun h F => ?_
  refine bx h F fun x_16 h hx_16 F => ?_
  refine bi h fun r_17 h hr_17 => ?_
  refine tt ?_
  repeat (first | (with_reducible intro _) | (with_reducible refine and_i ?_ ?_; exact ss))
  refine cD (lazarettoref06_Print_ok hr_17) ?_
  refine nd h F fun h F => ?_
  refine nd h F fun h F => ?_
  refine bx h F fun x_20 h hx_20 F => ?_
  refine bi h fun r_21 h hr_21 => ?_
  refine tt ?_
  repeat (first | (with_reducible intro _) | (with_reducible refine and_i ?_ ?_; exact ss))
  refine cD (lazarettoref06_Print_ok hr_21) ?_
  refine nd h F fun h F => ?_
  refine nd h F fun h F => ?_
  cases h; exact fin
  refine nd h F fun h F => ?_
  refine bi h fun e_27 h he_27 => ?_
  refine tt ?_
  repeat (first | (with_reducible intro _) | (with_reducible refine and_i ?_ ?_; exact ss))
  refine lE (fun (s__ : Str × Nat) (a__ : Unit) => match s__, a__ with | (t_25, i_26), _ => ⟨[(1, .one (.ref 0 0 0 0)), (3, .one (.str t_25)), (4, .one (.int .i64 (i_26 : Int)))], [.cells 0 15 [[.int .i64 s.Kind, .str s.Name, .int .i64 s.Target.Op, .int .i64 s.Target.N, .int .i64 s.Target.Kind, .str s.Target.Name, .sl (s.Target.Args.map e_api_Expr), .int .i64 s.Value.Op, .int .i64 s.Value.N, .int .i64 s.Value.Kind, .str s.Value.Name, .sl (s.Value.Args.map e_api_Expr), .sl (s.Args.map e_api_Expr), .sl (s.Body.map e_api_Stmt), .sl (s.Else.map e_api_Stmt)]]]⟩) (fun (e__ : Str) (b__ : Unit) => match e__, b__ with | e_27, _ => ⟨[(3, .one (.str e_27))], [.cells 0 15 [[.int .i64 s.Kind, .str s.Name, .int .i64 s.Target.Op, .int .i64 s.Target.N, .int .i64 s.Target.Kind, .str s.Target.Name, .sl (s.Target.Args.map e_api_Expr), .int .i64 s.Value.Op, .int .i64 s.Value.N, .int .i64 s.Value.Kind, .str s.Value.Name, .sl (s.Value.Args.map e_api_Expr), .sl (s.Args.map e_api_Expr), .sl (s.Body.map e_api_Stmt), .sl (s.Else.map e_api_Stmt)]]]⟩) (fun (_ : Str) => some 1) () he_27 ?_ ?_
  intro i28 b28 hi28
  obtain rfl := Option.some.inj hi28
  obtain ⟨⟩ := b28
  dsimp only at h ⊢
  refine nd h F fun h F => ?_
  cases h; exact fin
  intro af28 m28 s28 a28 o28 hf28 ho28 ih28
  obtain ⟨t_25, i_26⟩ := s28
  obtain ⟨⟩ := a28
  dsimp only [lazarettoref07_head_L1] at hf28 ⊢
  refine tt ?_
  repeat (first | (with_reducible intro _) | (with_reducible refine and_i ?_ ?_; exact ss))
  refine fl hf28 F (fun hf28 _ F => ?_) (fun hf28 _ F => ?_)
  refine fi hf28 F (fun hf28 _ F => ?_) (fun hf28 _ F => ?_)
  refine nd hf28 F fun hf28 F => ?_
  refine bx hf28 F fun x_30 hf28 hx_30 F => ?_
  refine bi hf28 fun r_31 hf28 hr_31 => ?_
  refine tt ?_
  repeat (first | (with_reducible intro _) | (with_reducible refine and_i ?_ ?_; exact ss))
  refine cS (lazarettoref06_Print_ok hr_31) ?_
  refine nd hf28 F fun hf28 F => ?_
  cases hf28
  refine tt ?_
  repeat (first | (with_reducible intro _) | (with_reducible refine and_i ?_ ?_; exact ss))
  refine wn i_26 F fun F => ?_
  exact bk ih28 ho28 ()
  refine bx hf28 F fun x_33 hf28 hx_33 F => ?_
  refine bi hf28 fun r_34 hf28 hr_34 => ?_
  refine tt ?_
  repeat (first | (with_reducible intro _) | (with_reducible refine and_i ?_ ?_; exact ss))
  refine cS (lazarettoref06_Print_ok hr_34) ?_
  refine nd hf28 F fun hf28 F => ?_
  cases hf28
  refine tt ?_
  repeat (first | (with_reducible intro _) | (with_reducible refine and_i ?_ ?_; exact ss))
  refine wn i_26 F fun F => ?_
  exact bk ih28 ho28 ()
  cases hf28
  refine tt ?_
  exact xt ho28 af28 ()
theorem lazarettoref07_brief_b_ok {lazarettoref07_brief_r : (List api_Stmt) → Int → Int → Option Int} {l : List api_Stmt} {deep : Int} {left : Int} {r : Int}
    (lazarettoref07_brief_r_ok : ∀ (x0 : List api_Stmt) (x1 : Int) (x2 : Int) (r : Int), lazarettoref07_brief_r x0 x1 x2 = some r → Pu Tryz.prog 112 [.one (.sl (x0.map e_api_Stmt)), .one (.int .i64 x1), .one (.int .i64 x2)] (.one (.int .i64 r))) (h : lazarettoref07_brief_b lazarettoref07_brief_r l deep left = some r) :
    Pu Tryz.prog 112 [.one (.sl (l.map e_api_Stmt)), .one (.int .i64 deep), .one (.int .i64 left)] (.one (.int .i64 r)) := by
  have F := trivial; have R := trivial
  refine pA Tryz.func112 ?_
  simp only [Tryz.f112]
  unfold lazarettoref07_brief_b at h
  refine fi h F (fun h _ F => ?_) (fun h _ F => ?_)
  cases h; exact fin
  refine tt ?_
  repeat (first | (with_reducible intro _) | (with_reducible refine and_i ?_ ?_; exact ss))
  refine fi h F (fun h _ F => ?_) (fun h _ F => ?_)
  refine fi h F (fun h _ F => ?_) (fun h _ F => ?_)
  cases h; exact fin
  refine tt ?_
  repeat (first | (with_reducible intro _) | (with_reducible refine and_i ?_ ?_; exact ss))
  refine fi h F (fun h _ F => ?_) (fun h _ F => ?_)
  cases h; exact fin
  refine bi h fun e_3 h he_3 => ?_
  refine tt ?_
  refine lE (fun (s__ : Int × Nat) (a__ : Unit) => match s__, a__ with | (left_1, i_2), _ => ⟨[(0, .one (.sl (l.map e_api_Stmt))), (1, .one (.int .i64 deep)), (2, .one (.int .i64 left_1)), (7, .one (.int .i64 (i_2 : Int)))], []⟩) (fun (e__ : Int ⊕ Int) (b__ : Unit) => match e__, b__ with | (.inl e_10), _ => ⟨[], []⟩ | (.inr left_11), _ => ⟨[(2, .one (.int .i64 left_11))], []⟩) (fun (e__ : Int ⊕ Int) => match e__ with | (.inl _) => none | (.inr _) => some 0) () he_3 ?_ ?_
  intro i4 b4 hi4
  rcases e_3 with e_case | left_11
  cases hi4
  obtain rfl := Option.some.inj hi4
  obtain ⟨⟩ := b4
  dsimp only at h ⊢
  cases h; exact fin
  intro af4 m4 s4 a4 o4 hf4 ho4 ih4
  obtain ⟨left_1, i_2⟩ := s4
  obtain ⟨⟩ := a4
  dsimp only [lazarettoref07_brief_L1] at hf4 ⊢
  refine tt ?_
  repeat (first | (with_reducible intro _) | (with_reducible refine and_i ?_ ?_; exact ss))
  refine fl hf4 F (fun hf4 _ F => ?_) (fun hf4 _ F => ?_)
  refine fi hf4 F (fun hf4 _ F => ?_) (fun hf4 _ F => ?_)
  refine bx hf4 F fun x_5 hf4 hx_5 F => ?_
  refine bi hf4 fun r_6 hf4 hr_6 => ?_
  refine tt ?_
  repeat (first | (with_reducible intro _) | (with_reducible refine and_i ?_ ?_; exact ss))
  refine cS (lazarettoref07_form_ok hr_6) ?_
  refine fv hf4 F (fun hf4 _ F => ?_) (fun hf4 _ F => ?_)
  refine bi hf4 fun r_7 hf4 hr_7 => ?_
  refine tt ?_
  repeat (first | (with_reducible intro _) | (with_reducible refine and_i ?_ ?_; exact ss))
  refine cS (lazarettoref07_head_ok hr_7) ?_
  refine tt ?_
  repeat (first | (with_reducible intro _) | (with_reducible refine and_i ?_ ?_; exact ss))
  refine fi hf4 F (fun hf4 _ F => ?_) (fun hf4 _ F => ?_)
  refine bi hf4 fun r_8 hf4 hr_8 => ?_
  refine tt ?_
  repeat (first | (with_reducible intro _) | (with_reducible refine and_i ?_ ?_; exact ss))
  refine cS (lazarettoref07_brief_r_ok _ _ _ _ hr_8) ?_
  refine fi hf4 F (fun hf4 _ F => ?_) (fun hf4 _ F => ?_)
  refine bi hf4 fun r_9 hf4 hr_9 => ?_
  refine tt ?_
  repeat (first | (with_reducible intro _) | (with_reducible refine and_i ?_ ?_; exact ss))
  refine cS (lazarettoref07_brief_r_ok _ _ _ _ hr_9) ?_
  cases hf4
  refine tt ?_
  refine wn i_2 F fun F => ?_
  exact bk ih4 ho4 ()
  cases hf4
  refine tt ?_
  refine wn i_2 F fun F => ?_
  exact bk ih4 ho4 ()
  cases hf4
  refine tt ?_
  refine wn i_2 F fun F => ?_
  exact bk ih4 ho4 ()
  cases hf4
  obtain rfl := sr ho4
  try dsimp only at h
  cases h
  exact fin
  cases hf4
  refine tt ?_
  exact xt ho4 af4 ()
  cases hf4
  refine tt ?_
  exact xt ho4 af4 ()
  refine tt ?_
  repeat (first | (with_reducible intro _) | (with_reducible refine and_i ?_ ?_; exact ss))
  refine fi h F (fun h _ F => ?_) (fun h _ F => ?_)
  cases h; exact fin
  refine bi h fun e_14 h he_14 => ?_
  refine tt ?_
  refine lE (fun (s__ : Int × Nat) (a__ : Unit) => match s__, a__ with | (left_12, i_13), _ => ⟨[(0, .one (.sl (l.map e_api_Stmt))), (1, .one (.int .i64 deep)), (2, .one (.int .i64 left_12)), (7, .one (.int .i64 (i_13 : Int)))], []⟩) (fun (e__ : Int ⊕ Int) (b__ : Unit) => match e__, b__ with | (.inl e_21), _ => ⟨[], []⟩ | (.inr left_22), _ => ⟨[(2, .one (.int .i64 left_22))], []⟩) (fun (e__ : Int ⊕ Int) => match e__ with | (.inl _) => none | (.inr _) => some 0) () he_14 ?_ ?_
  intro i15 b15 hi15
  rcases e_14 with e_case | left_22
  cases hi15
  obtain rfl := Option.some.inj hi15
  obtain ⟨⟩ := b15
  dsimp only at h ⊢
  cases h; exact fin
  intro af15 m15 s15 a15 o15 hf15 ho15 ih15
  obtain ⟨left_12, i_13⟩ := s15
  obtain ⟨⟩ := a15
  dsimp only [lazarettoref07_brief_L2] at hf15 ⊢
  refine tt ?_
  repeat (first | (with_reducible intro _) | (with_reducible refine and_i ?_ ?_; exact ss))
  refine fl hf15 F (fun hf15 _ F => ?_) (fun hf15 _ F => ?_)
  refine fi hf15 F (fun hf15 _ F => ?_) (fun hf15 _ F => ?_)
  refine bx hf15 F fun x_16 hf15 hx_16 F => ?_
  refine bi hf15 fun r_17 hf15 hr_17 => ?_
  refine tt ?_
  repeat (first | (with_reducible intro _) | (with_reducible refine and_i ?_ ?_; exact ss))
  refine cS (lazarettoref07_form_ok hr_17) ?_
  refine fv hf15 F (fun hf15 _ F => ?_) (fun hf15 _ F => ?_)
  refine bi hf15 fun r_18 hf15 hr_18 => ?_
  refine tt ?_
  repeat (first | (with_reducible intro _) | (with_reducible refine and_i ?_ ?_; exact ss))
  refine cS (lazarettoref07_head_ok hr_18) ?_
  refine tt ?_
  repeat (first | (with_reducible intro _) | (with_reducible refine and_i ?_ ?_; exact ss))
  refine fi hf15 F (fun hf15 _ F => ?_) (fun hf15 _ F => ?_)
  refine bi hf15 fun r_19 hf15 hr_19 => ?_
  refine tt ?_
  repeat (first | (with_reducible intro _) | (with_reducible refine and_i ?_ ?_; exact ss))
  refine cS (lazarettoref07_brief_r_ok _ _ _ _ hr_19) ?_
  refine fi hf15 F (fun hf15 _ F => ?_) (fun hf15 _ F => ?_)
  refine bi hf15 fun r_20 hf15 hr_20 => ?_
  refine tt ?_
  repeat (first | (with_reducible intro _) | (with_reducible refine and_i ?_ ?_; exact ss))
  refine cS (lazarettoref07_brief_r_ok _ _ _ _ hr_20) ?_
  cases hf15
  refine tt ?_
  refine wn i_13 F fun F => ?_
  exact bk ih15 ho15 ()
  cases hf15
  refine tt ?_
  refine wn i_13 F fun F => ?_
  exact bk ih15 ho15 ()
  cases hf15
  refine tt ?_
  refine wn i_13 F fun F => ?_
  exact bk ih15 ho15 ()
  cases hf15
  obtain rfl := sr ho15
  try dsimp only at h
  cases h
  exact fin
  cases hf15
  refine tt ?_
  exact xt ho15 af15 ()
  cases hf15
  refine tt ?_
  exact xt ho15 af15 ()
theorem lazarettoref07_brief_g_ok (n : Nat) : (∀ (x0 : List api_Stmt) (x1 : Int) (x2 : Int) (r : Int), (lazarettoref07_brief_g n) x0 x1 x2 = some r → Pu Tryz.prog 112 [.one (.sl (x0.map e_api_Stmt)), .one (.int .i64 x1), .one (.int .i64 x2)] (.one (.int .i64 r))) := by
  induction n with
  | zero => exact fun _ _ _ r h => (by cases h)
  | succ n ih =>
    have ih0 := ih
    exact fun _ _ _ r h => lazarettoref07_brief_b_ok ih0 h
theorem lazarettoref07_brief_ok {l : List api_Stmt} {deep : Int} {left : Int} {r : Int} (h : lazarettoref07_brief l deep left = some r) : Pu Tryz.prog 112 [.one (.sl (l.map e_api_Stmt)), .one (.int .i64 deep), .one (.int .i64 left)] (.one (.int .i64 r)) := (lazarettoref07_brief_g_ok 1000000) _ _ _ _ h
theorem lazarettoref07_Fits_ok {l : List api_Stmt} {r : Bool} (h : lazarettoref07_Fits l = some r) :
    Pu Tryz.prog 76 [.one (.sl (l.map e_api_Stmt))] (.one (.bool r)) := by
  have F := trivial; have R := trivial
  refine pA Tryz.func76 ?_
  simp only [Tryz.f76]
  unfold lazarettoref07_Fits at h
  refine bi h fun r_1 h hr_1 => ?_
  refine tt ?_
  repeat (first | (with_reducible intro _) | (with_reducible refine and_i ?_ ?_; exact ss))
  refine cS (lazarettoref07_brief_ok hr_1) ?_
  cases h; exact fin
theorem lazarettoref07_text_b_ok {lazarettoref07_text_r : (List api_Stmt) → Option Str} {l : List api_Stmt} {r : Str}
    (lazarettoref07_text_r_ok : ∀ (x0 : List api_Stmt) (r : Str), lazarettoref07_text_r x0 = some r → Pu Tryz.prog 131 [.one (.sl (x0.map e_api_Stmt))] (.one (.str r))) (h : lazarettoref07_text_b lazarettoref07_text_r l = some r) :
    Pu Tryz.prog 131 [.one (.sl (l.map e_api_Stmt))] (.one (.str r)) := by
  have F := trivial; have R := trivial
  refine pA Tryz.func131 ?_
  simp only [Tryz.f131]
  unfold lazarettoref07_text_b at h
  refine bi h fun e_3 h he_3 => ?_
  refine tt ?_
  refine lE (fun (s__ : Str × Nat) (a__ : Unit) => match s__, a__ with | (t_1, i_2), _ => ⟨[(0, .one (.sl (l.map e_api_Stmt))), (3, .one (.str t_1)), (4, .one (.int .i64 (i_2 : Int)))], []⟩) (fun (e__ : Str) (b__ : Unit) => match e__, b__ with | e_3, _ => ⟨[(3, .one (.str e_3))], []⟩) (fun (_ : Str) => some 0) () he_3 ?_ ?_
  intro i4 b4 hi4
  obtain rfl := Option.some.inj hi4
  obtain ⟨⟩ := b4
  dsimp only at h ⊢
  cases h; exact fin
  intro af4 m4 s4 a4 o4 hf4 ho4 ih4
  obtain ⟨t_1, i_2⟩ := s4
  obtain ⟨⟩ := a4
  dsimp only [lazarettoref07_text_L1] at hf4 ⊢
  refine tt ?_
  repeat (first | (with_reducible intro _) | (with_reducible refine and_i ?_ ?_; exact ss))
  refine fl hf4 F (fun hf4 _ F => ?_) (fun hf4 _ F => ?_)
  refine fi hf4 F (fun hf4 _ F => ?_) (fun hf4 _ F => ?_)
  refine nd hf4 F fun hf4 F => ?_
  refine bx hf4 F fun x_6 hf4 hx_6 F => ?_
  refine bi hf4 fun r_7 hf4 hr_7 => ?_
  refine tt ?_
  repeat (first | (with_reducible intro _) | (with_reducible refine and_i ?_ ?_; exact ss))
  refine cS (lazarettoref07_head_ok hr_7) ?_
  refine nd hf4 F fun hf4 F => ?_
  refine bi hf4 fun r_9 hf4 hr_9 => ?_
  refine tt ?_
  repeat (first | (with_reducible intro _) | (with_reducible refine and_i ?_ ?_; exact ss))
  refine cS (lazarettoref07_text_r_ok _ _ hr_9) ?_
  refine fi hf4 F (fun hf4 _ F => ?_) (fun hf4 _ F => ?_)
  refine tt ?_
  repeat (first | (with_reducible intro _) | (with_reducible refine and_i ?_ ?_; exact ss))
  refine fi hf4 F (fun hf4 _ F => ?_) (fun hf4 _ F => ?_)
  refine nd hf4 F fun hf4 F => ?_
  refine tt ?_
  repeat (first | (with_reducible intro _) | (with_reducible refine and_i ?_ ?_; exact ss))
  refine fi hf4 F (fun hf4 _ F => ?_) (fun hf4 _ F => ?_)
  refine bi hf4 fun r_11 hf4 hr_11 => ?_
  refine tt ?_
  repeat (first | (with_reducible intro _) | (with_reducible refine and_i ?_ ?_; exact ss))
  refine cS (lazarettoref07_text_r_ok _ _ hr_11) ?_
  refine nd hf4 F fun hf4 F => ?_
  refine nd hf4 F fun hf4 F => ?_
  refine nd hf4 F fun hf4 F => ?_
  refine nd hf4 F fun hf4 F => ?_
  cases hf4
  refine tt ?_
  repeat (first | (with_reducible intro _) | (with_reducible refine and_i ?_ ?_; exact ss))
  refine wn i_2 F fun F => ?_
  exact bk ih4 ho4 ()
  refine nd hf4 F fun hf4 F => ?_
  cases hf4
  refine tt ?_
  repeat (first | (with_reducible intro _) | (with_reducible refine and_i ?_ ?_; exact ss))
  refine wn i_2 F fun F => ?_
  exact bk ih4 ho4 ()
  refine fi hf4 F (fun hf4 _ F => ?_) (fun hf4 _ F => ?_)
  refine nd hf4 F fun hf4 F => ?_
  refine nd hf4 F fun hf4 F => ?_
  cases hf4
  refine tt ?_
  repeat (first | (with_reducible intro _) | (with_reducible refine and_i ?_ ?_; exact ss))
  refine wn i_2 F fun F => ?_
  exact bk ih4 ho4 ()
  refine fi hf4 F (fun hf4 _ F => ?_) (fun hf4 _ F => ?_)
  refine nd hf4 F fun hf4 F => ?_
  refine nd hf4 F fun hf4 F => ?_
  cases hf4
  refine tt ?_
  repeat (first | (with_reducible intro _) | (with_reducible refine and_i ?_ ?_; exact ss))
  refine wn i_2 F fun F => ?_
  exact bk ih4 ho4 ()
  cases hf4
  refine tt ?_
  refine wn i_2 F fun F => ?_
  exact bk ih4 ho4 ()
  refine nd hf4 F fun hf4 F => ?_
  refine tt ?_
  repeat (first | (with_reducible intro _) | (with_reducible refine and_i ?_ ?_; exact ss))
  refine fi hf4 F (fun hf4 _ F => ?_) (fun hf4 _ F => ?_)
  refine nd hf4 F fun hf4 F => ?_
  refine tt ?_
  repeat (first | (with_reducible intro _) | (with_reducible refine and_i ?_ ?_; exact ss))
  refine fi hf4 F (fun hf4 _ F => ?_) (fun hf4 _ F => ?_)
  refine bi hf4 fun r_23 hf4 hr_23 => ?_
  refine tt ?_
  repeat (first | (with_reducible intro _) | (with_reducible refine and_i ?_ ?_; exact ss))
  refine cS (lazarettoref07_text_r_ok _ _ hr_23) ?_
  refine nd hf4 F fun hf4 F => ?_
  refine nd hf4 F fun hf4 F => ?_
  refine nd hf4 F fun hf4 F => ?_
  refine nd hf4 F fun hf4 F => ?_
  cases hf4
  refine tt ?_
  repeat (first | (with_reducible intro _) | (with_reducible refine and_i ?_ ?_; exact ss))
  refine wn i_2 F fun F => ?_
  exact bk ih4 ho4 ()
  refine nd hf4 F fun hf4 F => ?_
  cases hf4
  refine tt ?_
  repeat (first | (with_reducible intro _) | (with_reducible refine and_i ?_ ?_; exact ss))
  refine wn i_2 F fun F => ?_
  exact bk ih4 ho4 ()
  refine fi hf4 F (fun hf4 _ F => ?_) (fun hf4 _ F => ?_)
  refine nd hf4 F fun hf4 F => ?_
  refine nd hf4 F fun hf4 F => ?_
  cases hf4
  refine tt ?_
  repeat (first | (with_reducible intro _) | (with_reducible refine and_i ?_ ?_; exact ss))
  refine wn i_2 F fun F => ?_
  exact bk ih4 ho4 ()
  refine fi hf4 F (fun hf4 _ F => ?_) (fun hf4 _ F => ?_)
  refine nd hf4 F fun hf4 F => ?_
  refine nd hf4 F fun hf4 F => ?_
  cases hf4
  refine tt ?_
  repeat (first | (with_reducible intro _) | (with_reducible refine and_i ?_ ?_; exact ss))
  refine wn i_2 F fun F => ?_
  exact bk ih4 ho4 ()
  cases hf4
  refine tt ?_
  refine wn i_2 F fun F => ?_
  exact bk ih4 ho4 ()
  refine bx hf4 F fun x_33 hf4 hx_33 F => ?_
  refine bi hf4 fun r_34 hf4 hr_34 => ?_
  refine tt ?_
  repeat (first | (with_reducible intro _) | (with_reducible refine and_i ?_ ?_; exact ss))
  refine cS (lazarettoref07_head_ok hr_34) ?_
  refine nd hf4 F fun hf4 F => ?_
  refine bi hf4 fun r_36 hf4 hr_36 => ?_
  refine tt ?_
  repeat (first | (with_reducible intro _) | (with_reducible refine and_i ?_ ?_; exact ss))
  refine cS (lazarettoref07_text_r_ok _ _ hr_36) ?_
  refine fi hf4 F (fun hf4 _ F => ?_) (fun hf4 _ F => ?_)
  refine tt ?_
  repeat (first | (with_reducible intro _) | (with_reducible refine and_i ?_ ?_; exact ss))
  refine fi hf4 F (fun hf4 _ F => ?_) (fun hf4 _ F => ?_)
  refine nd hf4 F fun hf4 F => ?_
  refine tt ?_
  repeat (first | (with_reducible intro _) | (with_reducible refine and_i ?_ ?_; exact ss))
  refine fi hf4 F (fun hf4 _ F => ?_) (fun hf4 _ F => ?_)
  refine bi hf4 fun r_38 hf4 hr_38 => ?_
  refine tt ?_
  repeat (first | (with_reducible intro _) | (with_reducible refine and_i ?_ ?_; exact ss))
  refine cS (lazarettoref07_text_r_ok _ _ hr_38) ?_
  refine nd hf4 F fun hf4 F => ?_
  refine nd hf4 F fun hf4 F => ?_
  refine nd hf4 F fun hf4 F => ?_
  refine nd hf4 F fun hf4 F => ?_
  cases hf4
  refine tt ?_
  repeat (first | (with_reducible intro _) | (with_reducible refine and_i ?_ ?_; exact ss))
  refine wn i_2 F fun F => ?_
  exact bk ih4 ho4 ()
  refine nd hf4 F fun hf4 F => ?_
  cases hf4
  refine tt ?_
  repeat (first | (with_reducible intro _) | (with_reducible refine and_i ?_ ?_; exact ss))
  refine wn i_2 F fun F => ?_
  exact bk ih4 ho4 ()
  refine fi hf4 F (fun hf4 _ F => ?_) (fun hf4 _ F => ?_)
  refine nd hf4 F fun hf4 F => ?_
  refine nd hf4 F fun hf4 F => ?_
  cases hf4
  refine tt ?_
  repeat (first | (with_reducible intro _) | (with_reducible refine and_i ?_ ?_; exact ss))
  refine wn i_2 F fun F => ?_
  exact bk ih4 ho4 ()
  refine fi hf4 F (fun hf4 _ F => ?_) (fun hf4 _ F => ?_)
  refine nd hf4 F fun hf4 F => ?_
  refine nd hf4 F fun hf4 F => ?_
  cases hf4
  refine tt ?_
  repeat (first | (with_reducible intro _) | (with_reducible refine and_i ?_ ?_; exact ss))
  refine wn i_2 F fun F => ?_
  exact bk ih4 ho4 ()
  cases hf4
  refine tt ?_
  refine wn i_2 F fun F => ?_
  exact bk ih4 ho4 ()
  refine nd hf4 F fun hf4 F => ?_
  refine tt ?_
  repeat (first | (with_reducible intro _) | (with_reducible refine and_i ?_ ?_; exact ss))
  refine fi hf4 F (fun hf4 _ F => ?_) (fun hf4 _ F => ?_)
  refine nd hf4 F fun hf4 F => ?_
  refine tt ?_
  repeat (first | (with_reducible intro _) | (with_reducible refine and_i ?_ ?_; exact ss))
  refine fi hf4 F (fun hf4 _ F => ?_) (fun hf4 _ F => ?_)
  refine bi hf4 fun r_50 hf4 hr_50 => ?_
  refine tt ?_
  repeat (first | (with_reducible intro _) | (with_reducible refine and_i ?_ ?_; exact ss))
  refine cS (lazarettoref07_text_r_ok _ _ hr_50) ?_
  refine nd hf4 F fun hf4 F => ?_
  refine nd hf4 F fun hf4 F => ?_
  refine nd hf4 F fun hf4 F => ?_
  refine nd hf4 F fun hf4 F => ?_
  cases hf4
  refine tt ?_
  repeat (first | (with_reducible intro _) | (with_reducible refine and_i ?_ ?_; exact ss))
  refine wn i_2 F fun F => ?_
  exact bk ih4 ho4 ()
  refine nd hf4 F fun hf4 F => ?_
  cases hf4
  refine tt ?_
  repeat (first | (with_reducible intro _) | (with_reducible refine and_i ?_ ?_; exact ss))
  refine wn i_2 F fun F => ?_
  exact bk ih4 ho4 ()
  refine fi hf4 F (fun hf4 _ F => ?_) (fun hf4 _ F => ?_)
  refine nd hf4 F fun hf4 F => ?_
  refine nd hf4 F fun hf4 F => ?_
  cases hf4
  refine tt ?_
  repeat (first | (with_reducible intro _) | (with_reducible refine and_i ?_ ?_; exact ss))
  refine wn i_2 F fun F => ?_
  exact bk ih4 ho4 ()
  refine fi hf4 F (fun hf4 _ F => ?_) (fun hf4 _ F => ?_)
  refine nd hf4 F fun hf4 F => ?_
  refine nd hf4 F fun hf4 F => ?_
  cases hf4
  refine tt ?_
  repeat (first | (with_reducible intro _) | (with_reducible refine and_i ?_ ?_; exact ss))
  refine wn i_2 F fun F => ?_
  exact bk ih4 ho4 ()
  cases hf4
  refine tt ?_
  refine wn i_2 F fun F => ?_
  exact bk ih4 ho4 ()
  cases hf4
  refine tt ?_
  exact xt ho4 af4 ()
theorem lazarettoref07_text_g_ok (n : Nat) : (∀ (x0 : List api_Stmt) (r : Str), (lazarettoref07_text_g n) x0 = some r → Pu Tryz.prog 131 [.one (.sl (x0.map e_api_Stmt))] (.one (.str r))) := by
  induction n with
  | zero => exact fun _ r h => (by cases h)
  | succ n ih =>
    have ih0 := ih
    exact fun _ r h => lazarettoref07_text_b_ok ih0 h
theorem lazarettoref07_text_ok {l : List api_Stmt} {r : Str} (h : lazarettoref07_text l = some r) : Pu Tryz.prog 131 [.one (.sl (l.map e_api_Stmt))] (.one (.str r)) := (lazarettoref07_text_g_ok 1000000) _ _ h
theorem lazarettoref07_Text_ok {l : List api_Stmt} {r : Str} (h : lazarettoref07_Text l = some r) :
    Pu Tryz.prog 115 [.one (.sl (l.map e_api_Stmt))] (.one (.str r)) := by
  have F := trivial; have R := trivial
  refine pA Tryz.func115 ?_
  simp only [Tryz.f115]
  unfold lazarettoref07_Text at h
  refine bi h fun r_1 h hr_1 => ?_
  refine tt ?_
  repeat (first | (with_reducible intro _) | (with_reducible refine and_i ?_ ?_; exact ss))
  refine cS (lazarettoref07_text_ok hr_1) ?_
  cases h; exact fin
end Go.Lz
