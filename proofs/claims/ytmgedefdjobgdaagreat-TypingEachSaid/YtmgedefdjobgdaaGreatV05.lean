/- V05 -/
import Derived.Test.YtmgedefdjobgdaaGreatLw2
import Derived.Test.YtmgedefdjobgdaaGreatSD
namespace Go.Lz
set_option linter.unusedVariables false
set_option linter.unusedSimpArgs false
open Go.Proofs
attribute [-go_sem] q_cond g_b gd_b
set_option maxRecDepth 100000
set_option maxHeartbeats 4000000
noncomputable section
def lazarettoref05_letter (c : Int) : Option Bool :=
  if 97 ≤ c then (if c ≤ 122 then (some true) else (if 65 ≤ c then (if c ≤ 90 then (some true) else (some (decide (c = 95)))) else (some (decide (c = 95))))) else (if 65 ≤ c then (if c ≤ 90 then (some true) else (some (decide (c = 95)))) else (some (decide (c = 95))))
def lazarettoref05_digit (c : Int) : Option Bool :=
  if 48 ≤ c then (some (decide (c ≤ 57))) else (some false)
def lazarettoref05_run_L1 (s : Str) : Nat → Option ((Nat) ⊕ (Nat))
  | n_3 => if (n_3 : Int) < (s.length : Int) then ((s[n_3]?).bind fun c_6 => (lazarettoref05_letter (c_6.toNat : Int)).bind fun r_7 => if r_7 = true then (some (.inl (n_3 + 1))) else ((lazarettoref05_digit (c_6.toNat : Int)).bind fun r_8 => if r_8 = true then (some (.inl (n_3 + 1))) else (some (.inr (n_3))))) else (some (.inr (n_3)))
def lazarettoref05_run (s : Str) : Option Int :=
  if s = [] then (some 0) else ((s[0]?).bind fun c_1 => (lazarettoref05_letter (c_1.toNat : Int)).bind fun r_2 => if r_2 = true then ((loop (lazarettoref05_run_L1 s) 1).bind (fun e_4 => some (e_4 : Int))) else (some 0))
def lazarettoref05_Among_L1 (s : Str) (names : Str) : (Int × Nat) → Option ((Int × Nat) ⊕ (Bool ⊕ Unit))
  | (from_1, i_2) => if (i_2 : Int) ≤ (names.length : Int) then (if (i_2 : Int) = (names.length : Int) then (if from_1 < (i_2 : Int) then (need (0 ≤ from_1 ∧ from_1 ≤ (i_2 : Int) ∧ (i_2 : Int) ≤ names.length) (if ((names.take i_2).drop from_1.toNat) = s then (some (.inr (.inl (true)))) else (some (.inl ((w64 ((i_2 : Int) + 1)), (i_2 + 1)))))) else (some (.inl ((w64 ((i_2 : Int) + 1)), (i_2 + 1))))) else ((names[i_2]?).bind fun c_6 => if (c_6.toNat : Int) = 32 then (if from_1 < (i_2 : Int) then (need (0 ≤ from_1 ∧ from_1 ≤ (i_2 : Int) ∧ (i_2 : Int) ≤ names.length) (if ((names.take i_2).drop from_1.toNat) = s then (some (.inr (.inl (true)))) else (some (.inl ((w64 ((i_2 : Int) + 1)), (i_2 + 1)))))) else (some (.inl ((w64 ((i_2 : Int) + 1)), (i_2 + 1))))) else (some (.inl (from_1, (i_2 + 1)))))) else (some (.inr (.inr (()))))
def lazarettoref05_Among (s : Str) (names : Str) : Option Bool :=
  (loop (lazarettoref05_Among_L1 s names) (0, 0)).bind (fun e__ => match e__ with | (.inl e_8) => some e_8 | (.inr ()) => some false)
def lazarettoref05_Word (s : Str) : Option Bool :=
  (lazarettoref05_Among s ([65, 78, 68, 32, 65, 82, 82, 65, 89, 32, 65, 84, 32, 66, 76, 79, 67, 75, 32, 66, 79, 79, 76, 32, 66, 85, 68, 71, 69, 84, 32, 67, 84, 68, 32, 67, 84, 85, 32, 67, 84, 85, 68, 32, 68, 69, 67, 76, 65, 83, 83, 73, 70, 89, 32, 68, 73, 78, 84, 32, 68, 79, 32, 69, 76, 83, 69, 32, 69, 78, 68, 32, 69, 78, 68, 95, 70, 79, 82, 32, 69, 78, 68, 95, 73, 70, 32, 69, 78, 68, 95, 87, 72, 73, 76, 69, 32, 69, 86, 69, 82, 89, 32, 70, 65, 76, 83, 69, 32, 70, 79, 82, 32, 70, 95, 84, 82, 73, 71, 32, 73, 70, 32, 73, 78, 80, 85, 84, 32, 73, 78, 84, 32, 76, 65, 66, 69, 76, 32, 77, 79, 68, 32, 78, 79, 84, 32, 79, 70, 32, 79, 82, 32, 79, 85, 84, 80, 85, 84, 32, 80, 82, 73, 79, 82, 73, 84, 89, 32, 82, 83, 32, 82, 95, 84, 82, 73, 71, 32, 83, 73, 84, 69, 32, 83, 82, 32, 84, 65, 83, 75, 32, 84, 72, 69, 78, 32, 84, 73, 77, 69, 32, 84, 79, 32, 84, 79, 70, 32, 84, 79, 78, 32, 84, 80, 32, 84, 82, 85, 69, 32, 86, 65, 82, 32, 87, 72, 73, 76, 69, 32, 88, 79, 82] : Str)).bind fun r_1 => some r_1
def lazarettoref05_upper_L1 : ((List Int) × Nat) → Option (((List Int) × Nat) ⊕ (List Int))
  | (b_1, i_2) => if (i_2 : Int) < (b_1.length : Int) then ((b_1[i_2]?).bind fun x_5 => if 97 ≤ x_5 then (if x_5 ≤ 122 then (some (.inl ((b_1.set i_2 (IntKind.u8.wrap (x_5 - 32))), (i_2 + 1)))) else (some (.inl (b_1, (i_2 + 1))))) else (some (.inl (b_1, (i_2 + 1))))) else (some (.inr (b_1)))
def lazarettoref05_upper (s : Str) : Option Str :=
  (loop (lazarettoref05_upper_L1) ((sBytes s), 0)).bind (fun e_3 => some (iBytes e_3))
def lazarettoref05_Name (s : Str) : Option Bool :=
  if s = [] then (some false) else (if (s.length : Int) ≤ 32 then ((lazarettoref05_run s).bind fun r_1 => if r_1 = (s.length : Int) then ((lazarettoref05_upper s).bind fun r_2 => (lazarettoref05_Word r_2).bind fun r_3 => some (!r_3)) else (some false)) else (some false))
def lazarettoref05_Digits_L1 : (Int × Str) → Option ((Int × Str) ⊕ (Int × Str))
  | (n_1, s_2) => if 10 ≤ n_1 then (need (0 ≤ (n_1.tmod 10) ∧ (n_1.tmod 10) ≤ (w64 ((n_1.tmod 10) + 1)) ∧ (w64 ((n_1.tmod 10) + 1)) ≤ 10) (need (((([48, 49, 50, 51, 52, 53, 54, 55, 56, 57] : Str).take (w64 ((n_1.tmod 10) + 1)).toNat).drop (n_1.tmod 10).toNat).length + s_2.length ≤ 281474976710656) (some (.inl ((w64 (n_1.tdiv 10)), (((([48, 49, 50, 51, 52, 53, 54, 55, 56, 57] : Str).take (w64 ((n_1.tmod 10) + 1)).toNat).drop (n_1.tmod 10).toNat) ++ s_2)))))) else (some (.inr ((n_1, s_2))))
def lazarettoref05_Digits (n : Int) : Option Str :=
  (loop (lazarettoref05_Digits_L1) (n, [])).bind (fun (n_7, s_8) => need (0 ≤ n_7 ∧ n_7 ≤ (w64 (n_7 + 1)) ∧ (w64 (n_7 + 1)) ≤ 10) (need (((([48, 49, 50, 51, 52, 53, 54, 55, 56, 57] : Str).take (w64 (n_7 + 1)).toNat).drop n_7.toNat).length + s_8.length ≤ 281474976710656) (some (((([48, 49, 50, 51, 52, 53, 54, 55, 56, 57] : Str).take (w64 (n_7 + 1)).toNat).drop n_7.toNat) ++ s_8))))
end
theorem lazarettoref05_letter_ok {c : Int} {r : Bool} (h : lazarettoref05_letter c = some r) :
    Pu Tryz.prog 127 [.one (.int .u8 c)] (.one (.bool r)) := by
  have F := trivial; have R := trivial
  refine pA Tryz.func127 ?_
  simp only [Tryz.f127]
  unfold lazarettoref05_letter at h
  refine fi h F (fun h _ F => ?_) (fun h _ F => ?_)
  refine tt ?_
  refine fi h F (fun h _ F => ?_) (fun h _ F => ?_)
  cases h; exact fin
  refine fi h F (fun h _ F => ?_) (fun h _ F => ?_)
  refine tt ?_
  refine fi h F (fun h _ F => ?_) (fun h _ F => ?_)
  cases h; exact fin
  cases h; exact fin
  cases h; exact fin
  refine tt ?_
  refine fi h F (fun h _ F => ?_) (fun h _ F => ?_)
  refine fi h F (fun h _ F => ?_) (fun h _ F => ?_)
  cases h; exact fin
  cases h; exact fin
  cases h; exact fin
theorem lazarettoref05_digit_ok {c : Int} {r : Bool} (h : lazarettoref05_digit c = some r) :
    Pu Tryz.prog 128 [.one (.int .u8 c)] (.one (.bool r)) := by
  have F := trivial; have R := trivial
  refine pA Tryz.func128 ?_
  simp only [Tryz.f128]
  unfold lazarettoref05_digit at h
  refine fi h F (fun h _ F => ?_) (fun h _ F => ?_)
  cases h; exact fin
  cases h; exact fin
theorem lazarettoref05_run_ok {s : Str} {r : Int} (h : lazarettoref05_run s = some r) :
    Pu Tryz.prog 108 [.one (.str s)] (.one (.int .i64 r)) := by
  have F := trivial; have R := trivial
  refine pA Tryz.func108 ?_
  simp only [Tryz.f108]
  unfold lazarettoref05_run at h
  refine fi h F (fun h _ F => ?_) (fun h _ F => ?_)
  cases h; exact fin
  refine bx h F fun c_1 h hc_1 F => ?_
  refine bi h fun r_2 h hr_2 => ?_
  refine tt ?_
  repeat (first | (with_reducible intro _) | (with_reducible refine and_i ?_ ?_; exact ss))
  refine cS (lazarettoref05_letter_ok hr_2) ?_
  refine fv h F (fun h _ F => ?_) (fun h _ F => ?_)
  refine bi h fun e_4 h he_4 => ?_
  refine tt ?_
  refine lE (fun (s__ : Nat) (a__ : Unit) => match s__, a__ with | n_3, _ => ⟨[(0, .one (.str s)), (3, .one (.int .i64 (n_3 : Int)))], []⟩) (fun (e__ : Nat) (b__ : Unit) => match e__, b__ with | e_4, _ => ⟨[(3, .one (.int .i64 (e_4 : Int)))], []⟩) (fun (_ : Nat) => some 0) () he_4 ?_ ?_
  intro i5 b5 hi5
  obtain rfl := Option.some.inj hi5
  obtain ⟨⟩ := b5
  dsimp only at h ⊢
  cases h; exact fin
  intro af5 m5 n_3 a5 o5 hf5 ho5 ih5
  obtain ⟨⟩ := a5
  dsimp only [lazarettoref05_run_L1] at hf5 ⊢
  refine tt ?_
  repeat (first | (with_reducible intro _) | (with_reducible refine and_i ?_ ?_; exact ss))
  refine fl hf5 F (fun hf5 _ F => ?_) (fun hf5 _ F => ?_)
  refine bx hf5 F fun c_6 hf5 hc_6 F => ?_
  refine bi hf5 fun r_7 hf5 hr_7 => ?_
  refine tt ?_
  repeat (first | (with_reducible intro _) | (with_reducible refine and_i ?_ ?_; exact ss))
  refine cS (lazarettoref05_letter_ok hr_7) ?_
  refine fv hf5 F (fun hf5 _ F => ?_) (fun hf5 _ F => ?_)
  cases hf5
  refine tt ?_
  refine wn n_3 F fun F => ?_
  exact bk ih5 ho5 ()
  refine bi hf5 fun r_8 hf5 hr_8 => ?_
  refine tt ?_
  repeat (first | (with_reducible intro _) | (with_reducible refine and_i ?_ ?_; exact ss))
  refine cS (lazarettoref05_digit_ok hr_8) ?_
  refine fv hf5 F (fun hf5 _ F => ?_) (fun hf5 _ F => ?_)
  cases hf5
  refine tt ?_
  refine wn n_3 F fun F => ?_
  exact bk ih5 ho5 ()
  cases hf5
  refine tt ?_
  exact xt ho5 af5 ()
  cases hf5
  refine tt ?_
  exact xt ho5 af5 ()
  cases h; exact fin
theorem lazarettoref05_Among_ok {s : Str} {names : Str} {r : Bool} (h : lazarettoref05_Among s names = some r) :
    Pu Tryz.prog 75 [.one (.str s), .one (.str names)] (.one (.bool r)) := by
  have F := trivial; have R := trivial
  refine pA Tryz.func75 ?_
  simp only [Tryz.f75]
  unfold lazarettoref05_Among at h
  refine bi h fun e_3 h he_3 => ?_
  refine tt ?_
  refine lE (fun (s__ : Int × Nat) (a__ : Unit) => match s__, a__ with | (from_1, i_2), _ => ⟨[(0, .one (.str s)), (1, .one (.str names)), (5, .one (.int .i64 from_1)), (6, .one (.int .i64 (i_2 : Int)))], []⟩) (fun (e__ : Bool ⊕ Unit) (b__ : Unit) => match e__, b__ with | (.inl e_8), _ => ⟨[], []⟩ | (.inr ()), _ => ⟨[], []⟩) (fun (e__ : Bool ⊕ Unit) => match e__ with | (.inl _) => none | (.inr _) => some 0) () he_3 ?_ ?_
  intro i4 b4 hi4
  rcases e_3 with e_case | ⟨⟩
  cases hi4
  obtain rfl := Option.some.inj hi4
  obtain ⟨⟩ := b4
  dsimp only at h ⊢
  cases h; exact fin
  intro af4 m4 s4 a4 o4 hf4 ho4 ih4
  obtain ⟨from_1, i_2⟩ := s4
  obtain ⟨⟩ := a4
  dsimp only [lazarettoref05_Among_L1] at hf4 ⊢
  refine tt ?_
  repeat (first | (with_reducible intro _) | (with_reducible refine and_i ?_ ?_; exact ss))
  refine fm hf4 F (fun hf4 _ F => ?_) (fun hf4 _ F => ?_)
  refine tt ?_
  repeat (first | (with_reducible intro _) | (with_reducible refine and_i ?_ ?_; exact ss))
  refine fi hf4 F (fun hf4 _ F => ?_) (fun hf4 _ F => ?_)
  refine fi hf4 F (fun hf4 _ F => ?_) (fun hf4 _ F => ?_)
  refine nd hf4 F fun hf4 F => ?_
  refine tt ?_
  repeat (first | (with_reducible intro _) | (with_reducible refine and_i ?_ ?_; exact ss))
  refine fi hf4 F (fun hf4 _ F => ?_) (fun hf4 _ F => ?_)
  cases hf4
  obtain rfl := sr ho4
  try dsimp only at h
  cases h
  exact fin
  cases hf4
  refine tt ?_
  refine wn i_2 F fun F => ?_
  exact bk ih4 ho4 ()
  cases hf4
  refine tt ?_
  refine wn i_2 F fun F => ?_
  exact bk ih4 ho4 ()
  refine bx hf4 F fun c_6 hf4 hc_6 F => ?_
  refine tt ?_
  repeat (first | (with_reducible intro _) | (with_reducible refine and_i ?_ ?_; exact ss))
  refine fi hf4 F (fun hf4 _ F => ?_) (fun hf4 _ F => ?_)
  refine fi hf4 F (fun hf4 _ F => ?_) (fun hf4 _ F => ?_)
  refine nd hf4 F fun hf4 F => ?_
  refine tt ?_
  repeat (first | (with_reducible intro _) | (with_reducible refine and_i ?_ ?_; exact ss))
  refine fi hf4 F (fun hf4 _ F => ?_) (fun hf4 _ F => ?_)
  cases hf4
  obtain rfl := sr ho4
  try dsimp only at h
  cases h
  exact fin
  cases hf4
  refine tt ?_
  refine wn i_2 F fun F => ?_
  exact bk ih4 ho4 ()
  cases hf4
  refine tt ?_
  refine wn i_2 F fun F => ?_
  exact bk ih4 ho4 ()
  cases hf4
  refine tt ?_
  refine wn i_2 F fun F => ?_
  exact bk ih4 ho4 ()
  cases hf4
  refine tt ?_
  exact xt ho4 af4 ()
theorem lazarettoref05_Word_ok {s : Str} {r : Bool} (h : lazarettoref05_Word s = some r) :
    Pu Tryz.prog 109 [.one (.str s)] (.one (.bool r)) := by
  have F := trivial; have R := trivial
  refine pA Tryz.func109 ?_
  simp only [Tryz.f109]
  unfold lazarettoref05_Word at h
  refine bi h fun r_1 h hr_1 => ?_
  refine tt ?_
  repeat (first | (with_reducible intro _) | (with_reducible refine and_i ?_ ?_; exact ss))
  refine cS (lazarettoref05_Among_ok hr_1) ?_
  cases h; exact fin
theorem lazarettoref05_upper_ok {s : Str} {r : Str} (h : lazarettoref05_upper s = some r) :
    Pu Tryz.prog 110 [.one (.str s)] (.one (.str r)) := by
  have F := trivial; have R := trivial
  refine pA Tryz.func110 ?_
  simp only [Tryz.f110]
  unfold lazarettoref05_upper at h
  refine bi h fun e_3 h he_3 => ?_
  refine tt ?_
  refine lE (fun (s__ : (List Int) × Nat) (a__ : Unit) => match s__, a__ with | (b_1, i_2), _ => ⟨[(3, .one (.msl 0 0 0 b_1.length)), (4, .one (.int .i64 (i_2 : Int)))], [.cells 0 1 (b_1.map (eK .u8))]⟩) (fun (e__ : List Int) (b__ : Unit) => match e__, b__ with | e_3, _ => ⟨[(3, .one (.msl 0 0 0 e_3.length))], [.cells 0 1 (e_3.map (eK .u8))]⟩) (fun (_ : List Int) => some 0) () he_3 ?_ ?_
  intro i4 b4 hi4
  obtain rfl := Option.some.inj hi4
  obtain ⟨⟩ := b4
  dsimp only at h ⊢
  cases h; exact fin
  intro af4 m4 s4 a4 o4 hf4 ho4 ih4
  obtain ⟨b_1, i_2⟩ := s4
  obtain ⟨⟩ := a4
  dsimp only [lazarettoref05_upper_L1] at hf4 ⊢
  refine tt ?_
  repeat (first | (with_reducible intro _) | (with_reducible refine and_i ?_ ?_; exact ss))
  refine fl hf4 F (fun hf4 _ F => ?_) (fun hf4 _ F => ?_)
  refine bx hf4 F fun x_5 hf4 hx_5 F => ?_
  refine tt ?_
  repeat (first | (with_reducible intro _) | (with_reducible refine and_i ?_ ?_; exact ss))
  refine fi hf4 F (fun hf4 _ F => ?_) (fun hf4 _ F => ?_)
  refine tt ?_
  repeat (first | (with_reducible intro _) | (with_reducible refine and_i ?_ ?_; exact ss))
  refine fi hf4 F (fun hf4 _ F => ?_) (fun hf4 _ F => ?_)
  have R := And.intro (show (List.map (eK .u8) b_1).set i_2 [.int .u8 (IntKind.u8.wrap (x_5 - 32))] = List.map (eK .u8) (b_1.set i_2 (IntKind.u8.wrap (x_5 - 32))) by simp [go_sem, List.map_set]) R
  cases hf4
  refine tt ?_
  repeat (first | (with_reducible intro _) | (with_reducible refine and_i ?_ ?_; exact ss))
  refine wn i_2 F fun F => ?_
  exact bk ih4 ho4 ()
  cases hf4
  refine tt ?_
  refine wn i_2 F fun F => ?_
  exact bk ih4 ho4 ()
  cases hf4
  refine tt ?_
  refine wn i_2 F fun F => ?_
  exact bk ih4 ho4 ()
  cases hf4
  refine tt ?_
  exact xt ho4 af4 ()
theorem lazarettoref05_Name_ok {s : Str} {r : Bool} (h : lazarettoref05_Name s = some r) :
    Pu Tryz.prog 71 [.one (.str s)] (.one (.bool r)) := by
  have F := trivial; have R := trivial
  refine pA Tryz.func71 ?_
  simp only [Tryz.f71]
  unfold lazarettoref05_Name at h
  refine fi h F (fun h _ F => ?_) (fun h _ F => ?_)
  cases h; exact fin
  refine tt ?_
  repeat (first | (with_reducible intro _) | (with_reducible refine and_i ?_ ?_; exact ss))
  refine fi h F (fun h _ F => ?_) (fun h _ F => ?_)
  refine bi h fun r_1 h hr_1 => ?_
  refine tt ?_
  repeat (first | (with_reducible intro _) | (with_reducible refine and_i ?_ ?_; exact ss))
  refine cS (lazarettoref05_run_ok hr_1) ?_
  refine tt ?_
  repeat (first | (with_reducible intro _) | (with_reducible refine and_i ?_ ?_; exact ss))
  refine fi h F (fun h _ F => ?_) (fun h _ F => ?_)
  refine bi h fun r_2 h hr_2 => ?_
  refine tt ?_
  repeat (first | (with_reducible intro _) | (with_reducible refine and_i ?_ ?_; exact ss))
  refine cS (lazarettoref05_upper_ok hr_2) ?_
  refine bi h fun r_3 h hr_3 => ?_
  refine tt ?_
  repeat (first | (with_reducible intro _) | (with_reducible refine and_i ?_ ?_; exact ss))
  refine cS (lazarettoref05_Word_ok hr_3) ?_
  cases h; exact fin
  cases h; exact fin
  cases h; exact fin
theorem lazarettoref05_Digits_ok {n : Int} {r : Str} (h : lazarettoref05_Digits n = some r) :
    Pu Tryz.prog 102 [.one (.int .i64 n)] (.one (.str r)) := by
  have F := trivial; have R := trivial
  refine pA Tryz.func102 ?_
  simp only [Tryz.f102]
  unfold lazarettoref05_Digits at h
  refine bi h fun e_3 h he_3 => ?_
  refine tt ?_
  refine lE (fun (s__ : Int × Str) (a__ : Unit) => match s__, a__ with | (n_1, s_2), _ => ⟨[(0, .one (.int .i64 n_1)), (3, .one (.str s_2))], []⟩) (fun (e__ : Int × Str) (b__ : Unit) => match e__, b__ with | (n_7, s_8), _ => ⟨[(0, .one (.int .i64 n_7)), (3, .one (.str s_8))], []⟩) (fun (_ : Int × Str) => some 0) () he_3 ?_ ?_
  intro i4 b4 hi4
  obtain rfl := Option.some.inj hi4
  obtain ⟨n_7, s_8⟩ := e_3
  obtain ⟨⟩ := b4
  dsimp only at h ⊢
  refine nd h F fun h F => ?_
  refine nd h F fun h F => ?_
  cases h; exact fin
  intro af4 m4 s4 a4 o4 hf4 ho4 ih4
  obtain ⟨n_1, s_2⟩ := s4
  obtain ⟨⟩ := a4
  dsimp only [lazarettoref05_Digits_L1] at hf4 ⊢
  refine fi hf4 F (fun hf4 _ F => ?_) (fun hf4 _ F => ?_)
  refine nd hf4 F fun hf4 F => ?_
  refine nd hf4 F fun hf4 F => ?_
  cases hf4
  refine tt ?_
  repeat (first | (with_reducible intro _) | (with_reducible refine and_i ?_ ?_; exact ss))
  exact bk ih4 ho4 ()
  cases hf4
  refine tt ?_
  exact xt ho4 af4 ()
end Go.Lz
