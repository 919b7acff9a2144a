/- V17s: bytes behind bytes that are handed in: contracts over what is lent. -/
import Derived.Test.YtakkdadfikcpoaaDoorLw4
import Derived.Test.YtakkdadfikcpoaaDoorSD
namespace Go.Lz
set_option linter.unusedVariables false
set_option linter.unusedSimpArgs false
open Go.Proofs
attribute [-go_sem] q_cond g_b gd_b
set_option maxRecDepth 100000
set_option maxHeartbeats 4000000
noncomputable section
def code_join_L1 (xs : List Int) : ((List Int) × Nat) → Option (((List Int) × Nat) ⊕ ((List Int) × Nat))
  | (l_3, x_5) => if (x_5 : Int) < (xs.length : Int) then ((xs[x_5]?).bind fun x_8 => need ((l_3.length + 1) * 1 ≤ 140737488355328) (some (.inl ((l_3 ++ [(IntKind.u8.wrap x_8)]), (x_5 + 1))))) else (some (.inr (l_3, x_5)))
def code_join (b : List Int) (xs : List Int) : Option (List Int) :=
  (loop (code_join_L1 xs) (b, 0)).bind (fun (e_6, i_6) => need (i_6 = xs.length) (some e_6))
def code_Four (b : List Int) (n : Int) : Option (List Int) :=
  (code_join b [(n.fdiv 16777216), (n.fdiv 65536), (n.fdiv 256), n]).bind fun r => some r
end
theorem code_join_st {b xs : List Int} {v : Nat} {r : List Int} (h : code_join b xs = some r) :
    Ct Tryd.prog 23 [.one (.msl 0 v 0 b.length), .one (.slf (xs.map eI))] [.cells v 1 (b.map (eK .u8))] (fun x__ H__ => x__ = .one (.msl 0 (v + xs.length) 0 r.length) ∧ H__ = [.cells (v + xs.length) 1 (r.map (eK .u8))]) := by
  have F := trivial; have R := trivial
  refine pAL Tryd.func23 ?_
  simp only [Tryd.f23]
  unfold code_join at h
  refine bi h fun e_6 h he_6 => ?_
  refine tt ?_
  repeat (first | (with_reducible intro _) | (with_reducible refine and_i ?_ ?_; exact ss))
  refine lE (fun (s__ : (List Int) × Nat) (a__ : Unit) => match s__, a__ with | (l_3, x_5), _ => ⟨[(0, .one (.msl 0 (v + x_5) 0 l_3.length)), (7, .one (.slf (xs.map eI))), (8, .one (.int .i64 (xs.length : Int))), (9, .one (.int .i64 (x_5 : Int)))], [.cells (v + x_5) 1 (l_3.map (eK .u8))]⟩) (fun (e__ : (List Int) × Nat) (b__ : Unit) => match e__, b__ with | (e_6, i_6), _ => ⟨[(0, .one (.msl 0 (v + i_6) 0 e_6.length))], [.cells (v + i_6) 1 (e_6.map (eK .u8))]⟩) (fun (_ : (List Int) × Nat) => some 0) () he_6 ?_ ?_
  intro i7 b7 hi7
  obtain rfl := Option.some.inj hi7
  obtain ⟨e_6, i_6⟩ := e_6
  obtain ⟨⟩ := b7
  dsimp only at h ⊢
  refine nd h F fun h F => ?_
  have R := And.intro F.1 R
  cases h; exact fin
  intro af7 m7 s7 a7 o7 hf7 ho7 ih7
  obtain ⟨l_3, x_5⟩ := s7
  obtain ⟨⟩ := a7
  dsimp only [code_join_L1] at hf7 ⊢
  refine fl hf7 F (fun hf7 _ F => ?_) (fun hf7 _ F => ?_)
  refine bx hf7 F fun x_8 hf7 hx_8 F => ?_
  have R := And.intro (show (List.map eI xs)[x_5]? = some [.int .i64 x_8] from q_map (f := eI) hx_8) R
  have R := And.intro (show v + x_5 + 1 = v + (x_5 + 1) by omega) R
  refine nd hf7 F fun hf7 F => ?_
  cases hf7
  refine tt ?_
  repeat (first | (with_reducible intro _) | (with_reducible refine and_i ?_ ?_; exact ss))
  refine wn x_5 F fun F => ?_
  exact bk ih7 ho7 ()
  cases hf7
  refine tt ?_
  exact xt ho7 af7 ()
theorem code_Four_st {b : List Int} {n : Int} {v : Nat} {r : List Int} (h : code_Four b n = some r) :
    Ct Tryd.prog 22 [.one (.msl 0 v 0 b.length), .one (.int .i64 n)] [.cells v 1 (b.map (eK .u8))] (fun x__ H__ => x__ = .one (.msl 0 (v + 4) 0 r.length) ∧ H__ = [.cells (v + 4) 1 (r.map (eK .u8))]) := by
  have F := trivial; have R := trivial
  refine pAL Tryd.func22 ?_
  simp only [Tryd.f22]
  unfold code_Four at h
  refine bi h fun r_1 h hr_1 => ?_
  refine tt ?_
  repeat (first | (with_reducible intro _) | (with_reducible refine and_i ?_ ?_; exact ss))
  refine cLS [0] (.one (.msl 0 (v + 4) 0 r_1.length)) [.cells (v + 4) 1 (r_1.map (eK .u8))] (code_join_st (v := v) hr_1) ?_
  cases h; exact fin
end Go.Lz
