/- V04 -/
import Derived.Test.YtefnllpnodnimaaLw2
import Derived.Test.YtefnllpnodnimaaSD
namespace Go.Lz
set_option linter.unusedVariables false
set_option linter.unusedSimpArgs false
open Go.Proofs
attribute [-go_sem] q_cond g_b gd_b
set_option maxRecDepth 100000
set_option maxHeartbeats 4000000
noncomputable section
def ints_Bits (kind : Int) : Option Int :=
  if kind = 1 then (some 1) else (if kind = 2 then (some 16) else (if kind = 3 then (some 32) else (if kind = 4 then (some 32) else (some 0))))
def cells_Check (t : api_Type) : Option Int :=
  if (-32768) ≤ t.Low then ((ints_Bits t.Kind).bind fun r_1 => if r_1 = 0 then (some 6) else (if t.Len < 0 then (some 6) else (if 32 < t.Len then (some 6) else (if t.Low < 32768 then (if t.Len = 0 then (if t.Low = 0 then (some 0) else (some 6)) else (some 0)) else (some 6))))) else ((ints_Bits t.Kind).bind fun r_2 => if r_2 = 0 then (some 6) else (if t.Len < 0 then (some 6) else (if 32 < t.Len then (some 6) else (some 6))))
def lazarettoref03_Bits (kind : Int) : Option Int :=
  if kind = 1 then (some 1) else (if kind = 2 then (some 16) else (if kind = 3 then (some 32) else (if kind = 4 then (some 32) else (some 0))))
def lazarettoref04_Check (t : api_Type) : Option Int :=
  (lazarettoref03_Bits t.Kind).bind fun r_1 => if r_1 = 0 then (some 6) else (if t.Len < 0 then (some 6) else (if 32 < t.Len then (some 6) else (if t.Len = 0 then (if t.Low = 0 then (if t.Low < (-32768) then (some 6) else (if 32767 < t.Low then (some 6) else (some 0))) else (some 6)) else (if t.Low < (-32768) then (some 6) else (if 32767 < t.Low then (some 6) else (some 0))))))
def cells_Size (t : api_Type) : Option Int :=
  (cells_Check t).bind fun r_1 => if r_1 = 0 then (some (max t.Len 1)) else (some 0)
def lazarettoref04_Size (t : api_Type) : Option Int :=
  (lazarettoref04_Check t).bind fun r_1 => if r_1 = 0 then (some (max t.Len 1)) else (some 0)
def lazarettoref04_Ints_L1 (a : List Int) (b : List Int) : Nat → Option ((Nat) ⊕ (Bool ⊕ Unit))
  | i_1 => if (i_1 : Int) < (a.length : Int) then ((a[i_1]?).bind fun x_4 => (b[i_1]?).bind fun x_5 => if x_4 = x_5 then (some (.inl (i_1 + 1))) else (some (.inr (.inl (false))))) else (some (.inr (.inr (()))))
def lazarettoref04_Ints (a : List Int) (b : List Int) : Option Bool :=
  if (a.length : Int) = (b.length : Int) then ((loop (lazarettoref04_Ints_L1 a b) 0).bind (fun e__ => match e__ with | (.inl e_6) => some e_6 | (.inr ()) => some true)) else (some false)
def cells_Zero (t : api_Type) : Option (List Int) :=
  (cells_Size t).bind fun r_1 => need (0 ≤ r_1 ∧ 8 * r_1 ≤ 140737488355328) (some (List.replicate (List.replicate r_1.toNat 0).length 0))
def lazarettoref04_Zero (t : api_Type) : Option (List Int) :=
  (lazarettoref04_Size t).bind fun r_1 => need (0 ≤ r_1 ∧ 8 * r_1 ≤ 140737488355328) (some (List.replicate r_1.toNat 0))
def cells_place (t : api_Type) (cells : List Int) (i : Int) : Option (Int × Bool) :=
  (cells_Check t).bind fun r_1 => if r_1 = 0 then ((cells_Size t).bind fun r_2 => if (cells.length : Int) = r_2 then (if t.Len = 0 then (some (0, true)) else (if t.Low ≤ i then (some ((w64 (i - t.Low)), (decide (i < (w64 (t.Low + t.Len)))))) else (some ((w64 (i - t.Low)), false)))) else (some (0, false))) else (some (0, false))
def cells_Get (t : api_Type) (cells : List Int) (i : Int) : Option (Int × Int) :=
  (cells_place t cells i).bind fun r_1 => if r_1.2 = true then ((idx cells r_1.1).bind fun x_2 => some (x_2, 0)) else (some (0, 2))
def ints_bit (b : Bool) : Option Int :=
  if b = true then (some 1) else (some 0)
def ints_Wrap (kind : Int) (n : Int) : Option Int :=
  some (wrapS kind n)
def cells_Set (t : api_Type) (cells : List Int) (i : Int) (v : Int) : Option ((List Int) × Int) :=
  need (0 ≤ (cells.length : Int) ∧ 8 * (cells.length : Int) ≤ 140737488355328) ((cells_place t cells i).bind fun r_2 => if r_2.2 = true then ((ints_Wrap t.Kind v).bind fun r_3 => (idx cells r_2.1).bind fun x_4 => some ((cells.set r_2.1.toNat r_3), 0)) else (some (cells, 2)))
def lazarettolaw04_awake : Option Bool :=
  (cells_Get (⟨2, 5, 2⟩ : api_Type) [7, 8] 6).bind fun r_1 => (cells_Get (⟨2, 5, 2⟩ : api_Type) [7, 8] 7).bind fun r_2 => (cells_Set (⟨2, 5, 2⟩ : api_Type) [7, 8] 5 65537).bind fun r_3 => if r_1.1 = 8 then (if r_1.2 = 0 then (if r_2.1 = 0 then (if r_2.2 = 2 then (if r_3.2 = 0 then ((lazarettoref04_Ints r_3.1 [1, 8]).bind fun r_4 => if r_4 = true then ((cells_Size (⟨2, 5, 2⟩ : api_Type)).bind fun r_5 => if r_5 = 2 then ((cells_Check (⟨2, 5, 2⟩ : api_Type)).bind fun r_6 => if r_6 = 0 then ((cells_Zero (⟨2, 5, 2⟩ : api_Type)).bind fun r_7 => some (decide ((r_7.length : Int) = 2))) else (some false)) else (some false)) else (some false)) else (some false)) else (some false)) else (some false)) else (some false)) else (some false)
def lazarettolaw04_CellsTypes (t : api_Type) : Option Bool :=
  (cells_Check t).bind fun r_1 => (lazarettoref04_Check t).bind fun r_2 => if r_1 = r_2 then ((cells_Size t).bind fun r_3 => (lazarettoref04_Size t).bind fun r_4 => if r_3 = r_4 then ((cells_Zero t).bind fun r_5 => (lazarettoref04_Zero t).bind fun r_6 => (lazarettoref04_Ints r_5 r_6).bind fun r_7 => if r_7 = true then ((lazarettolaw04_awake).bind fun r_8 => some r_8) else (some false)) else (some false)) else (some false)
def lazarettoref04_place (t : api_Type) (cells : List Int) (i : Int) : Option Int :=
  (lazarettoref04_Check t).bind fun r_1 => if r_1 = 0 then ((lazarettoref04_Size t).bind fun r_2 => if (cells.length : Int) = r_2 then (if t.Len = 0 then (some 0) else (if i < t.Low then (some (-1)) else (if (w64 (t.Low + t.Len)) ≤ i then (some (-1)) else (some (w64 (i - t.Low)))))) else (some (-1))) else (some (-1))
def lazarettoref04_Get (t : api_Type) (cells : List Int) (i : Int) : Option (Int × Int) :=
  (lazarettoref04_place t cells i).bind fun r_1 => if r_1 < 0 then (some (0, 2)) else ((idx cells r_1).bind fun x_2 => some (x_2, 0))
def lazarettolaw04_CellsGets (t : api_Type) (l : List Int) (i : Int) : Option Bool :=
  (cells_Get t l i).bind fun r_1 => (lazarettoref04_Get t l i).bind fun r_2 => if r_1.1 = r_2.1 then (if r_1.2 = r_2.2 then ((lazarettolaw04_awake).bind fun r_3 => some r_3) else (some false)) else (some false)
def lazarettoref03_half (kind : Int) : Option Int :=
  if kind = 2 then (some 32768) else (some 2147483648)
def lazarettoref03_Wrap (kind : Int) (n : Int) : Option Int :=
  (lazarettoref03_Bits kind).bind fun r_1 => if r_1 = 0 then (some 0) else (if kind = 1 then (if n = 0 then (some 0) else (some 1)) else ((lazarettoref03_half kind).bind fun r_2 => need (¬ (w64 (2 * r_2)) = 0) (if (n.tmod (w64 (2 * r_2))) < (w64 (0 - r_2)) then (if r_2 ≤ (w64 ((n.tmod (w64 (2 * r_2))) + (w64 (2 * r_2)))) then (some (w64 ((w64 ((n.tmod (w64 (2 * r_2))) + (w64 (2 * r_2)))) - (w64 (2 * r_2))))) else (some (w64 ((n.tmod (w64 (2 * r_2))) + (w64 (2 * r_2)))))) else (if r_2 ≤ (n.tmod (w64 (2 * r_2))) then (some (w64 ((n.tmod (w64 (2 * r_2))) - (w64 (2 * r_2))))) else (some (n.tmod (w64 (2 * r_2))))))))
def lazarettoref04_Set (t : api_Type) (cells : List Int) (i : Int) (v : Int) : Option ((List Int) × Int) :=
  (lazarettoref04_place t cells i).bind fun r_1 => if cells.isEmpty = true then (if r_1 < 0 then (some ([], 2)) else ((lazarettoref03_Wrap t.Kind v).bind fun r_2 => none)) else (need (cells.length * 8 ≤ 140737488355328) (if r_1 < 0 then (some (cells, 2)) else ((lazarettoref03_Wrap t.Kind v).bind fun r_4 => (idx cells r_1).bind fun x_5 => some ((cells.set r_1.toNat r_4), 0))))
def lazarettolaw04_CellsSets (t : api_Type) (l : List Int) (n : A2 Int) : Option Bool :=
  if 1000 < (l.length : Int) then ((lazarettolaw04_awake).bind fun r_1 => some r_1) else ((cells_Set t l n.a0 n.a1).bind fun r_2 => (lazarettoref04_Set t l n.a0 n.a1).bind fun r_3 => (lazarettoref04_Ints r_2.1 r_3.1).bind fun r_4 => if r_4 = true then (if r_2.2 = r_3.2 then ((lazarettolaw04_awake).bind fun r_5 => some r_5) else (some false)) else (some false))
def lazarettolaw04_CellsBack (t : api_Type) (n : A3 Int) : Option Bool :=
  (cells_Zero t).bind fun r_1 => (cells_Set t r_1 n.a0 n.a1).bind fun r_2 => if r_2.2 = 0 then ((cells_Get t r_2.1 n.a0).bind fun r_3 => (cells_Get t r_2.1 n.a2).bind fun r_4 => if r_3.2 = 0 then (if (r_2.1.length : Int) = (r_1.length : Int) then (if n.a2 = n.a0 then (if r_4.1 = r_3.1 then (if r_4.2 = 0 then ((lazarettolaw04_awake).bind fun r_5 => some r_5) else ((lazarettolaw04_awake).bind fun r_6 => some r_6)) else (some false)) else (if r_4.2 = 0 then (if t.Len = 0 then ((lazarettolaw04_awake).bind fun r_7 => some r_7) else (if r_4.1 = 0 then ((lazarettolaw04_awake).bind fun r_8 => some r_8) else (some false))) else ((lazarettolaw04_awake).bind fun r_9 => some r_9))) else (some false)) else (some false)) else ((cells_Get t r_1 n.a0).bind fun r_10 => if r_10.2 = 2 then ((lazarettoref04_Ints r_2.1 r_1).bind fun r_11 => if r_11 = true then ((lazarettolaw04_awake).bind fun r_12 => some r_12) else (some false)) else (some false))
def lazarettolaw04_CellsAll (t : api_Type) (i : Int) : Option Bool :=
  (cells_Zero t).bind fun r_1 => (cells_Get t r_1 i).bind fun r_2 => (lazarettoref04_Check t).bind fun r_3 => if r_3 = 0 then (if t.Len = 0 then (if r_2.2 = 0 then ((lazarettolaw04_awake).bind fun r_4 => some r_4) else (some false)) else (if t.Low ≤ i then (if ((decide (r_2.2 = 0)) == (decide (i < (w64 (t.Low + t.Len))))) = true then ((lazarettolaw04_awake).bind fun r_5 => some r_5) else (some false)) else (if r_2.2 = 0 then (some false) else ((lazarettolaw04_awake).bind fun r_6 => some r_6)))) else (if r_2.2 = 2 then ((lazarettolaw04_awake).bind fun r_7 => some r_7) else (some false))
end
theorem ints_Bits_ok {kind : Int} {r : Int} (h : ints_Bits kind = some r) :
    Pu Try.prog 65 [.one (.int .i64 kind)] (.one (.int .i64 r)) := by
  have F := trivial; have R := trivial
  refine pA Try.func65 ?_
  simp only [Try.f65]
  unfold ints_Bits at h
  refine fi h F (fun h _ F => ?_) (fun h _ F => ?_)
  cases h; exact fin
  refine fi h F (fun h _ F => ?_) (fun h _ F => ?_)
  cases h; exact fin
  refine tt ?_
  refine fi h F (fun h _ F => ?_) (fun h _ F => ?_)
  cases h; exact fin
  refine fi h F (fun h _ F => ?_) (fun h _ F => ?_)
  cases h; exact fin
  cases h; exact fin
theorem cells_Check_ok {t : api_Type} {r : Int} (h : cells_Check t = some r) :
    Pu Try.prog 19 [.agg (e_api_Type t)] (.one (.int .i64 r)) := by
  have F := trivial; have R := trivial
  refine pA Try.func19 ?_
  simp only [Try.f19]
  unfold cells_Check at h
  refine fi h F (fun h _ F => ?_) (fun h _ F => ?_)
  refine bi h fun r_1 h hr_1 => ?_
  refine tt ?_
  repeat (first | (with_reducible intro _) | refine ⟨ss, ?_⟩)
  refine cS (ints_Bits_ok hr_1) ?_
  refine fi h F (fun h _ F => ?_) (fun h _ F => ?_)
  cases h; exact fin
  refine tt ?_
  refine fi h F (fun h _ F => ?_) (fun h _ F => ?_)
  cases h; exact fin
  refine fi h F (fun h _ F => ?_) (fun h _ F => ?_)
  cases h; exact fin
  refine tt ?_
  refine fi h F (fun h _ F => ?_) (fun h _ F => ?_)
  refine fi h F (fun h _ F => ?_) (fun h _ F => ?_)
  refine tt ?_
  refine fi h F (fun h _ F => ?_) (fun h _ F => ?_)
  cases h; exact fin
  cases h; exact fin
  cases h; exact fin
  cases h; exact fin
  refine bi h fun r_2 h hr_2 => ?_
  refine tt ?_
  repeat (first | (with_reducible intro _) | refine ⟨ss, ?_⟩)
  refine cS (ints_Bits_ok hr_2) ?_
  refine fi h F (fun h _ F => ?_) (fun h _ F => ?_)
  cases h; exact fin
  refine tt ?_
  refine fi h F (fun h _ F => ?_) (fun h _ F => ?_)
  cases h; exact fin
  refine fi h F (fun h _ F => ?_) (fun h _ F => ?_)
  cases h; exact fin
  cases h; exact fin
theorem lazarettoref03_Bits_ok {kind : Int} {r : Int} (h : lazarettoref03_Bits kind = some r) :
    Pu Try.prog 66 [.one (.int .i64 kind)] (.one (.int .i64 r)) := by
  have F := trivial; have R := trivial
  refine pA Try.func66 ?_
  simp only [Try.f66]
  unfold lazarettoref03_Bits at h
  refine fi h F (fun h _ F => ?_) (fun h _ F => ?_)
  cases h; exact fin
  refine fi h F (fun h _ F => ?_) (fun h _ F => ?_)
  cases h; exact fin
  refine tt ?_
  refine fi h F (fun h _ F => ?_) (fun h _ F => ?_)
  cases h; exact fin
  refine fi h F (fun h _ F => ?_) (fun h _ F => ?_)
  cases h; exact fin
  cases h; exact fin
theorem lazarettoref04_Check_ok {t : api_Type} {r : Int} (h : lazarettoref04_Check t = some r) :
    Pu Try.prog 20 [.agg (e_api_Type t)] (.one (.int .i64 r)) := by
  have F := trivial; have R := trivial
  refine pA Try.func20 ?_
  simp only [Try.f20]
  unfold lazarettoref04_Check at h
  refine bi h fun r_1 h hr_1 => ?_
  refine tt ?_
  repeat (first | (with_reducible intro _) | refine ⟨ss, ?_⟩)
  refine cS (lazarettoref03_Bits_ok hr_1) ?_
  refine fi h F (fun h _ F => ?_) (fun h _ F => ?_)
  cases h; exact fin
  refine tt ?_
  refine fi h F (fun h _ F => ?_) (fun h _ F => ?_)
  cases h; exact fin
  refine fi h F (fun h _ F => ?_) (fun h _ F => ?_)
  cases h; exact fin
  refine tt ?_
  refine fi h F (fun h _ F => ?_) (fun h _ F => ?_)
  refine fi h F (fun h _ F => ?_) (fun h _ F => ?_)
  refine tt ?_
  refine fi h F (fun h _ F => ?_) (fun h _ F => ?_)
  cases h; exact fin
  refine fi h F (fun h _ F => ?_) (fun h _ F => ?_)
  cases h; exact fin
  cases h; exact fin
  cases h; exact fin
  refine tt ?_
  refine fi h F (fun h _ F => ?_) (fun h _ F => ?_)
  cases h; exact fin
  refine fi h F (fun h _ F => ?_) (fun h _ F => ?_)
  cases h; exact fin
  cases h; exact fin
theorem cells_Size_ok {t : api_Type} {r : Int} (h : cells_Size t = some r) :
    Pu Try.prog 21 [.agg (e_api_Type t)] (.one (.int .i64 r)) := by
  have F := trivial; have R := trivial
  refine pA Try.func21 ?_
  simp only [Try.f21]
  unfold cells_Size at h
  refine bi h fun r_1 h hr_1 => ?_
  refine tt ?_
  repeat (first | (with_reducible intro _) | refine ⟨ss, ?_⟩)
  refine cS (cells_Check_ok hr_1) ?_
  refine fi h F (fun h _ F => ?_) (fun h _ F => ?_)
  cases h; exact fin
  cases h; exact fin
theorem lazarettoref04_Size_ok {t : api_Type} {r : Int} (h : lazarettoref04_Size t = some r) :
    Pu Try.prog 22 [.agg (e_api_Type t)] (.one (.int .i64 r)) := by
  have F := trivial; have R := trivial
  refine pA Try.func22 ?_
  simp only [Try.f22]
  unfold lazarettoref04_Size at h
  refine bi h fun r_1 h hr_1 => ?_
  refine tt ?_
  repeat (first | (with_reducible intro _) | refine ⟨ss, ?_⟩)
  refine cS (lazarettoref04_Check_ok hr_1) ?_
  refine fi h F (fun h _ F => ?_) (fun h _ F => ?_)
  cases h; exact fin
  cases h; exact fin
theorem lazarettoref04_Ints_ok {a : List Int} {b : List Int} {r : Bool} (h : lazarettoref04_Ints a b = some r) :
    Pu Try.prog 23 [.one (.sl (a.map eI)), .one (.sl (b.map eI))] (.one (.bool r)) := by
  have F := trivial; have R := trivial
  refine pA Try.func23 ?_
  simp only [Try.f23]
  unfold lazarettoref04_Ints at h
  refine tt ?_
  repeat (first | (with_reducible intro _) | refine ⟨ss, ?_⟩)
  refine fi h F (fun h _ F => ?_) (fun h _ F => ?_)
  refine bi h fun e_2 h he_2 => ?_
  refine tt ?_
  refine lE (fun (s__ : Nat) (a__ : Unit) => match s__, a__ with | i_1, _ => ⟨[(0, .one (.sl (a.map eI))), (1, .one (.sl (b.map eI))), (5, .one (.int .i64 (i_1 : Int)))], []⟩) (fun (e__ : Bool ⊕ Unit) (b__ : Unit) => match e__, b__ with | (.inl e_6), _ => ⟨[], []⟩ | (.inr ()), _ => ⟨[], []⟩) (fun (e__ : Bool ⊕ Unit) => match e__ with | (.inl _) => none | (.inr _) => some 0) () he_2 ?_ ?_
  intro i3 b3 hi3
  rcases e_2 with e_case | ⟨⟩
  cases hi3
  obtain rfl := Option.some.inj hi3
  obtain ⟨⟩ := b3
  dsimp only at h ⊢
  cases h; exact fin
  intro af3 m3 i_1 a3 o3 hf3 ho3 ih3
  obtain ⟨⟩ := a3
  dsimp only [lazarettoref04_Ints_L1] at hf3 ⊢
  refine tt ?_
  repeat (first | (with_reducible intro _) | refine ⟨ss, ?_⟩)
  refine fl hf3 F (fun hf3 _ F => ?_) (fun hf3 _ F => ?_)
  refine bx hf3 F fun x_4 hf3 hx_4 F => ?_
  refine bx hf3 F fun x_5 hf3 hx_5 F => ?_
  refine tt ?_
  repeat (first | (with_reducible intro _) | refine ⟨ss, ?_⟩)
  refine fi hf3 F (fun hf3 _ F => ?_) (fun hf3 _ F => ?_)
  cases hf3
  refine tt ?_
  refine wn i_1 F fun F => ?_
  exact bk ih3 ho3 ()
  cases hf3
  obtain rfl := sr ho3
  try dsimp only at h
  cases h
  exact fin
  cases hf3
  refine tt ?_
  exact xt ho3 af3 ()
  cases h; exact fin
theorem cells_Zero_ok {t : api_Type} {r : List Int} (h : cells_Zero t = some r) :
    Pu Try.prog 24 [.agg (e_api_Type t)] (.one (.sl (r.map eI))) := by
  have F := trivial; have R := trivial
  refine pA Try.func24 ?_
  simp only [Try.f24]
  unfold cells_Zero at h
  refine bi h fun r_1 h hr_1 => ?_
  refine tt ?_
  repeat (first | (with_reducible intro _) | refine ⟨ss, ?_⟩)
  refine cS (cells_Size_ok hr_1) ?_
  refine nd h F fun h F => ?_
  have R := And.intro (show List.replicate r_1.toNat [.int .i64 0] = List.map eI (List.replicate r_1.toNat 0) by simp [go_sem]) R
  have R := And.intro (show splice (List.map eI (List.replicate r_1.toNat 0)) 0 (List.replicate (List.replicate r_1.toNat 0).length [.int .i64 0]) = List.map eI (List.replicate (List.replicate r_1.toNat 0).length 0) by simp [splice, go_sem]) R
  cases h; exact fin
theorem lazarettoref04_Zero_ok {t : api_Type} {r : List Int} (h : lazarettoref04_Zero t = some r) :
    Pu Try.prog 25 [.agg (e_api_Type t)] (.one (.sl (r.map eI))) := by
  have F := trivial; have R := trivial
  refine pA Try.func25 ?_
  simp only [Try.f25]
  unfold lazarettoref04_Zero at h
  refine bi h fun r_1 h hr_1 => ?_
  refine tt ?_
  repeat (first | (with_reducible intro _) | refine ⟨ss, ?_⟩)
  refine cS (lazarettoref04_Size_ok hr_1) ?_
  refine nd h F fun h F => ?_
  have R := And.intro (show List.replicate r_1.toNat [.int .i64 0] = List.map eI (List.replicate r_1.toNat 0) by simp [go_sem]) R
  cases h; exact fin
theorem cells_place_ok {t : api_Type} {cells : List Int} {i : Int} {r : Int × Bool} (h : cells_place t cells i = some r) :
    Pu Try.prog 67 [.agg (e_api_Type t), .one (.sl (cells.map eI)), .one (.int .i64 i)] (.tup [.one (.int .i64 r.1), .one (.bool r.2)]) := by
  have F := trivial; have R := trivial
  refine pA Try.func67 ?_
  simp only [Try.f67]
  unfold cells_place at h
  refine bi h fun r_1 h hr_1 => ?_
  refine tt ?_
  repeat (first | (with_reducible intro _) | refine ⟨ss, ?_⟩)
  refine cS (cells_Check_ok hr_1) ?_
  refine fi h F (fun h _ F => ?_) (fun h _ F => ?_)
  refine bi h fun r_2 h hr_2 => ?_
  refine tt ?_
  repeat (first | (with_reducible intro _) | refine ⟨ss, ?_⟩)
  refine cS (cells_Size_ok hr_2) ?_
  refine fi h F (fun h _ F => ?_) (fun h _ F => ?_)
  refine tt ?_
  refine fi h F (fun h _ F => ?_) (fun h _ F => ?_)
  cases h; exact fin
  refine tt ?_
  repeat (first | (with_reducible intro _) | refine ⟨ss, ?_⟩)
  refine fi h F (fun h _ F => ?_) (fun h _ F => ?_)
  cases h; exact fin
  cases h; exact fin
  cases h; exact fin
  cases h; exact fin
theorem cells_Get_ok {t : api_Type} {cells : List Int} {i : Int} {r : Int × Int} (h : cells_Get t cells i = some r) :
    Pu Try.prog 27 [.agg (e_api_Type t), .one (.sl (cells.map eI)), .one (.int .i64 i)] (.tup [.one (.int .i64 r.1), .one (.int .i64 r.2)]) := by
  have F := trivial; have R := trivial
  refine pA Try.func27 ?_
  simp only [Try.f27]
  unfold cells_Get at h
  refine bi h fun r_1 h hr_1 => ?_
  refine tt ?_
  repeat (first | (with_reducible intro _) | refine ⟨ss, ?_⟩)
  refine cS (cells_place_ok hr_1) ?_
  refine tt ?_
  refine fv h F (fun h _ F => ?_) (fun h _ F => ?_)
  refine by_ h F fun x_2 h hx_2 F => ?_
  cases h; exact fin
  cases h; exact fin
theorem ints_bit_ok {b : Bool} {r : Int} (h : ints_bit b = some r) :
    Pu Try.prog 91 [.one (.bool b)] (.one (.int .i64 r)) := by
  have F := trivial; have R := trivial
  refine pA Try.func91 ?_
  simp only [Try.f91]
  unfold ints_bit at h
  refine fv h F (fun h _ F => ?_) (fun h _ F => ?_)
  cases h; exact fin
  cases h; exact fin
theorem ints_Wrap_ok {kind : Int} {n : Int} {r : Int} (h : ints_Wrap kind n = some r) :
    Pu Try.prog 69 [.one (.int .i64 kind), .one (.int .i64 n)] (.one (.int .i64 r)) := by
  have F := trivial; have R := trivial
  cases h
  refine pA Try.func69 ?_
  simp only [Try.f69]
  refine tt ?_
  rcases kinds kind with rfl | rfl | rfl | rfl | ⟨h1, h2, h3, h4⟩
  · refine cS (ints_Bits_ok (show ints_Bits 1 = some 1 by simp [ints_Bits])) ?_
    refine tt ?_
    refine cS (ints_bit_ok (show ints_bit (!decide (n = 0)) = some (wrapS 1 n) by by_cases hn : n = 0 <;> simp [ints_bit, wrapS, hn])) ?_
    exact fin
  · refine cS (ints_Bits_ok (show ints_Bits 2 = some 16 by simp [ints_Bits])) ?_
    refine tt ?_
    iterate 6
      refine scope_S (by rfl) (by kernel_rfl) ?_
      refine tt ?_
    rw [wrap_2]
    simp only [show ∀ n : Int, IntKind.i64.wrap n = _ from w64_eq]
    rw [Int.fdiv_eq_ediv_of_nonneg _ (by decide)]
    simp only [V.one.injEq, C.int.injEq, true_and]
    omega
  · refine cS (ints_Bits_ok (show ints_Bits 3 = some 32 by simp [ints_Bits])) ?_
    refine tt ?_
    iterate 4
      refine scope_S (by rfl) (by kernel_rfl) ?_
      refine tt ?_
    rw [wrap_3]
    simp only [show ∀ n : Int, IntKind.i64.wrap n = _ from w64_eq]
    rw [Int.fdiv_eq_ediv_of_nonneg _ (by decide)]
    simp only [V.one.injEq, C.int.injEq, true_and]
    omega
  · refine cS (ints_Bits_ok (show ints_Bits 4 = some 32 by simp [ints_Bits])) ?_
    refine tt ?_
    iterate 4
      refine scope_S (by rfl) (by kernel_rfl) ?_
      refine tt ?_
    rw [wrap_4]
    simp only [show ∀ n : Int, IntKind.i64.wrap n = _ from w64_eq]
    rw [Int.fdiv_eq_ediv_of_nonneg _ (by decide)]
    simp only [V.one.injEq, C.int.injEq, true_and]
    omega
  · refine cS (ints_Bits_ok (show ints_Bits kind = some 0 by simp [ints_Bits, h1, h2, h3, h4])) ?_
    rw [wrap_o h1 h2 h3 h4]
    have F := And.intro (eq_false h1) F
    exact fin
theorem cells_Set_ok {t : api_Type} {cells : List Int} {i : Int} {v : Int} {r : (List Int) × Int} (h : cells_Set t cells i v = some r) :
    Pu Try.prog 29 [.agg (e_api_Type t), .one (.sl (cells.map eI)), .one (.int .i64 i), .one (.int .i64 v)] (.tup [.one (.sl (r.1.map eI)), .one (.int .i64 r.2)]) := by
  have F := trivial; have R := trivial
  refine pA Try.func29 ?_
  simp only [Try.f29]
  unfold cells_Set at h
  refine nd h F fun h F => ?_
  have R := And.intro (show List.replicate cells.length [.int .i64 0] = List.map eI (List.replicate cells.length 0) by simp [go_sem]) R
  refine bi h fun r_2 h hr_2 => ?_
  refine tt ?_
  repeat (first | (with_reducible intro _) | refine ⟨ss, ?_⟩)
  refine cS (cells_place_ok hr_2) ?_
  refine tt ?_
  refine fv h F (fun h _ F => ?_) (fun h _ F => ?_)
  refine bi h fun r_3 h hr_3 => ?_
  refine tt ?_
  repeat (first | (with_reducible intro _) | refine ⟨ss, ?_⟩)
  refine cS (ints_Wrap_ok hr_3) ?_
  refine by_ h F fun x_4 h hx_4 F => ?_
  have R := And.intro (show (List.map eI cells).set r_2.1.toNat [.int .i64 r_3] = List.map eI (cells.set r_2.1.toNat r_3) by simp [go_sem, List.map_set]) R
  cases h; exact fin
  cases h; exact fin
theorem lazarettolaw04_awake_ok {r : Bool} (h : lazarettolaw04_awake = some r) :
    Pu Try.prog 26 [] (.one (.bool r)) := by
  have F := trivial; have R := trivial
  refine pA Try.func26 ?_
  simp only [Try.f26]
  unfold lazarettolaw04_awake at h
  refine bi h fun r_1 h hr_1 => ?_
  refine tt ?_
  repeat (first | (with_reducible intro _) | refine ⟨ss, ?_⟩)
  refine cS (cells_Get_ok hr_1) ?_
  refine bi h fun r_2 h hr_2 => ?_
  refine tt ?_
  repeat (first | (with_reducible intro _) | refine ⟨ss, ?_⟩)
  refine cS (cells_Get_ok hr_2) ?_
  refine bi h fun r_3 h hr_3 => ?_
  refine tt ?_
  repeat (first | (with_reducible intro _) | refine ⟨ss, ?_⟩)
  refine cS (cells_Set_ok hr_3) ?_
  refine tt ?_
  refine fi h F (fun h _ F => ?_) (fun h _ F => ?_)
  refine fi h F (fun h _ F => ?_) (fun h _ F => ?_)
  refine tt ?_
  refine fi h F (fun h _ F => ?_) (fun h _ F => ?_)
  refine fi h F (fun h _ F => ?_) (fun h _ F => ?_)
  refine tt ?_
  refine fi h F (fun h _ F => ?_) (fun h _ F => ?_)
  refine bi h fun r_4 h hr_4 => ?_
  refine tt ?_
  repeat (first | (with_reducible intro _) | refine ⟨ss, ?_⟩)
  refine cS (lazarettoref04_Ints_ok hr_4) ?_
  refine fv h F (fun h _ F => ?_) (fun h _ F => ?_)
  refine bi h fun r_5 h hr_5 => ?_
  refine tt ?_
  repeat (first | (with_reducible intro _) | refine ⟨ss, ?_⟩)
  refine cS (cells_Size_ok hr_5) ?_
  refine fi h F (fun h _ F => ?_) (fun h _ F => ?_)
  refine bi h fun r_6 h hr_6 => ?_
  refine tt ?_
  repeat (first | (with_reducible intro _) | refine ⟨ss, ?_⟩)
  refine cS (cells_Check_ok hr_6) ?_
  refine fi h F (fun h _ F => ?_) (fun h _ F => ?_)
  refine bi h fun r_7 h hr_7 => ?_
  refine tt ?_
  repeat (first | (with_reducible intro _) | refine ⟨ss, ?_⟩)
  refine cS (cells_Zero_ok hr_7) ?_
  cases h; exact fin
  cases h; exact fin
  cases h; exact fin
  cases h; exact fin
  cases h; exact fin
  cases h; exact fin
  cases h; exact fin
  cases h; exact fin
  cases h; exact fin
theorem lazarettolaw04_CellsTypes_ok {t : api_Type} {r : Bool} (h : lazarettolaw04_CellsTypes t = some r) :
    Pu Try.prog 3 [.agg (e_api_Type t)] (.one (.bool r)) := by
  have F := trivial; have R := trivial
  refine pA Try.func3 ?_
  simp only [Try.f3]
  unfold lazarettolaw04_CellsTypes at h
  refine bi h fun r_1 h hr_1 => ?_
  refine tt ?_
  repeat (first | (with_reducible intro _) | refine ⟨ss, ?_⟩)
  refine cD (cells_Check_ok hr_1) ?_
  refine bi h fun r_2 h hr_2 => ?_
  refine tt ?_
  repeat (first | (with_reducible intro _) | refine ⟨ss, ?_⟩)
  refine cD (lazarettoref04_Check_ok hr_2) ?_
  refine tt ?_
  repeat (first | (with_reducible intro _) | refine ⟨ss, ?_⟩)
  refine fi h F (fun h _ F => ?_) (fun h _ F => ?_)
  refine bi h fun r_3 h hr_3 => ?_
  refine tt ?_
  repeat (first | (with_reducible intro _) | refine ⟨ss, ?_⟩)
  refine cD (cells_Size_ok hr_3) ?_
  refine bi h fun r_4 h hr_4 => ?_
  refine tt ?_
  repeat (first | (with_reducible intro _) | refine ⟨ss, ?_⟩)
  refine cD (lazarettoref04_Size_ok hr_4) ?_
  refine tt ?_
  repeat (first | (with_reducible intro _) | refine ⟨ss, ?_⟩)
  refine fi h F (fun h _ F => ?_) (fun h _ F => ?_)
  refine bi h fun r_5 h hr_5 => ?_
  refine tt ?_
  repeat (first | (with_reducible intro _) | refine ⟨ss, ?_⟩)
  refine cD (cells_Zero_ok hr_5) ?_
  refine bi h fun r_6 h hr_6 => ?_
  refine tt ?_
  repeat (first | (with_reducible intro _) | refine ⟨ss, ?_⟩)
  refine cD (lazarettoref04_Zero_ok hr_6) ?_
  refine bi h fun r_7 h hr_7 => ?_
  refine tt ?_
  repeat (first | (with_reducible intro _) | refine ⟨ss, ?_⟩)
  refine cD (lazarettoref04_Ints_ok hr_7) ?_
  refine tt ?_
  repeat (first | (with_reducible intro _) | refine ⟨ss, ?_⟩)
  refine fv h F (fun h _ F => ?_) (fun h _ F => ?_)
  refine bi h fun r_8 h hr_8 => ?_
  refine tt ?_
  repeat (first | (with_reducible intro _) | refine ⟨ss, ?_⟩)
  refine cD (lazarettolaw04_awake_ok hr_8) ?_
  cases h; exact fin
  cases h; exact fin
  cases h; exact fin
  cases h; exact fin
theorem lazarettoref04_place_ok {t : api_Type} {cells : List Int} {i : Int} {r : Int} (h : lazarettoref04_place t cells i = some r) :
    Pu Try.prog 68 [.agg (e_api_Type t), .one (.sl (cells.map eI)), .one (.int .i64 i)] (.one (.int .i64 r)) := by
  have F := trivial; have R := trivial
  refine pA Try.func68 ?_
  simp only [Try.f68]
  unfold lazarettoref04_place at h
  refine bi h fun r_1 h hr_1 => ?_
  refine tt ?_
  repeat (first | (with_reducible intro _) | refine ⟨ss, ?_⟩)
  refine cS (lazarettoref04_Check_ok hr_1) ?_
  refine fi h F (fun h _ F => ?_) (fun h _ F => ?_)
  refine bi h fun r_2 h hr_2 => ?_
  refine tt ?_
  repeat (first | (with_reducible intro _) | refine ⟨ss, ?_⟩)
  refine cS (lazarettoref04_Size_ok hr_2) ?_
  refine fi h F (fun h _ F => ?_) (fun h _ F => ?_)
  refine fi h F (fun h _ F => ?_) (fun h _ F => ?_)
  cases h; exact fin
  refine tt ?_
  refine fi h F (fun h _ F => ?_) (fun h _ F => ?_)
  cases h; exact fin
  refine tt ?_
  refine fi h F (fun h _ F => ?_) (fun h _ F => ?_)
  cases h; exact fin
  cases h; exact fin
  cases h; exact fin
  cases h; exact fin
theorem lazarettoref04_Get_ok {t : api_Type} {cells : List Int} {i : Int} {r : Int × Int} (h : lazarettoref04_Get t cells i = some r) :
    Pu Try.prog 28 [.agg (e_api_Type t), .one (.sl (cells.map eI)), .one (.int .i64 i)] (.tup [.one (.int .i64 r.1), .one (.int .i64 r.2)]) := by
  have F := trivial; have R := trivial
  refine pA Try.func28 ?_
  simp only [Try.f28]
  unfold lazarettoref04_Get at h
  refine bi h fun r_1 h hr_1 => ?_
  refine tt ?_
  repeat (first | (with_reducible intro _) | refine ⟨ss, ?_⟩)
  refine cS (lazarettoref04_place_ok hr_1) ?_
  refine fi h F (fun h _ F => ?_) (fun h _ F => ?_)
  cases h; exact fin
  refine by_ h F fun x_2 h hx_2 F => ?_
  cases h; exact fin
theorem lazarettolaw04_CellsGets_ok {t : api_Type} {l : List Int} {i : Int} {r : Bool} (h : lazarettolaw04_CellsGets t l i = some r) :
    Pu Try.prog 4 [.agg (e_api_Type t), .one (.sl (l.map eI)), .one (.int .i64 i)] (.one (.bool r)) := by
  have F := trivial; have R := trivial
  refine pA Try.func4 ?_
  simp only [Try.f4]
  unfold lazarettolaw04_CellsGets at h
  refine bi h fun r_1 h hr_1 => ?_
  refine tt ?_
  repeat (first | (with_reducible intro _) | refine ⟨ss, ?_⟩)
  refine cS (cells_Get_ok hr_1) ?_
  refine bi h fun r_2 h hr_2 => ?_
  refine tt ?_
  repeat (first | (with_reducible intro _) | refine ⟨ss, ?_⟩)
  refine cS (lazarettoref04_Get_ok hr_2) ?_
  refine tt ?_
  refine fi h F (fun h _ F => ?_) (fun h _ F => ?_)
  refine fi h F (fun h _ F => ?_) (fun h _ F => ?_)
  refine bi h fun r_3 h hr_3 => ?_
  refine tt ?_
  repeat (first | (with_reducible intro _) | refine ⟨ss, ?_⟩)
  refine cS (lazarettolaw04_awake_ok hr_3) ?_
  cases h; exact fin
  cases h; exact fin
  cases h; exact fin
theorem lazarettoref03_half_ok {kind : Int} {r : Int} (h : lazarettoref03_half kind = some r) :
    Pu Try.prog 81 [.one (.int .i64 kind)] (.one (.int .i64 r)) := by
  have F := trivial; have R := trivial
  refine pA Try.func81 ?_
  simp only [Try.f81]
  unfold lazarettoref03_half at h
  refine fi h F (fun h _ F => ?_) (fun h _ F => ?_)
  cases h; exact fin
  cases h; exact fin
theorem lazarettoref03_Wrap_ok {kind : Int} {n : Int} {r : Int} (h : lazarettoref03_Wrap kind n = some r) :
    Pu Try.prog 59 [.one (.int .i64 kind), .one (.int .i64 n)] (.one (.int .i64 r)) := by
  have F := trivial; have R := trivial
  refine pA Try.func59 ?_
  simp only [Try.f59]
  unfold lazarettoref03_Wrap at h
  refine bi h fun r_1 h hr_1 => ?_
  refine tt ?_
  repeat (first | (with_reducible intro _) | refine ⟨ss, ?_⟩)
  refine cS (lazarettoref03_Bits_ok hr_1) ?_
  refine fi h F (fun h _ F => ?_) (fun h _ F => ?_)
  cases h; exact fin
  refine fi h F (fun h _ F => ?_) (fun h _ F => ?_)
  refine fi h F (fun h _ F => ?_) (fun h _ F => ?_)
  cases h; exact fin
  cases h; exact fin
  refine bi h fun r_2 h hr_2 => ?_
  refine tt ?_
  repeat (first | (with_reducible intro _) | refine ⟨ss, ?_⟩)
  refine cS (lazarettoref03_half_ok hr_2) ?_
  refine nd h F fun h F => ?_
  refine tt ?_
  repeat (first | (with_reducible intro _) | refine ⟨ss, ?_⟩)
  refine fi h F (fun h _ F => ?_) (fun h _ F => ?_)
  refine tt ?_
  refine fi h F (fun h _ F => ?_) (fun h _ F => ?_)
  cases h; exact fin
  cases h; exact fin
  refine fi h F (fun h _ F => ?_) (fun h _ F => ?_)
  cases h; exact fin
  cases h; exact fin
theorem lazarettoref04_Set_ok {t : api_Type} {cells : List Int} {i : Int} {v : Int} {r : (List Int) × Int} (h : lazarettoref04_Set t cells i v = some r) :
    Pu Try.prog 30 [.agg (e_api_Type t), .one (.sl (cells.map eI)), .one (.int .i64 i), .one (.int .i64 v)] (.tup [.one (.sl (r.1.map eI)), .one (.int .i64 r.2)]) := by
  have F := trivial; have R := trivial
  refine pA Try.func30 ?_
  simp only [Try.f30]
  unfold lazarettoref04_Set at h
  refine bi h fun r_1 h hr_1 => ?_
  refine tt ?_
  repeat (first | (with_reducible intro _) | refine ⟨ss, ?_⟩)
  refine cS (lazarettoref04_place_ok hr_1) ?_
  refine tt ?_
  repeat (first | (with_reducible intro _) | refine ⟨ss, ?_⟩)
  refine fv h F (fun h _ F => ?_) (fun h _ F => ?_)
  refine tt ?_
  repeat (first | (with_reducible intro _) | refine ⟨ss, ?_⟩)
  refine fi h F (fun h _ F => ?_) (fun h _ F => ?_)
  cases h; exact fin
  refine bi h fun r_2 h hr_2 => ?_
  refine tt ?_
  repeat (first | (with_reducible intro _) | refine ⟨ss, ?_⟩)
  refine cS (lazarettoref03_Wrap_ok hr_2) ?_
  cases h
  refine nd h F fun h F => ?_
  refine tt ?_
  repeat (first | (with_reducible intro _) | refine ⟨ss, ?_⟩)
  refine fi h F (fun h _ F => ?_) (fun h _ F => ?_)
  cases h; exact fin
  refine bi h fun r_4 h hr_4 => ?_
  refine tt ?_
  repeat (first | (with_reducible intro _) | refine ⟨ss, ?_⟩)
  refine cS (lazarettoref03_Wrap_ok hr_4) ?_
  refine by_ h F fun x_5 h hx_5 F => ?_
  have R := And.intro (show (List.map eI cells).set r_1.toNat [.int .i64 r_4] = List.map eI (cells.set r_1.toNat r_4) by simp [go_sem, List.map_set]) R
  cases h; exact fin
theorem lazarettolaw04_CellsSets_ok {t : api_Type} {l : List Int} {n : A2 Int} {r : Bool} (h : lazarettolaw04_CellsSets t l n = some r) :
    Pu Try.prog 5 [.agg (e_api_Type t), .one (.sl (l.map eI)), .agg ((eA2 eI) n)] (.one (.bool r)) := by
  have F := trivial; have R := trivial
  refine pA Try.func5 ?_
  simp only [Try.f5]
  unfold lazarettolaw04_CellsSets at h
  refine tt ?_
  repeat (first | (with_reducible intro _) | refine ⟨ss, ?_⟩)
  refine fi h F (fun h _ F => ?_) (fun h _ F => ?_)
  refine bi h fun r_1 h hr_1 => ?_
  refine tt ?_
  repeat (first | (with_reducible intro _) | refine ⟨ss, ?_⟩)
  refine cS (lazarettolaw04_awake_ok hr_1) ?_
  cases h; exact fin
  refine bi h fun r_2 h hr_2 => ?_
  refine tt ?_
  repeat (first | (with_reducible intro _) | refine ⟨ss, ?_⟩)
  refine cS (cells_Set_ok hr_2) ?_
  refine bi h fun r_3 h hr_3 => ?_
  refine tt ?_
  repeat (first | (with_reducible intro _) | refine ⟨ss, ?_⟩)
  refine cS (lazarettoref04_Set_ok hr_3) ?_
  refine bi h fun r_4 h hr_4 => ?_
  refine tt ?_
  repeat (first | (with_reducible intro _) | refine ⟨ss, ?_⟩)
  refine cS (lazarettoref04_Ints_ok hr_4) ?_
  refine fv h F (fun h _ F => ?_) (fun h _ F => ?_)
  refine fi h F (fun h _ F => ?_) (fun h _ F => ?_)
  refine bi h fun r_5 h hr_5 => ?_
  refine tt ?_
  repeat (first | (with_reducible intro _) | refine ⟨ss, ?_⟩)
  refine cS (lazarettolaw04_awake_ok hr_5) ?_
  cases h; exact fin
  cases h; exact fin
  cases h; exact fin
theorem lazarettolaw04_CellsBack_ok {t : api_Type} {n : A3 Int} {r : Bool} (h : lazarettolaw04_CellsBack t n = some r) :
    Pu Try.prog 6 [.agg (e_api_Type t), .agg ((eA3 eI) n)] (.one (.bool r)) := by
  have F := trivial; have R := trivial
  refine pA Try.func6 ?_
  simp only [Try.f6]
  unfold lazarettolaw04_CellsBack at h
  refine bi h fun r_1 h hr_1 => ?_
  refine tt ?_
  repeat (first | (with_reducible intro _) | refine ⟨ss, ?_⟩)
  refine cS (cells_Zero_ok hr_1) ?_
  refine bi h fun r_2 h hr_2 => ?_
  refine tt ?_
  repeat (first | (with_reducible intro _) | refine ⟨ss, ?_⟩)
  refine cS (cells_Set_ok hr_2) ?_
  refine tt ?_
  refine fi h F (fun h _ F => ?_) (fun h _ F => ?_)
  refine bi h fun r_3 h hr_3 => ?_
  refine tt ?_
  repeat (first | (with_reducible intro _) | refine ⟨ss, ?_⟩)
  refine cS (cells_Get_ok hr_3) ?_
  refine bi h fun r_4 h hr_4 => ?_
  refine tt ?_
  repeat (first | (with_reducible intro _) | refine ⟨ss, ?_⟩)
  refine cS (cells_Get_ok hr_4) ?_
  refine tt ?_
  refine fi h F (fun h _ F => ?_) (fun h _ F => ?_)
  refine tt ?_
  repeat (first | (with_reducible intro _) | refine ⟨ss, ?_⟩)
  refine fi h F (fun h _ F => ?_) (fun h _ F => ?_)
  refine tt ?_
  repeat (first | (with_reducible intro _) | refine ⟨ss, ?_⟩)
  refine fi h F (fun h _ F => ?_) (fun h _ F => ?_)
  refine fi h F (fun h _ F => ?_) (fun h _ F => ?_)
  refine tt ?_
  refine fi h F (fun h _ F => ?_) (fun h _ F => ?_)
  refine bi h fun r_5 h hr_5 => ?_
  refine tt ?_
  repeat (first | (with_reducible intro _) | refine ⟨ss, ?_⟩)
  refine cS (lazarettolaw04_awake_ok hr_5) ?_
  cases h; exact fin
  refine bi h fun r_6 h hr_6 => ?_
  refine tt ?_
  repeat (first | (with_reducible intro _) | refine ⟨ss, ?_⟩)
  refine cS (lazarettolaw04_awake_ok hr_6) ?_
  cases h; exact fin
  cases h; exact fin
  refine fi h F (fun h _ F => ?_) (fun h _ F => ?_)
  refine tt ?_
  repeat (first | (with_reducible intro _) | refine ⟨ss, ?_⟩)
  refine fi h F (fun h _ F => ?_) (fun h _ F => ?_)
  refine bi h fun r_7 h hr_7 => ?_
  refine tt ?_
  repeat (first | (with_reducible intro _) | refine ⟨ss, ?_⟩)
  refine cS (lazarettolaw04_awake_ok hr_7) ?_
  cases h; exact fin
  refine fi h F (fun h _ F => ?_) (fun h _ F => ?_)
  refine bi h fun r_8 h hr_8 => ?_
  refine tt ?_
  repeat (first | (with_reducible intro _) | refine ⟨ss, ?_⟩)
  refine cS (lazarettolaw04_awake_ok hr_8) ?_
  cases h; exact fin
  cases h; exact fin
  refine bi h fun r_9 h hr_9 => ?_
  refine tt ?_
  repeat (first | (with_reducible intro _) | refine ⟨ss, ?_⟩)
  refine cS (lazarettolaw04_awake_ok hr_9) ?_
  cases h; exact fin
  cases h; exact fin
  cases h; exact fin
  refine bi h fun r_10 h hr_10 => ?_
  refine tt ?_
  repeat (first | (with_reducible intro _) | refine ⟨ss, ?_⟩)
  refine cS (cells_Get_ok hr_10) ?_
  refine tt ?_
  refine fi h F (fun h _ F => ?_) (fun h _ F => ?_)
  refine bi h fun r_11 h hr_11 => ?_
  refine tt ?_
  repeat (first | (with_reducible intro _) | refine ⟨ss, ?_⟩)
  refine cS (lazarettoref04_Ints_ok hr_11) ?_
  refine fv h F (fun h _ F => ?_) (fun h _ F => ?_)
  refine bi h fun r_12 h hr_12 => ?_
  refine tt ?_
  repeat (first | (with_reducible intro _) | refine ⟨ss, ?_⟩)
  refine cS (lazarettolaw04_awake_ok hr_12) ?_
  cases h; exact fin
  cases h; exact fin
  cases h; exact fin
theorem lazarettolaw04_CellsAll_ok {t : api_Type} {i : Int} {r : Bool} (h : lazarettolaw04_CellsAll t i = some r) :
    Pu Try.prog 7 [.agg (e_api_Type t), .one (.int .i64 i)] (.one (.bool r)) := by
  have F := trivial; have R := trivial
  refine pA Try.func7 ?_
  simp only [Try.f7]
  unfold lazarettolaw04_CellsAll at h
  refine bi h fun r_1 h hr_1 => ?_
  refine tt ?_
  repeat (first | (with_reducible intro _) | refine ⟨ss, ?_⟩)
  refine cD (cells_Zero_ok hr_1) ?_
  refine bi h fun r_2 h hr_2 => ?_
  refine tt ?_
  repeat (first | (with_reducible intro _) | refine ⟨ss, ?_⟩)
  refine cD (cells_Get_ok hr_2) ?_
  refine bi h fun r_3 h hr_3 => ?_
  refine tt ?_
  repeat (first | (with_reducible intro _) | refine ⟨ss, ?_⟩)
  refine cS (lazarettoref04_Check_ok hr_3) ?_
  refine fi h F (fun h _ F => ?_) (fun h _ F => ?_)
  refine fi h F (fun h _ F => ?_) (fun h _ F => ?_)
  refine tt ?_
  refine fi h F (fun h _ F => ?_) (fun h _ F => ?_)
  refine bi h fun r_4 h hr_4 => ?_
  refine tt ?_
  repeat (first | (with_reducible intro _) | refine ⟨ss, ?_⟩)
  refine cS (lazarettolaw04_awake_ok hr_4) ?_
  cases h; exact fin
  cases h; exact fin
  refine tt ?_
  refine fi h F (fun h _ F => ?_) (fun h _ F => ?_)
  refine tt ?_
  refine fv h F (fun h _ F => ?_) (fun h _ F => ?_)
  refine bi h fun r_5 h hr_5 => ?_
  refine tt ?_
  repeat (first | (with_reducible intro _) | refine ⟨ss, ?_⟩)
  refine cS (lazarettolaw04_awake_ok hr_5) ?_
  cases h; exact fin
  cases h; exact fin
  refine tt ?_
  refine fi h F (fun h _ F => ?_) (fun h _ F => ?_)
  cases h; exact fin
  refine bi h fun r_6 h hr_6 => ?_
  refine tt ?_
  repeat (first | (with_reducible intro _) | refine ⟨ss, ?_⟩)
  refine cS (lazarettolaw04_awake_ok hr_6) ?_
  cases h; exact fin
  refine fi h F (fun h _ F => ?_) (fun h _ F => ?_)
  refine bi h fun r_7 h hr_7 => ?_
  refine tt ?_
  repeat (first | (with_reducible intro _) | refine ⟨ss, ?_⟩)
  refine cS (lazarettolaw04_awake_ok hr_7) ?_
  cases h; exact fin
  cases h; exact fin
end Go.Lz
