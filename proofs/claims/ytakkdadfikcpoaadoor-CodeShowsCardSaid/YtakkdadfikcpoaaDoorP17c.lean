/- P17c: the reference asks, writes and reads the same of instructions. -/
import Derived.Test.YtakkdadfikcpoaaDoorP17b
import Derived.Test.YtakkdadfikcpoaaDoorV17r
namespace Go.Lz
set_option linter.unusedVariables false
set_option linter.unusedSimpArgs false
set_option maxRecDepth 100000
theorem loop_self {n : Nat} {f : Nat → Option (Nat ⊕ (Bool ⊕ Unit))} (step : ∀ i, i < n → f i = some (.inl (i + 1))) (last : f n = some (.inr (.inr ()))) : loop f 0 = some (.inr ()) := loop_for (fun i => i) n _ step last
theorem ins_self (l : List api_Ins) : lazarettoref17_Same l l = some true := by
  unfold lazarettoref17_Same
  rw [if_pos rfl, loop_self (n := l.length) (fun i hi => by simp [lazarettoref17_Same_L1, hi]) (by simp [lazarettoref17_Same_L1])]; rfl
theorem ite_dec {c p : Prop} [Decidable c] [Decidable p] : (if c then some (decide p) else some false) = some (decide (c ∧ p)) := by by_cases h : c <;> simp [h]
theorem names2 (op : Int) : ∃ (k : Int) (a b l : Bool), code_names op = some k ∧ lazarettoref17_names op = some (a, b, l) ∧ ((w64 (andI .i64 k 1) = 0) ↔ a = false) ∧ ((w64 (andI .i64 k 2) = 0) ↔ b = false) ∧ ((w64 (andI .i64 k 4) = 0) ↔ l = false) := by
  unfold code_names lazarettoref17_names
  by_cases h1 : op = 1
  · rw [if_pos h1, if_pos h1]; exact ⟨3, true, true, false, rfl, rfl, by decide, by decide, by decide⟩
  rw [if_neg h1, if_neg h1]
  by_cases h1 : op = 7
  · rw [if_pos h1, if_pos h1]; exact ⟨3, true, true, false, rfl, rfl, by decide, by decide, by decide⟩
  rw [if_neg h1, if_neg h1]
  by_cases h1 : op = 2
  · rw [if_pos h1, if_pos h1]; exact ⟨1, true, false, false, rfl, rfl, by decide, by decide, by decide⟩
  rw [if_neg h1, if_neg h1]
  by_cases h1 : op = 4
  · rw [if_pos h1, if_pos h1]; exact ⟨1, true, false, false, rfl, rfl, by decide, by decide, by decide⟩
  rw [if_neg h1, if_neg h1]
  by_cases h1 : op = 8
  · rw [if_pos h1, if_pos h1]; exact ⟨1, true, false, false, rfl, rfl, by decide, by decide, by decide⟩
  rw [if_neg h1, if_neg h1]
  by_cases h1 : op = 9
  · rw [if_pos h1, if_pos h1]; exact ⟨1, true, false, false, rfl, rfl, by decide, by decide, by decide⟩
  rw [if_neg h1, if_neg h1]
  by_cases h1 : op = 3
  · rw [if_pos h1, if_pos h1]; exact ⟨5, true, false, true, rfl, rfl, by decide, by decide, by decide⟩
  rw [if_neg h1, if_neg h1]
  by_cases h1 : op = 5
  · rw [if_pos h1, if_pos h1]; exact ⟨5, true, false, true, rfl, rfl, by decide, by decide, by decide⟩
  rw [if_neg h1, if_neg h1]
  by_cases h1 : op = 6
  · rw [if_pos h1, if_pos h1]; exact ⟨7, true, true, true, rfl, rfl, by decide, by decide, by decide⟩
  rw [if_neg h1, if_neg h1]
  by_cases h1 : op = 15
  · rw [if_pos h1, if_pos h1]; exact ⟨7, true, true, true, rfl, rfl, by decide, by decide, by decide⟩
  rw [if_neg h1, if_neg h1]
  by_cases h1 : op = 10
  · rw [if_pos h1, if_pos h1]; exact ⟨4, false, false, true, rfl, rfl, by decide, by decide, by decide⟩
  rw [if_neg h1, if_neg h1]
  by_cases h1 : op = 11
  · rw [if_pos h1, if_pos h1]; exact ⟨4, false, false, true, rfl, rfl, by decide, by decide, by decide⟩
  rw [if_neg h1, if_neg h1]
  by_cases h1 : op = 14
  · rw [if_pos h1, if_pos h1]; exact ⟨4, false, false, true, rfl, rfl, by decide, by decide, by decide⟩
  rw [if_neg h1, if_neg h1]
  exact ⟨0, false, false, false, rfl, rfl, by decide, by decide, by decide⟩
theorem one_eq (i : api_Ins) : lazarettoref17_one i = code_may i := by
  obtain ⟨k, a, b, l, h1, h2, h3, h4, h5⟩ := names2 i.Op
  unfold lazarettoref17_one code_may
  rw [h1, h2, Option.bind_some, Option.bind_some]
  simp only [h3, h4, h5]
  cases a <;> cases b <;> cases l <;> simp only [ite_dec, reduceCtorEq, if_true, if_false] <;> congr 1 <;> rw [decide_eq_decide] <;> omega
theorem refCheckC (l : List api_Ins) : lazarettoref17_Check l = some (codeC l) := by
  unfold lazarettoref17_Check codeC
  by_cases h : 32768 < l.length
  · rw [if_pos (by omega), if_pos h]
  rw [if_neg (by omega), if_neg h]
  have := loop_all (xs := l) (p := mayB) (f := lazarettoref17_Check_L1 l) (a := .inl 8) (b := .inr ()) (fun i hi => by
    simp only [lazarettoref17_Check_L1]
    rw [if_pos (by omega), List.getElem?_eq_getElem hi, Option.bind_some, one_eq, may_ok, Option.bind_some]
    split <;> rfl) (by simp [lazarettoref17_Check_L1])
  rw [this]
  by_cases ha : l.all mayB = true
  · rw [if_pos ha, if_neg (by
      simp only [List.any_eq_true, not_exists, not_and]
      intro x hx
      simp [List.all_eq_true.1 ha x hx])]
    rfl
  · rw [if_neg ha, if_pos (by
      simp only [List.all_eq_true, Classical.not_forall] at ha
      obtain ⟨x, hx, hn⟩ := ha
      exact List.any_eq_true.2 ⟨x, hx, by simpa using hn⟩)]
    rfl
theorem wu32 (n : Int) : IntKind.u32.wrap n = n % 4294967296 := by
  simp [IntKind.wrap, IntKind.min, IntKind.signed, IntKind.bits]
theorem four_list (n : Int) : [(IntKind.u8.wrap ((IntKind.u32.wrap n).fdiv 16777216)), (IntKind.u8.wrap ((IntKind.u32.wrap n).fdiv 65536)), (IntKind.u8.wrap ((IntKind.u32.wrap n).fdiv 256)), (IntKind.u8.wrap (IntKind.u32.wrap n))] = sBytes (four8 n) := by
  simp only [wu8, wu32, fdiv_n _ (show (0 : Int) ≤ 16777216 by omega), fdiv_n _ (show (0 : Int) ≤ 65536 by omega), fdiv_n _ (show (0 : Int) ≤ 256 by omega)]
  show _ = [((b8 (n / 16777216)).toNat : Int), ((b8 (n / 65536)).toNat : Int), ((b8 (n / 256)).toNat : Int), ((b8 n).toNat : Int)]
  rw [b8_int, b8_int, b8_int, b8_int]
  have e1 : n % 4294967296 / 16777216 % 256 = n / 16777216 % 256 := by omega
  have e2 : n % 4294967296 / 65536 % 256 = n / 65536 % 256 := by omega
  have e3 : n % 4294967296 / 256 % 256 = n / 256 % 256 := by omega
  have e4 : n % 4294967296 % 256 = n % 256 := by omega
  rw [e1, e2, e3, e4]
theorem rFour (n : Int) : lazarettoref17_Four n = some (sBytes (four8 n)) := by
  unfold lazarettoref17_Four; rw [four_list]
theorem rEncode {l : List api_Ins} (h : codeC l = 0) : lazarettoref17_Encode l = some (encCode l) := by
  have hl := (codeC_zero.1 h).1
  unfold lazarettoref17_Encode
  rw [refCheckC, Option.bind_some, if_pos h, four_list]
  rw [loop_app (l := l) (w := encIns) (g := fun b => b) (fun b i hi hb => by
    simp only [lazarettoref17_Encode_L1]
    rw [encIns_len] at hb
    rw [if_pos (by omega), List.getElem?_eq_getElem hi, Option.bind_some, need_of (by rw [sB_len]; omega), need_of (by rw [sB_len]; omega), four_list, sB_app]
    unfold encIns
    rw [sB_app]
    show _ = some (Sum.inl (sBytes b ++ ([((b8 _).toNat : Int), ((b8 _).toNat : Int), ((b8 _).toNat : Int)] ++ _), _))
    rw [b8_int, b8_int, b8_int, wu8, wu8, wu8, List.append_assoc]) (fun b => by simp only [lazarettoref17_Encode_L1]; rw [if_neg (by omega)]) _ (by
      rw [flat_len l fun x _ => encIns_len x, four8_len]; omega)]
  rw [Option.bind_some, iB_sB]
  rfl
theorem or_nat32 {a b : Nat} (ha : a < 2 ^ 32) (hb : b < 2 ^ 32) : orI .u32 (a : Int) (b : Int) = ((a ||| b : Nat) : Int) := by
  unfold orI
  rw [BitVec.toNat_or]
  simp only [BitVec.toNat_ofInt, IntKind.bits]
  rw [show ((a : Int) % ((2 ^ 32 : Nat) : Int)).toNat = a by omega, show ((b : Int) % ((2 ^ 32 : Nat) : Int)).toNat = b by omega]
theorem or32 {n m k : Nat} (i : Nat) (h : m < 2 ^ i) (hk : k = n * 2 ^ i) (hn : k + m < 4294967296) : IntKind.u32.wrap (orI .u32 (k : Int) (m : Int)) = ((k + m : Nat) : Int) := by
  subst hk
  rw [or_nat32 (by omega) (by omega), ← Nat.shiftLeft_eq, ← Nat.shiftLeft_add_eq_or_of_lt h, Nat.shiftLeft_eq, wu32]
  omega
theorem rBack_ok (a b c d : UInt8) (s : Str) : lazarettoref17_Back (a :: b :: c :: d :: s) = some (backv a b c d) := by
  have ha := a.toNat_lt
  have hb := b.toNat_lt
  have hc := c.toNat_lt
  have hd := d.toNat_lt
  unfold lazarettoref17_Back
  simp only [List.getElem?_cons_zero, List.getElem?_cons_succ, Option.bind_some]
  have u : ∀ x : UInt8, IntKind.u32.wrap (x.toNat : Int) = x.toNat := fun x => by have := x.toNat_lt; rw [wu32]; omega
  rw [u, u, u, u]
  rw [show IntKind.u32.wrap ((a.toNat : Int) * 16777216) = ((a.toNat * 16777216 : Nat) : Int) by rw [wu32]; omega, show IntKind.u32.wrap ((b.toNat : Int) * 65536) = ((b.toNat * 65536 : Nat) : Int) by rw [wu32]; omega]
  rw [or32 (n := a.toNat) 24 (by omega) (by omega) (by omega)]
  rw [show IntKind.u32.wrap ((c.toNat : Int) * 256) = ((c.toNat * 256 : Nat) : Int) by rw [wu32]; omega]
  rw [or32 (n := a.toNat * 256 + b.toNat) 16 (by omega) (by omega) (by omega)]
  rw [or32 (n := (a.toNat * 256 + b.toNat) * 256 + c.toNat) 8 (by omega) (by omega) (by omega)]
  have w : ∀ n : Int, IntKind.i32.wrap n = (n + 2147483648) % 4294967296 - 2147483648 := fun n => by
    simp [IntKind.wrap, IntKind.min, IntKind.signed, IntKind.bits]; omega
  rw [w, w64_id (by omega) (by omega)]
  have e : (((((a.toNat * 16777216 + b.toNat * 65536 : Nat) + c.toNat * 256 : Nat) + d.toNat : Nat) : Int) + 2147483648) % 4294967296 - 2147483648 = backv a b c d := by
    unfold backv; omega
  exact congrArg some e
theorem rfour_app {s : Str} (h : 4 ≤ s.length) : ∃ n, I32 n ∧ s = four8 n ++ s.drop 4 ∧ lazarettoref17_Back s = some n := by
  match s, h with
  | a :: b :: c :: d :: s, _ => exact ⟨backv a b c d, back_in a b c d, by rw [four_back]; rfl, rBack_ok a b c d s⟩
theorem rBack_four {n : Int} (h : I32 n) (s : Str) : lazarettoref17_Back (four8 n ++ s) = some n := by
  show lazarettoref17_Back (_ :: _ :: _ :: _ :: s) = _
  rw [rBack_ok, back_four h]
theorem rread_step {s : Str} {n k : Nat} {l : List api_Ins} (hk : k < n) (hn : n ≤ 32768) (hs : 4 + 7 * n ≤ s.length) (hl : l.length = k) : lazarettoref17_Read_L1 s n (l, k) = some (.inl (l ++ [decIns (s.drop (4 + 7 * k))], k + 1)) := by
  simp only [lazarettoref17_Read_L1]
  rw [if_pos (by omega)]
  have e : w64 (4 + w64 (7 * (k : Int))) = ((4 + 7 * k : Nat) : Int) := by rw [w64_id (n := 7 * (k : Int)) (by omega) (by omega), w64_id (by omega) (by omega)]; omega
  rw [e, need_of (by omega), Int.toNat_natCast]
  have h7 : 7 ≤ (s.drop (4 + 7 * k)).length := by rw [List.length_drop]; omega
  obtain ⟨a, b, c, d, e, f, g, r, ht⟩ := seven h7
  rw [ht]
  simp only [List.getElem?_cons_zero, List.getElem?_cons_succ, Option.bind_some]
  rw [need_of (by simp; omega)]
  rw [show List.drop 3 (a :: b :: c :: d :: e :: f :: g :: r) = d :: e :: f :: g :: r from rfl, rBack_ok, Option.bind_some, need_of (by omega)]
  have w : ∀ x : UInt8, w64 (x.toNat : Int) = x.toNat := fun x => by have := x.toNat_lt; exact w64_id (by omega) (by omega)
  rw [w, w, w]
  rfl
theorem rread_loop {s : Str} {n : Nat} (hn : n ≤ 32768) (hs : 4 + 7 * n ≤ s.length) : loop (lazarettoref17_Read_L1 s n) ([], 0) = some ((List.range n).map fun k => decIns (s.drop (4 + 7 * k))) := by
  refine loop_for (fun i => ((List.range i).map fun k => decIns (s.drop (4 + 7 * k)), i)) n _ (fun i hi => ?_) (by simp only [lazarettoref17_Read_L1]; rw [if_neg (by omega)])
  rw [rread_step hi hn hs (by simp), range_snoc (g := fun k => decIns (s.drop (4 + 7 * k)))]
theorem rRead_t (s : Str) : Tot (lazarettoref17_Read s) fun r => 0 ≤ r.2.1 ∧ r.2.1 ≤ s.length := by
  unfold lazarettoref17_Read
  refine Tot.ite (fun _ => Tot.mk ⟨by simp, by simp⟩) (fun h4 => ?_)
  obtain ⟨n, hn, hs, hb⟩ := rfour_app (s := s) (by omega)
  rw [hb, Option.bind_some]
  refine Tot.ite (fun _ => Tot.mk ⟨by simp, by simp⟩) (fun h0 => ?_)
  refine Tot.ite (fun _ => Tot.mk ⟨by simp, by simp⟩) (fun h1 => ?_)
  have e : w64 (4 + w64 (7 * n)) = 4 + 7 * n := by rw [w64_id (n := 7 * n) (by omega) (by omega), w64_id (by omega) (by omega)]
  rw [e]
  refine Tot.ite (fun _ => Tot.mk ⟨by simp, by simp⟩) (fun h2 => ?_)
  obtain ⟨k, rfl⟩ := Int.eq_ofNat_of_zero_le (show 0 ≤ n by omega)
  rw [rread_loop (by omega) (by omega), Option.bind_some, refCheckC, Option.bind_some]
  exact Tot.ite (fun _ => Tot.mk (by simp only; omega)) (fun _ => Tot.mk ⟨by simp, by simp⟩)
theorem rRead_fwd {l : List api_Ins} (h : codeC l = 0) (s : Str) : lazarettoref17_Read (encCode l ++ s) = some (l, 4 + 7 * (l.length : Int), 0) := by
  obtain ⟨hl, hm⟩ := codeC_zero.1 h
  have hlen : (encCode l ++ s).length = 4 + 7 * l.length + s.length := by rw [List.length_append, encCode_len]
  unfold lazarettoref17_Read
  rw [if_neg (by omega)]
  have hb : lazarettoref17_Back (encCode l ++ s) = some (l.length : Int) := by
    unfold encCode
    rw [List.append_assoc]
    exact rBack_four ⟨by omega, by omega⟩ _
  rw [hb, Option.bind_some, if_neg (by omega), if_neg (by omega)]
  have e : w64 (4 + w64 (7 * (l.length : Int))) = 4 + 7 * (l.length : Int) := by rw [w64_id (n := 7 * (l.length : Int)) (by omega) (by omega), w64_id (by omega) (by omega)]
  rw [e, if_neg (by omega), rread_loop hl (by omega), Option.bind_some]
  have el : ((List.range l.length).map fun k => decIns ((encCode l ++ s).drop (4 + 7 * k))) = l := by
    refine List.ext_getElem (by simp) fun k h1 h2 => ?_
    rw [List.getElem_map, List.getElem_range]
    have : (encCode l ++ s).drop (4 + 7 * k) = encIns l[k] ++ ((l.drop (k + 1)).flatMap encIns ++ s) := by
      rw [← List.drop_drop]
      unfold encCode
      rw [List.append_assoc, List.drop_left' (four8_len _), drop_flat s k (by omega), drop_cons h2, List.flatMap_cons, List.append_assoc]
    rw [this]
    exact dec_enc (may_in (hm _ (List.getElem_mem h2))) _
  rw [el, refCheckC, Option.bind_some, h, if_pos rfl]
theorem rRead_t2 (s : Str) : Tot (lazarettoref17_Read s) fun r => r.2.2 = 0 → codeC r.1 = 0 ∧ s = encCode r.1 ++ s.drop r.2.1.toNat := by
  unfold lazarettoref17_Read
  refine Tot.ite (fun _ => Tot.mk (fun h => by cases h)) (fun h4 => ?_)
  obtain ⟨n, hn, hs, hb⟩ := rfour_app (s := s) (by omega)
  rw [hb, Option.bind_some]
  refine Tot.ite (fun _ => Tot.mk (fun h => by cases h)) (fun h0 => ?_)
  refine Tot.ite (fun _ => Tot.mk (fun h => by cases h)) (fun h1 => ?_)
  have e : w64 (4 + w64 (7 * n)) = 4 + 7 * n := by rw [w64_id (n := 7 * n) (by omega) (by omega), w64_id (by omega) (by omega)]
  rw [e]
  refine Tot.ite (fun _ => Tot.mk (fun h => by cases h)) (fun h2 => ?_)
  obtain ⟨k, rfl⟩ := Int.eq_ofNat_of_zero_le (show 0 ≤ n by omega)
  rw [rread_loop (by omega) (by omega), Option.bind_some, refCheckC, Option.bind_some]
  refine Tot.ite (fun hc => Tot.mk fun _ => ⟨hc, ?_⟩) (fun _ => Tot.mk (fun h => by cases h))
  unfold encCode
  simp only
  rw [read_flat k (by omega), show (4 + 7 * (k : Int)).toNat = 4 + 7 * k by omega]
  simp only [List.length_map, List.length_range]
  rw [List.append_assoc, show s.drop (4 + 7 * k) = (s.drop 4).drop (7 * k) by rw [List.drop_drop], List.take_append_drop]
  exact hs
end Go.Lz
