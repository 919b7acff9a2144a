/- P17b: instructions are read as they were written, and what is read was written so. -/
import Derived.Test.YtakkdadfikcpoaaDoorP17
namespace Go.Lz
set_option linter.unusedVariables false
set_option linter.unusedSimpArgs false
def decIns : Str → api_Ins
  | a :: b :: c :: d :: e :: f :: g :: _ => ⟨(a.toNat : Int), backv d e f g, (c.toNat : Int), (b.toNat : Int)⟩
  | _ => ⟨0, 0, 0, 0⟩
theorem seven {t : Str} (h : 7 ≤ t.length) : ∃ a b c d e f g r, t = a :: b :: c :: d :: e :: f :: g :: r := by
  match t, h with
  | a :: b :: c :: d :: e :: f :: g :: r, _ => exact ⟨a, b, c, d, e, f, g, r, rfl⟩
theorem b8_nat (a : UInt8) : b8 (a.toNat : Int) = a := b8_eq (by have := a.toNat_lt; omega)
theorem enc_dec {t : Str} (h : 7 ≤ t.length) : encIns (decIns t) = t.take 7 := by
  obtain ⟨a, b, c, d, e, f, g, r, rfl⟩ := seven h
  show [b8 (a.toNat : Int), b8 (b.toNat : Int), b8 (c.toNat : Int)] ++ four8 (backv d e f g) = _
  rw [four_back, b8_nat, b8_nat, b8_nat]
  rfl
theorem dec_enc {i : api_Ins} (h : InsB i) (t : Str) : decIns (encIns i ++ t) = i := by
  obtain ⟨h1, h2, h3, h4, h5, h6, h7, h8⟩ := h
  show (⟨((b8 i.Op).toNat : Int), backv _ _ _ _, ((b8 i.B_).toNat : Int), ((b8 i.Label).toNat : Int)⟩ : api_Ins) = i
  rw [back_four ⟨h3, h4⟩, b8_int, b8_int, b8_int]
  obtain ⟨a, b, c, d⟩ := i
  simp only at *
  congr 1 <;> omega
theorem read_step {s : Str} {n k : Nat} {l : List api_Ins} (hk : k < n) (hn : n ≤ 32768) (hs : 4 + 7 * n ≤ s.length) (hl : l.length = k) : code_Read_L1 s n (l, k) = some (.inl (l ++ [decIns (s.drop (4 + 7 * k))], k + 1)) := by
  simp only [code_Read_L1]
  rw [if_pos (by omega)]
  have e : w64 (4 + w64 (7 * (k : Int))) = ((4 + 7 * k : Nat) : Int) := by rw [w64_id (n := 7 * (k : Int)) (by omega) (by omega), w64_id (by omega) (by omega)]; omega
  rw [e, need_of (by omega), Int.toNat_natCast]
  have h7 : 7 ≤ (s.drop (4 + 7 * k)).length := by rw [List.length_drop]; omega
  obtain ⟨a, b, c, d, e, f, g, r, ht⟩ := seven h7
  rw [ht]
  simp only [List.getElem?_cons_zero, List.getElem?_cons_succ, Option.bind_some]
  rw [need_of (by simp; omega)]
  rw [show List.drop 3 (a :: b :: c :: d :: e :: f :: g :: r) = d :: e :: f :: g :: r from rfl, Back_ok, Option.bind_some, need_of (by omega)]
  have w : ∀ x : UInt8, w64 (x.toNat : Int) = x.toNat := fun x => by have := x.toNat_lt; exact w64_id (by omega) (by omega)
  rw [w, w, w]
  rfl
theorem read_loop {s : Str} {n : Nat} (hn : n ≤ 32768) (hs : 4 + 7 * n ≤ s.length) : loop (code_Read_L1 s n) ([], 0) = some ((List.range n).map fun k => decIns (s.drop (4 + 7 * k))) := by
  refine loop_for (fun i => ((List.range i).map fun k => decIns (s.drop (4 + 7 * k)), i)) n _ (fun i hi => ?_) (by simp only [code_Read_L1]; rw [if_neg (by omega)])
  rw [read_step hi hn hs (by simp), range_snoc (g := fun k => decIns (s.drop (4 + 7 * k)))]
theorem read_flat {s : Str} : ∀ n : Nat, 4 + 7 * n ≤ s.length → ((List.range n).map fun k => decIns (s.drop (4 + 7 * k))).flatMap encIns = (s.drop 4).take (7 * n)
  | 0, _ => by simp
  | n + 1, h => by
    rw [List.range_succ, List.map_append, List.flatMap_append, read_flat n (by omega), show 7 * (n + 1) = 7 * n + 7 by omega, List.take_add, List.drop_drop]
    simp only [List.map_cons, List.map_nil, List.flatMap_cons, List.flatMap_nil, List.append_nil]
    rw [enc_dec (by rw [List.length_drop]; omega)]
theorem Read_inv (s : Str) : Tot (code_Read s) fun r => r.2.2 = true → codeC r.1 = 0 ∧ 0 ≤ r.2.1 ∧ r.2.1 ≤ s.length ∧ s = encCode r.1 ++ s.drop r.2.1.toNat := by
  unfold code_Read
  refine Tot.ite (fun _ => Tot.mk (fun h => by cases h)) (fun h4 => ?_)
  obtain ⟨n, hn, hs, hb⟩ := four_app (s := s) (by omega)
  rw [hb, Option.bind_some]
  refine Tot.ite (fun _ => Tot.mk (fun h => by cases h)) (fun h0 => ?_)
  refine Tot.ite (fun _ => Tot.mk (fun h => by cases h)) (fun h1 => ?_)
  have e : w64 (4 + w64 (7 * n)) = 4 + 7 * n := by rw [w64_id (n := 7 * n) (by omega) (by omega), w64_id (by omega) (by omega)]
  rw [e]
  refine Tot.ite (fun _ => Tot.mk (fun h => by cases h)) (fun h2 => ?_)
  obtain ⟨k, rfl⟩ := Int.eq_ofNat_of_zero_le (show 0 ≤ n by omega)
  rw [show ((k : Nat) : Int) = Int.ofNat k from rfl] at *
  rw [show loop (code_Read_L1 s (Int.ofNat k)) ([], 0) = _ from read_loop (by simp at h1; omega) (by simp at h2; omega), Option.bind_some, Check_ok, Option.bind_some]
  refine Tot.mk fun hc => ⟨by simpa using hc, ?_⟩
  simp only [Int.ofNat_eq_natCast] at *
  refine ⟨by omega, by omega, ?_⟩
  unfold encCode
  rw [read_flat k (by omega), show (4 + 7 * (k : Int)).toNat = 4 + 7 * k by omega]
  simp only [List.length_map, List.length_range]
  rw [List.append_assoc, show s.drop (4 + 7 * k) = (s.drop 4).drop (7 * k) by rw [List.drop_drop], List.take_append_drop]
  exact hs
theorem drop_flat {l : List api_Ins} (s : Str) : ∀ k, k ≤ l.length → (l.flatMap encIns ++ s).drop (7 * k) = (l.drop k).flatMap encIns ++ s
  | 0, _ => rfl
  | k + 1, h => by
    rw [show 7 * (k + 1) = 7 * k + 7 by omega, ← List.drop_drop, drop_flat s k (by omega), drop_cons (by omega : k < l.length), List.flatMap_cons, List.append_assoc]
    exact List.drop_left' (encIns_len _)
theorem Read_fwd {l : List api_Ins} (h : codeC l = 0) (s : Str) : code_Read (encCode l ++ s) = some (l, 4 + 7 * (l.length : Int), true) := by
  obtain ⟨hl, hm⟩ := codeC_zero.1 h
  have hlen : (encCode l ++ s).length = 4 + 7 * l.length + s.length := by rw [List.length_append, encCode_len]
  unfold code_Read
  rw [if_neg (by omega)]
  have hb : code_Back (encCode l ++ s) = some (l.length : Int) := by
    unfold encCode
    rw [List.append_assoc]
    exact Back_four ⟨by omega, by omega⟩ _
  rw [hb, Option.bind_some, if_neg (by omega), if_neg (by omega)]
  have e : w64 (4 + w64 (7 * (l.length : Int))) = 4 + 7 * (l.length : Int) := by rw [w64_id (n := 7 * (l.length : Int)) (by omega) (by omega), w64_id (by omega) (by omega)]
  rw [e, if_neg (by omega), read_loop hl (by omega), Option.bind_some]
  have el : ((List.range l.length).map fun k => decIns ((encCode l ++ s).drop (4 + 7 * k))) = l := by
    refine List.ext_getElem (by simp) fun k h1 h2 => ?_
    rw [List.getElem_map, List.getElem_range]
    have : (encCode l ++ s).drop (4 + 7 * k) = encIns l[k] ++ ((l.drop (k + 1)).flatMap encIns ++ s) := by
      rw [← List.drop_drop]
      unfold encCode
      rw [List.append_assoc, List.drop_left' (four8_len _), drop_flat s k (by omega), drop_cons h2, List.flatMap_cons, List.append_assoc]
    rw [this]
    exact dec_enc (may_in (hm _ (List.getElem_mem h2))) _
  rw [el, Check_ok, Option.bind_some, h]
  rfl
end Go.Lz
