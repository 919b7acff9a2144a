/- P18h: the reference reads the same images; the law ImageDecodes in plain words. -/
import Derived.Test.YtakkdadfikcpoaaGreatP18g
namespace Go.Lz
set_option linter.unusedVariables false
set_option linter.unusedSimpArgs false
set_option maxRecDepth 100000
theorem or_nat32 {a b : Nat} (ha : a < 2 ^ 32) (hb : b < 2 ^ 32) : orI .u32 (a : Int) (b : Int) = ((a ||| b : Nat) : Int) := by
  unfold orI
  rw [BitVec.toNat_or]
  simp only [BitVec.toNat_ofInt, IntKind.bits]
  rw [show ((a : Int) % ((2 ^ 32 : Nat) : Int)).toNat = a by omega, show ((b : Int) % ((2 ^ 32 : Nat) : Int)).toNat = b by omega]
theorem or32 {n m k : Nat} (i : Nat) (h : m < 2 ^ i) (hk : k = n * 2 ^ i) (hn : k + m < 4294967296) : IntKind.u32.wrap (orI .u32 (k : Int) (m : Int)) = ((k + m : Nat) : Int) := by
  subst hk
  rw [or_nat32 (by omega) (by omega), ← Nat.shiftLeft_eq, ← Nat.shiftLeft_add_eq_or_of_lt h, Nat.shiftLeft_eq, wu32]
  omega
theorem rBack_ok (a b c d : UInt8) (s : Str) : lazarettoref17_Back (a :: b :: c :: d :: s) = some (backv a b c d) := by
  have ha := a.toNat_lt
  have hb := b.toNat_lt
  have hc := c.toNat_lt
  have hd := d.toNat_lt
  unfold lazarettoref17_Back
  simp only [List.getElem?_cons_zero, List.getElem?_cons_succ, Option.bind_some]
  have u : ∀ x : UInt8, IntKind.u32.wrap (x.toNat : Int) = x.toNat := fun x => by have := x.toNat_lt; rw [wu32]; omega
  rw [u, u, u, u]
  rw [show IntKind.u32.wrap ((a.toNat : Int) * 16777216) = ((a.toNat * 16777216 : Nat) : Int) by rw [wu32]; omega, show IntKind.u32.wrap ((b.toNat : Int) * 65536) = ((b.toNat * 65536 : Nat) : Int) by rw [wu32]; omega]
  rw [or32 (n := a.toNat) 24 (by omega) (by omega) (by omega)]
  rw [show IntKind.u32.wrap ((c.toNat : Int) * 256) = ((c.toNat * 256 : Nat) : Int) by rw [wu32]; omega]
  rw [or32 (n := a.toNat * 256 + b.toNat) 16 (by omega) (by omega) (by omega)]
  rw [or32 (n := (a.toNat * 256 + b.toNat) * 256 + c.toNat) 8 (by omega) (by omega) (by omega)]
  have w : ∀ n : Int, IntKind.i32.wrap n = (n + 2147483648) % 4294967296 - 2147483648 := fun n => by
    simp [IntKind.wrap, IntKind.min, IntKind.signed, IntKind.bits]; omega
  rw [w, w64_id (by omega) (by omega)]
  have e : (((((a.toNat * 16777216 + b.toNat * 65536 : Nat) + c.toNat * 256 : Nat) + d.toNat : Nat) : Int) + 2147483648) % 4294967296 - 2147483648 = backv a b c d := by
    unfold backv; omega
  exact congrArg some e
theorem rfour_app {s : Str} (h : 4 ≤ s.length) : ∃ n, I32 n ∧ s = four8 n ++ s.drop 4 ∧ lazarettoref17_Back s = some n := by
  match s, h with
  | a :: b :: c :: d :: s, _ => exact ⟨backv a b c d, back_in a b c d, by rw [four_back]; rfl, rBack_ok a b c d s⟩
theorem rBack_four {n : Int} (h : I32 n) (s : Str) : lazarettoref17_Back (four8 n ++ s) = some n := by
  show lazarettoref17_Back (_ :: _ :: _ :: _ :: s) = _
  rw [rBack_ok, back_four h]
theorem rnum_t (s : Str) (b : Bool) : Tot (lazarettoref18_P_num s b) fun _ => True := by
  unfold lazarettoref18_P_num
  refine Tot.ite (fun _ => Tot.mk trivial) (fun hb => Tot.ite (fun _ => Tot.mk trivial) (fun h4 => ?_))
  obtain ⟨n, hn, hs, hc⟩ := rfour_app (s := s) (by omega)
  rw [hc, Option.bind_some, need_of (by omega)]
  exact Tot.mk trivial
theorem rnum_fwd {n : Int} (h : I32 n) (s : Str) : lazarettoref18_P_num (four8 n ++ s) false = some (n, s, false) := by
  have hl : (four8 n ++ s).length = 4 + s.length := by rw [List.length_append, four8_len]
  unfold lazarettoref18_P_num
  rw [if_neg (by simp), if_neg (by omega), rBack_four h, Option.bind_some, need_of (by omega), List.drop_left' (four8_len n)]
theorem rcount_t (s : Str) (b : Bool) {most : Int} (hm : 0 ≤ most) : Tot (lazarettoref18_P_count s b most) fun r => 0 ≤ r.1 ∧ r.1 ≤ most := by
  unfold lazarettoref18_P_count
  refine (rnum_t s b).bind fun r hr => ?_
  refine Tot.ite (fun _ => Tot.mk (by simpa using hm)) (fun h1 => ?_)
  refine Tot.ite (fun _ => Tot.mk (by simpa using hm)) (fun h2 => ?_)
  exact Tot.mk (by simp only; omega)
theorem rcount_fwd {n most : Int} (h0 : 0 ≤ n) (h1 : n ≤ most) (h2 : n < 2147483648) (s : Str) : lazarettoref18_P_count (four8 n ++ s) false most = some (n, s, false) := by
  unfold lazarettoref18_P_count
  rw [rnum_fwd (by unfold I32; omega), Option.bind_some]
  simp only
  rw [if_neg (by omega), if_neg (by omega)]
theorem rtext_t (s : Str) (b : Bool) : Tot (lazarettoref18_P_text s b) fun _ => True := by
  unfold lazarettoref18_P_text
  refine (rcount_t s b (by omega : (0 : Int) ≤ (s.length : Int))).bind fun r ⟨h0, h1⟩ => ?_
  refine Tot.ite (fun _ => Tot.mk trivial) (fun hb => Tot.ite (fun _ => Tot.mk trivial) (fun h4 => ?_))
  rw [need_of (by omega), need_of (by omega)]
  exact Tot.mk trivial
theorem rtext_fwd {x : Str} (h : x.length ≤ 32) (s : Str) : lazarettoref18_P_text (encText x ++ s) false = some (x, s, false) := by
  unfold lazarettoref18_P_text encText
  have hl : (x ++ s).length = x.length + s.length := by rw [List.length_append]
  have hl2 : (four8 (x.length : Int) ++ x ++ s).length = 4 + (x.length + s.length) := by rw [List.append_assoc, List.length_append, four8_len, hl]
  rw [hl2, List.append_assoc, rcount_fwd (by omega) (by omega) (by omega), Option.bind_some]
  simp only
  rw [if_neg (by simp), if_neg (by omega), need_of (by omega), need_of (by omega), Int.toNat_natCast, List.take_left' rfl, List.drop_left' rfl]
section
variable {α : Type} {f : (Str × Bool × List α × Int) → Option ((Str × Bool × List α × Int) ⊕ (Str × Bool × List α))} {n : Int} {K : Nat} {item : Str → Bool → Option (α × Str × Bool)} {enc : α → Str} {ok : α → Prop}
theorem rdd_t (hf : ∀ s b xs i, f (s, b, xs, i) = if 0 < i then ((item s b).bind fun r => need ((xs.length + 1) * K ≤ 140737488355328) (some (.inl (r.2.1, r.2.2, xs ++ [r.1], w64 (i - 1))))) else some (.inr (s, b, xs)))
    (it : ∀ s b, Tot (item s b) fun _ => True) (h0 : 0 ≤ n) (hn : n ≤ 1000) (hK : K ≤ 1000) (s : Str) (b : Bool) : Tot (loop f (s, b, [], n)) fun r => (r.2.2.length : Int) = n := by
  refine Tot.loop (fun (t, c, xs, i) => (xs.length : Int) + i = n ∧ 0 ≤ i) (fun (t, c, xs, i) => i.toNat) ⟨by simp, h0⟩ ?_
  rintro ⟨t, c, xs, i⟩ ⟨hl, hi⟩
  simp only at hl hi ⊢
  rw [hf]
  refine Tot.ite (fun h => ?_) (fun h => Tot.mk (by show (xs.length : Int) = n; omega))
  refine (it t c).bind fun r _ => ?_
  rw [need_of (by
    have : (xs.length + 1) * K ≤ 1000 * 1000 := Nat.mul_le_mul (by omega) hK
    omega), w64_id (by omega) (by omega)]
  refine Tot.mk ⟨⟨by rw [List.length_append]; simp; omega, by show 0 ≤ i - 1; omega⟩, by show (i - 1).toNat < i.toNat; omega⟩
theorem rdd_fwd (hf : ∀ s b xs i, f (s, b, xs, i) = if 0 < i then ((item s b).bind fun r => need ((xs.length + 1) * K ≤ 140737488355328) (some (.inl (r.2.1, r.2.2, xs ++ [r.1], w64 (i - 1))))) else some (.inr (s, b, xs)))
    (fw : ∀ x s, ok x → item (enc x ++ s) false = some (x, s, false)) (hK : K ≤ 1000) {xs : List α} (hx : ∀ x ∈ xs, ok x) (hn : n = xs.length) (h1 : n ≤ 1000) (s : Str) : loop f (xs.flatMap enc ++ s, false, [], n) = some (s, false, xs) := by
  subst hn
  have := loop_for (f := f) (fun i => ((xs.drop i).flatMap enc ++ s, false, xs.take i, (xs.length : Int) - (i : Int))) xs.length (s, false, xs) (fun i hi => ?_) ?_
  · rw [show (xs.length : Int) = (xs.length : Int) - ((0 : Nat) : Int) by omega]; exact this
  · rw [hf, if_pos (by omega), drop_cons hi, List.flatMap_cons, List.append_assoc, fw _ _ (hx _ (List.getElem_mem hi)), Option.bind_some, need_of (by
      have : ((xs.take i).length + 1) * K ≤ 1000 * 1000 := Nat.mul_le_mul (by rw [List.length_take]; omega) hK
      omega), w64_id (by omega) (by omega)]
    rw [List.take_add_one, List.getElem?_eq_getElem hi, show (xs.length : Int) - (i : Int) - 1 = (xs.length : Int) - ((i + 1 : Nat) : Int) by omega]
    rfl
  · rw [hf, if_neg (by omega), List.drop_length, List.take_length]
    rfl
end
noncomputable def rPair (s : Str) (b : Bool) : Option (A2 Int × Str × Bool) := (lazarettoref18_P_num s b).bind fun r1 => (lazarettoref18_P_num r1.2.1 r1.2.2).bind fun r2 => some (⟨r1.1, r2.1⟩, r2.2.1, r2.2.2)
noncomputable def rSite (s : Str) (b : Bool) : Option (api_Site × Str × Bool) := (lazarettoref18_P_num s b).bind fun r1 => (lazarettoref18_P_num r1.2.1 r1.2.2).bind fun r2 => some (⟨[], r1.1, r2.1⟩, r2.2.1, r2.2.2)
noncomputable def rVar (s : Str) (b : Bool) : Option (api_Var × Str × Bool) := (lazarettoref18_P_num s b).bind fun r1 => (lazarettoref18_P_num r1.2.1 r1.2.2).bind fun r2 => (lazarettoref18_P_num r2.2.1 r2.2.2).bind fun r3 => (lazarettoref18_P_num r3.2.1 r3.2.2).bind fun r4 => (lazarettoref18_P_num r4.2.1 r4.2.2).bind fun r5 => (lazarettoref18_P_num r5.2.1 r5.2.2).bind fun r6 =>
  some (⟨[], ⟨r1.1, r2.1, r3.1⟩, r4.1, r5.1, r6.1⟩, r6.2.1, r6.2.2)
noncomputable def rBlock (s : Str) (b : Bool) : Option (api_Block × Str × Bool) := (lazarettoref18_P_text s b).bind fun r1 => (lazarettoref18_P_num r1.2.1 r1.2.2).bind fun r2 => some (⟨[], r1.1, r2.1⟩, r2.2.1, r2.2.2)
noncomputable def rTask (names : List Str) (s : Str) (b : Bool) : Option (api_Task × Str × Bool) := (lazarettoref18_P_num s b).bind fun r1 => (lazarettoref18_P_num r1.2.1 r1.2.2).bind fun r2 => (loop (lazarettoref18_Decode_L7 names) (r2.2.1, r2.2.2, [], 0)).bind fun p => some (⟨r1.1, r2.1, p.2.2, []⟩, p.1, p.2.1)
theorem rPair_t (s : Str) (b : Bool) : Tot (rPair s b) fun _ => True := (rnum_t _ _).bind fun _ _ => (rnum_t _ _).bind fun _ _ => Tot.mk trivial
theorem rSite_t (s : Str) (b : Bool) : Tot (rSite s b) fun _ => True := (rnum_t _ _).bind fun _ _ => (rnum_t _ _).bind fun _ _ => Tot.mk trivial
theorem rVar_t (s : Str) (b : Bool) : Tot (rVar s b) fun _ => True := (rnum_t _ _).bind fun _ _ => (rnum_t _ _).bind fun _ _ => (rnum_t _ _).bind fun _ _ => (rnum_t _ _).bind fun _ _ => (rnum_t _ _).bind fun _ _ => (rnum_t _ _).bind fun _ _ => Tot.mk trivial
theorem rBlock_t (s : Str) (b : Bool) : Tot (rBlock s b) fun _ => True := (rtext_t _ _).bind fun _ _ => (rnum_t _ _).bind fun _ _ => Tot.mk trivial
theorem rf7 (names : List Str) : ∀ s b xs (i : Nat), lazarettoref18_Decode_L7 names (s, b, xs, i) = if (i : Int) < (names.length : Int) then ((lazarettoref18_P_num s b).bind fun r => need ((xs.length + 1) * 8 ≤ 140737488355328) (some (.inl (r.2.1, r.2.2, xs ++ [r.1], i + 1)))) else some (.inr (s, b, xs)) := fun _ _ _ _ => rfl
theorem rTask_t (names : List Str) (hn : names.length ≤ 1000) (s : Str) (b : Bool) : Tot (rTask names s b) fun _ => True := by
  refine (rnum_t _ _).bind fun _ _ => (rnum_t _ _).bind fun r2 _ => ?_
  refine Tot.bind (Q := fun _ => True) ?_ (fun _ _ => Tot.mk trivial)
  refine Tot.loop (fun (t, c, xs, i) => xs.length = i ∧ i ≤ names.length) (fun (t, c, xs, i) => names.length - i) ⟨rfl, by omega⟩ ?_
  rintro ⟨t, c, xs, i⟩ ⟨hl, hi⟩
  simp only at hl hi ⊢
  rw [rf7]
  refine Tot.ite (fun h => ?_) (fun h => Tot.mk trivial)
  refine (rnum_t t c).bind fun r _ => ?_
  rw [need_of (by omega)]
  refine Tot.mk ⟨⟨by rw [List.length_append]; simp; omega, by show i + 1 ≤ _; omega⟩, by show names.length - (i + 1) < names.length - i; omega⟩
theorem rPair_f (x : A2 Int) (s : Str) (h : okPair x) : rPair (encPair x ++ s) false = some (x, s, false) := by
  unfold rPair encPair
  rw [two_app, rnum_fwd h.1, Option.bind_some, rnum_fwd h.2]; rfl
theorem rSite_f (x : api_Site) (s : Str) (h : okSite x) : rSite (encSite x ++ s) false = some (x, s, false) := by
  unfold rSite encSite
  rw [two_app, rnum_fwd h.2.1, Option.bind_some, rnum_fwd h.2.2]
  obtain ⟨a, b, c⟩ := x
  obtain rfl : a = [] := h.1
  rfl
theorem rVar_f (x : api_Var) (s : Str) (h : okVar x) : rVar (encVar x ++ s) false = some (x, s, false) := by
  obtain ⟨h0, h1, h2, h3, h4, h5, h6⟩ := h
  unfold rVar encVar
  rw [six_app, rnum_fwd h1, Option.bind_some, rnum_fwd h2, Option.bind_some, rnum_fwd h3, Option.bind_some, rnum_fwd h4, Option.bind_some, rnum_fwd h5, Option.bind_some, rnum_fwd h6]
  obtain ⟨a, ⟨b, c, d⟩, e, f, g⟩ := x
  obtain rfl : a = [] := h0
  rfl
theorem rBlock_f (x : api_Block) (s : Str) (h : okBlock x) : rBlock (encBlock x ++ s) false = some (x, s, false) := by
  unfold rBlock encBlock
  rw [List.append_assoc, rtext_fwd h.2.1, Option.bind_some, rnum_fwd h.2.2]
  obtain ⟨a, b, c⟩ := x
  obtain rfl : a = [] := h.1
  rfl
theorem rTask_f (names : List Str) (hn : names.length ≤ 8) (x : api_Task) (s : Str) (h : okTask names.length x) : rTask names (encTask x ++ s) false = some (x, s, false) := by
  obtain ⟨h1, h2, h3, h4, h5⟩ := h
  unfold rTask encTask
  rw [List.append_assoc, two_app, rnum_fwd h1, Option.bind_some, rnum_fwd h2, Option.bind_some]
  unfold nums
  rw [rd_fwd (rf7 names) (fun x s h => rnum_fwd h s) (by omega) h4 (by omega) (by omega)]
  obtain ⟨a, b, c, d⟩ := x
  obtain rfl : d = [] := h5
  rfl
theorem rf1 : ∀ s b xs (i : Int), lazarettoref18_Decode_L1 (s, b, xs, i) = if 0 < i then ((lazarettoref18_P_text s b).bind fun r => need ((xs.length + 1) * 16 ≤ 140737488355328) (some (.inl (r.2.1, r.2.2, xs ++ [r.1], w64 (i - 1))))) else some (.inr (s, b, xs)) := fun _ _ _ _ => rfl
theorem rf2 : ∀ s b xs (i : Int), lazarettoref18_Decode_L2 (s, b, xs, i) = if 0 < i then ((rPair s b).bind fun r => need ((xs.length + 1) * 16 ≤ 140737488355328) (some (.inl (r.2.1, r.2.2, xs ++ [r.1], w64 (i - 1))))) else some (.inr (s, b, xs)) := fun _ _ _ _ => by
  simp only [lazarettoref18_Decode_L2, rPair, Option.bind_assoc, Option.bind_some]
theorem rf3 : ∀ s b xs (i : Int), lazarettoref18_Decode_L3 (s, b, xs, i) = if 0 < i then ((rSite s b).bind fun r => need ((xs.length + 1) * 32 ≤ 140737488355328) (some (.inl (r.2.1, r.2.2, xs ++ [r.1], w64 (i - 1))))) else some (.inr (s, b, xs)) := fun _ _ _ _ => by
  simp only [lazarettoref18_Decode_L3, rSite, Option.bind_assoc, Option.bind_some]
theorem rf4 : ∀ s b xs (i : Int), lazarettoref18_Decode_L4 (s, b, xs, i) = if 0 < i then ((rVar s b).bind fun r => need ((xs.length + 1) * 64 ≤ 140737488355328) (some (.inl (r.2.1, r.2.2, xs ++ [r.1], w64 (i - 1))))) else some (.inr (s, b, xs)) := fun _ _ _ _ => by
  simp only [lazarettoref18_Decode_L4, rVar, Option.bind_assoc, Option.bind_some]
theorem rf5 : ∀ s b xs (i : Int), lazarettoref18_Decode_L5 (s, b, xs, i) = if 0 < i then ((rBlock s b).bind fun r => need ((xs.length + 1) * 40 ≤ 140737488355328) (some (.inl (r.2.1, r.2.2, xs ++ [r.1], w64 (i - 1))))) else some (.inr (s, b, xs)) := fun _ _ _ _ => by
  simp only [lazarettoref18_Decode_L5, rBlock, Option.bind_assoc, Option.bind_some]
theorem rf6 (names : List Str) : ∀ s b xs (i : Int), lazarettoref18_Decode_L6 names (s, b, xs, i) = if 0 < i then ((rTask names s b).bind fun r => need ((xs.length + 1) * 64 ≤ 140737488355328) (some (.inl (r.2.1, r.2.2, xs ++ [r.1], w64 (i - 1))))) else some (.inr (s, b, xs)) := fun _ _ _ _ => by
  simp only [lazarettoref18_Decode_L6, rTask, Option.bind_assoc, Option.bind_some]
/-! Instructions. -/
theorem rread_step {s : Str} {n k : Nat} {l : List api_Ins} (hk : k < n) (hn : n ≤ 32768) (hs : 4 + 7 * n ≤ s.length) (hl : l.length = k) : lazarettoref17_Read_L1 s n (l, k) = some (.inl (l ++ [decIns (s.drop (4 + 7 * k))], k + 1)) := by
  simp only [lazarettoref17_Read_L1]
  rw [if_pos (by omega)]
  have e : w64 (4 + w64 (7 * (k : Int))) = ((4 + 7 * k : Nat) : Int) := by rw [w64_id (n := 7 * (k : Int)) (by omega) (by omega), w64_id (by omega) (by omega)]; omega
  rw [e, need_of (by omega), Int.toNat_natCast]
  have h7 : 7 ≤ (s.drop (4 + 7 * k)).length := by rw [List.length_drop]; omega
  obtain ⟨a, b, c, d, e, f, g, r, ht⟩ := seven h7
  rw [ht]
  simp only [List.getElem?_cons_zero, List.getElem?_cons_succ, Option.bind_some]
  rw [need_of (by simp; omega)]
  rw [show List.drop 3 (a :: b :: c :: d :: e :: f :: g :: r) = d :: e :: f :: g :: r from rfl, rBack_ok, Option.bind_some, need_of (by omega)]
  have w : ∀ x : UInt8, w64 (x.toNat : Int) = x.toNat := fun x => by have := x.toNat_lt; exact w64_id (by omega) (by omega)
  rw [w, w, w]
  rfl
theorem rread_loop {s : Str} {n : Nat} (hn : n ≤ 32768) (hs : 4 + 7 * n ≤ s.length) : loop (lazarettoref17_Read_L1 s n) ([], 0) = some ((List.range n).map fun k => decIns (s.drop (4 + 7 * k))) := by
  refine loop_for (fun i => ((List.range i).map fun k => decIns (s.drop (4 + 7 * k)), i)) n _ (fun i hi => ?_) (by simp only [lazarettoref17_Read_L1]; rw [if_neg (by omega)])
  rw [rread_step hi hn hs (by simp), range_snoc (g := fun k => decIns (s.drop (4 + 7 * k)))]
theorem rRead_t (s : Str) : Tot (lazarettoref17_Read s) fun r => 0 ≤ r.2.1 ∧ r.2.1 ≤ s.length := by
  unfold lazarettoref17_Read
  refine Tot.ite (fun _ => Tot.mk ⟨by simp, by simp⟩) (fun h4 => ?_)
  obtain ⟨n, hn, hs, hb⟩ := rfour_app (s := s) (by omega)
  rw [hb, Option.bind_some]
  refine Tot.ite (fun _ => Tot.mk ⟨by simp, by simp⟩) (fun h0 => ?_)
  refine Tot.ite (fun _ => Tot.mk ⟨by simp, by simp⟩) (fun h1 => ?_)
  have e : w64 (4 + w64 (7 * n)) = 4 + 7 * n := by rw [w64_id (n := 7 * n) (by omega) (by omega), w64_id (by omega) (by omega)]
  rw [e]
  refine Tot.ite (fun _ => Tot.mk ⟨by simp, by simp⟩) (fun h2 => ?_)
  obtain ⟨k, rfl⟩ := Int.eq_ofNat_of_zero_le (show 0 ≤ n by omega)
  rw [rread_loop (by omega) (by omega), Option.bind_some, refCheckC, Option.bind_some]
  exact Tot.ite (fun _ => Tot.mk (by simp only; omega)) (fun _ => Tot.mk ⟨by simp, by simp⟩)
theorem rRead_fwd {l : List api_Ins} (h : codeC l = 0) (s : Str) : lazarettoref17_Read (encCode l ++ s) = some (l, 4 + 7 * (l.length : Int), 0) := by
  obtain ⟨hl, hm⟩ := codeC_zero.1 h
  have hlen : (encCode l ++ s).length = 4 + 7 * l.length + s.length := by rw [List.length_append, encCode_len]
  unfold lazarettoref17_Read
  rw [if_neg (by omega)]
  have hb : lazarettoref17_Back (encCode l ++ s) = some (l.length : Int) := by
    unfold encCode
    rw [List.append_assoc]
    exact rBack_four ⟨by omega, by omega⟩ _
  rw [hb, Option.bind_some, if_neg (by omega), if_neg (by omega)]
  have e : w64 (4 + w64 (7 * (l.length : Int))) = 4 + 7 * (l.length : Int) := by rw [w64_id (n := 7 * (l.length : Int)) (by omega) (by omega), w64_id (by omega) (by omega)]
  rw [e, if_neg (by omega), rread_loop hl (by omega), Option.bind_some]
  have el : ((List.range l.length).map fun k => decIns ((encCode l ++ s).drop (4 + 7 * k))) = l := by
    refine List.ext_getElem (by simp) fun k h1 h2 => ?_
    rw [List.getElem_map, List.getElem_range]
    have : (encCode l ++ s).drop (4 + 7 * k) = encIns l[k] ++ ((l.drop (k + 1)).flatMap encIns ++ s) := by
      rw [← List.drop_drop]
      unfold encCode
      rw [List.append_assoc, List.drop_left' (four8_len _), drop_flat s k (by omega), drop_cons h2, List.flatMap_cons, List.append_assoc]
    rw [this]
    exact dec_enc (may_in (hm _ (List.getElem_mem h2))) _
  rw [el, refCheckC, Option.bind_some, h, if_pos rfl]
theorem rcode_t (tasks : List api_Task) (h : tasks.length ≤ 1000) (s : Str) (b : Bool) : Tot (loop (lazarettoref18_Decode_L8 tasks) (s, b, [], 0)) fun _ => True := by
  refine Tot.loop (fun (t, c, xs, i) => xs.length = i ∧ i ≤ tasks.length) (fun (t, c, xs, i) => tasks.length - i) ⟨rfl, by simp⟩ ?_
  rintro ⟨t, c, xs, i⟩ ⟨hl, hi⟩
  simp only at hl hi ⊢
  simp only [lazarettoref18_Decode_L8]
  refine Tot.ite (fun hlt => ?_) (fun _ => Tot.mk trivial)
  refine Tot.ite (fun _ => Tot.mk trivial) (fun _ => ?_)
  refine (rRead_t t).bind fun r ⟨h1, h2⟩ => ?_
  rw [need_of (by omega), need_of (by omega)]
  exact Tot.mk ⟨⟨by rw [List.length_append]; simp; omega, by show i + 1 ≤ _; omega⟩, by show tasks.length - (i + 1) < tasks.length - i; omega⟩
theorem rcode_fwd (tasks : List api_Task) (h : tasks.length ≤ 1000) {code : List (List api_Ins)} (hl : code.length = tasks.length) (hc : ∀ c ∈ code, codeC c = 0) (s : Str) : loop (lazarettoref18_Decode_L8 tasks) (code.flatMap encCode ++ s, false, [], 0) = some (s, false, code) := by
  refine loop_for (fun i => ((code.drop i).flatMap encCode ++ s, false, code.take i, i)) code.length _ (fun i hi => ?_) ?_
  · simp only [lazarettoref18_Decode_L8]
    rw [if_pos (by omega), drop_cons hi, List.flatMap_cons, List.append_assoc, if_neg (by simp), rRead_fwd (hc _ (List.getElem_mem hi)), Option.bind_some]
    simp only
    have hlen : (encCode code[i] ++ ((code.drop (i + 1)).flatMap encCode ++ s)).length = 4 + 7 * code[i].length + ((code.drop (i + 1)).flatMap encCode ++ s).length := by rw [List.length_append, encCode_len]
    rw [need_of (by omega), need_of (by rw [List.length_take]; omega), show (4 + 7 * (code[i].length : Int)).toNat = 4 + 7 * code[i].length by omega, List.drop_left' (encCode_len _), List.take_add_one, List.getElem?_eq_getElem hi]
    rfl
  · simp only [lazarettoref18_Decode_L8]
    rw [if_neg (by omega), List.drop_length, List.take_length]
    rfl
theorem rdec_t (s : Str) : Tot (lazarettoref18_Decode s) fun r => r = (noImg, 8) ∨ (r.2 = 0 ∧ imgC r.1 = 0 ∧ s = encImage r.1) := by
  unfold lazarettoref18_Decode
  refine Tot.ite (fun _ => Tot.mk (.inl rfl)) (fun h4 => ?_)
  rw [need_of (by omega)]
  refine Tot.ite (fun hp => ?_) (fun _ => Tot.mk (.inl rfl))
  rw [need_of (by omega)]
  refine (rcount_t _ _ (by omega : (0 : Int) ≤ 8)).bind fun c1 ⟨z1, y1⟩ => ?_
  refine (rdd_t rf1 rtext_t z1 (by omega) (by omega) _ _).bind ?_
  rintro ⟨s1, b1, names⟩ n1
  simp only at n1 ⊢
  refine (rcount_t _ _ (by omega : (0 : Int) ≤ 64)).bind fun c2 ⟨z2, y2⟩ => ?_
  refine (rdd_t rf2 rPair_t z2 (by omega) (by omega) _ _).bind ?_
  rintro ⟨s2, b2, below⟩ n2
  simp only at n2 ⊢
  refine (rcount_t _ _ (by omega : (0 : Int) ≤ 8)).bind fun c3 ⟨z3, y3⟩ => ?_
  refine (rdd_t rf3 rSite_t z3 (by omega) (by omega) _ _).bind ?_
  rintro ⟨s3, b3, sites⟩ n3
  simp only at n3 ⊢
  refine (rcount_t _ _ (by omega : (0 : Int) ≤ 96)).bind fun c4 ⟨z4, y4⟩ => ?_
  refine (rdd_t rf4 rVar_t z4 (by omega) (by omega) _ _).bind ?_
  rintro ⟨s4, b4, vars⟩ n4
  simp only at n4 ⊢
  refine (rcount_t _ _ (by omega : (0 : Int) ≤ 12)).bind fun c5 ⟨z5, y5⟩ => ?_
  refine (rdd_t rf5 rBlock_t z5 (by omega) (by omega) _ _).bind ?_
  rintro ⟨s5, b5, blocks⟩ n5
  simp only at n5 ⊢
  refine (rcount_t _ _ (by omega : (0 : Int) ≤ 4)).bind fun c6 ⟨z6, y6⟩ => ?_
  refine (rdd_t (rf6 names) (rTask_t names (by omega)) z6 (by omega) (by omega) _ _).bind ?_
  rintro ⟨s6, b6, tasks⟩ n6
  simp only at n6 ⊢
  refine (rcode_t tasks (by omega) s6 b6).bind ?_
  rintro ⟨s7, b7, code⟩ _
  simp only
  refine Tot.ite (fun _ => Tot.mk (.inl rfl)) (fun hb => ?_)
  refine Tot.ite (fun h7 => ?_) (fun _ => Tot.mk (.inl rfl))
  rw [check_eq, Option.bind_some]
  refine Tot.ite (fun hz => ?_) (fun _ => Tot.mk (.inl rfl))
  rw [rput hz, Option.bind_some]
  refine Tot.ite (fun he => ?_) (fun _ => Tot.mk (.inl rfl))
  exact Tot.mk (.inr ⟨rfl, hz, he.symm⟩)
theorem rdec_fwd {m : api_Image} (hm : imgC m = 0) : lazarettoref18_Decode (encImage m) = some (m, 0) := by
  have F := imgFine hm
  have S := F.sm
  have P := F.pt
  have n1 := S.nm; have n2 := S.bl; have n3 := S.st; have n4 := S.vr; have n5 := S.bk; have n6 := S.tk
  have hl : (encImage m).length = 4 + (encBody m).length := by
    unfold encImage; rw [List.length_append, pre4_len]
  have ht : (encImage m).take 4 = [76, 90, 82, 49] := by
    show _ = pre4
    unfold encImage; rw [List.take_left' pre4_len]
  have hd : (encImage m).drop 4 = encBody m ++ [] := by
    unfold encImage; rw [List.drop_left' pre4_len, List.append_nil]
  unfold lazarettoref18_Decode
  rw [if_neg (by omega), need_of (by omega), if_pos ht, need_of (by omega), hd]
  unfold encBody encTail
  simp only [List.append_assoc]
  rw [rcount_fwd (by omega) (by omega) (by omega), Option.bind_some]
  simp only
  rw [rdd_fwd (ok := fun s : Str => s.length ≤ 32) (enc := encText) rf1 (fun x s h => rtext_fwd h s) (by omega) S.tx rfl (by omega), Option.bind_some]
  simp only
  rw [rcount_fwd (by omega) (by omega) (by omega), Option.bind_some]
  simp only
  rw [rdd_fwd (ok := okPair) (enc := encPair) rf2 rPair_f (by omega) (fun p hp => ⟨i32 (F.bl p hp).1 n1, i32 (F.bl p hp).2 n1⟩) rfl (by omega), Option.bind_some]
  simp only
  rw [rcount_fwd (by omega) (by omega) (by omega), Option.bind_some]
  simp only
  rw [rdd_fwd (ok := okSite) (enc := encSite) rf3 rSite_f (by omega) (fun p hp => ⟨(P.st p hp).nm, i32 (P.st p hp).fr n1, i32 (P.st p hp).to n1⟩) rfl (by omega), Option.bind_some]
  simp only
  rw [rcount_fwd (by omega) (by omega) (by omega), Option.bind_some]
  simp only
  rw [rdd_fwd (ok := okVar) (enc := encVar) rf4 rVar_f (by omega) (fun p hp => by
    obtain ⟨a, b, c, d, e, f, g⟩ := P.vr p hp
    exact ⟨a, by unfold I32; omega, by unfold I32; omega, by unfold I32; omega, by unfold I32; omega, i32 f n1, g⟩) rfl (by omega), Option.bind_some]
  simp only
  rw [rcount_fwd (by omega) (by omega) (by omega), Option.bind_some]
  simp only
  rw [rdd_fwd (ok := okBlock) (enc := encBlock) rf5 rBlock_f (by omega) (fun p hp => ⟨(P.bk p hp).nm, (P.bk p hp).kd, i32 (P.bk p hp).lb n1⟩) rfl (by omega), Option.bind_some]
  simp only
  rw [rcount_fwd (by omega) (by omega) (by omega), Option.bind_some]
  simp only
  rw [rdd_fwd (ok := okTask m.Lattice.Names.length) (enc := encTask) (rf6 _) (rTask_f _ n1) (by omega) (fun p hp => by
    obtain ⟨a, b, c, d, e⟩ := P.tk p hp
    exact ⟨by unfold I32; omega, by unfold I32; omega, c, d, e⟩) rfl (by omega), Option.bind_some]
  simp only
  rw [rcode_fwd m.Tasks (by omega) P.tc.symm P.cd, Option.bind_some]
  simp only
  rw [if_neg (by simp), if_pos trivial]
  have e : lazarettoref18_Check ⟨⟨m.Lattice.Names, m.Lattice.Below⟩, m.Sites, m.Vars, m.Blocks, m.Tasks, m.Code⟩ = some 0 := by rw [← hm]; exact check_eq m
  have e2 : lazarettoref18_put ⟨⟨m.Lattice.Names, m.Lattice.Below⟩, m.Sites, m.Vars, m.Blocks, m.Tasks, m.Code⟩ = some (encImage m) := rput hm
  rw [e, Option.bind_some, if_pos rfl, e2, Option.bind_some, if_pos rfl]
theorem decodesLaw18 (s : Str) : lazarettolaw18_ImageDecodes s = some true := by
  unfold lazarettolaw18_ImageDecodes
  rw [awake18]
  by_cases h : 300000 < (s.length : Int)
  · rw [if_pos h]; rfl
  rw [if_neg h]
  have e : image_Decode s = lazarettoref18_Decode s := by
    obtain ⟨r, hr, hq⟩ := dec_t s
    obtain ⟨q, hq', hqq⟩ := rdec_t s
    rcases hq with rfl | ⟨h1, h2, h3⟩
    · rcases hqq with rfl | ⟨g1, g2, g3⟩
      · rw [hr, hq']
      · have := dec_fwd g2 []
        rw [List.append_nil, ← g3, hr] at this
        simp at this
    · have := rdec_fwd h2
      rw [← h3] at this
      rw [hr, this]
      obtain ⟨m, k⟩ := r
      simp only at h1
      subst h1
      rfl
  obtain ⟨q, hq, _⟩ := rdec_t s
  rw [e, hq, Option.bind_some, Option.bind_some, img_self, Option.bind_some, if_pos rfl, if_pos rfl]
  rfl
end Go.Lz
