/- P17: numbers as bytes, instructions as bytes and back, in plain words. -/
import Derived.Test.YtakkdadfikcpoaaDoorV17
import Derived.Test.YtakkdadfikcpoaaDoorPt
namespace Go.Lz
set_option linter.unusedVariables false
set_option linter.unusedSimpArgs false
set_option maxRecDepth 100000
def b8 (n : Int) : UInt8 := UInt8.ofNat (n % 256).toNat
def four8 (n : Int) : Str := [b8 (n / 16777216), b8 (n / 65536), b8 (n / 256), b8 n]
theorem four8_len (n : Int) : (four8 n).length = 4 := rfl
theorem wu8 (n : Int) : IntKind.u8.wrap n = n % 256 := by
  simp [IntKind.wrap, IntKind.min, IntKind.signed, IntKind.bits]
theorem b8_int (n : Int) : ((b8 n).toNat : Int) = n % 256 := by
  unfold b8
  rw [UInt8.toNat_ofNat']
  omega
theorem sB_app {a b : Str} : sBytes (a ++ b) = sBytes a ++ sBytes b := by simp [sBytes]
theorem sB_one (n : Int) : sBytes [b8 n] = [IntKind.u8.wrap n] := by simp [sBytes, b8_int, wu8]
theorem sB_len {a : Str} : (sBytes a).length = a.length := by simp [sBytes]
theorem iB_sB (s : Str) : iBytes (sBytes s) = s := by
  unfold iBytes sBytes
  rw [List.map_map]
  conv => rhs; rw [← List.map_id s]
  refine List.map_congr_left fun x _ => ?_
  simp
theorem foldl_app {α : Type} {w : α → Str} : ∀ (l : List α) (b : Str), l.foldl (fun s x => s ++ w x) b = b ++ l.flatMap w
  | [], b => by simp
  | x :: l, b => by rw [List.foldl_cons, foldl_app l, List.flatMap_cons, List.append_assoc]
/-- A loop that writes one element after the other. -/
theorem loop_app {α ρ : Type} {l : List α} {f : (List Int × Nat) → Option ((List Int × Nat) ⊕ ρ)} {w : α → Str} {g : List Int → ρ}
    (h : ∀ (b : Str) (i : Nat) (hi : i < l.length), b.length + (w l[i]).length ≤ 140737488355328 → f (sBytes b, i) = some (.inl (sBytes (b ++ w l[i]), i + 1)))
    (last : ∀ b : Str, f (sBytes b, l.length) = some (.inr (g (sBytes b)))) (b : Str) (hb : b.length + (l.flatMap w).length ≤ 140737488355328) : loop f (sBytes b, 0) = some (g (sBytes (b ++ l.flatMap w))) := by
  have := (loop_foldI (xs := l) (S := fun (s : Str) i => (sBytes s, i)) (step := fun s x => s ++ w x) (fin := fun s => g (sBytes s)) (f := f) (fun s i => s.length + ((l.drop i).flatMap w).length ≤ 140737488355328) (fun s i hi hI => by
    rw [drop_cons hi, List.flatMap_cons, List.length_append] at hI
    refine ⟨h s i hi (by omega), ?_⟩
    rw [List.length_append]; omega) (fun s hI => last s) b (by simpa using hb)).1
  rw [this, foldl_app]
theorem fdiv_n (n : Int) {d : Int} (h : 0 ≤ d) : n.fdiv d = n / d := Int.fdiv_eq_ediv_of_nonneg n h
theorem flat1 (l : List Int) : (l.flatMap fun x => [b8 x]) = l.map b8 := by
  induction l with
  | nil => rfl
  | cons x l ih => rw [List.flatMap_cons, ih]; rfl
theorem join_ok {b : Str} {xs : List Int} (h : b.length + xs.length ≤ 140737488355328) : code_join (sBytes b) xs = some (sBytes (b ++ xs.map b8)) := by
  unfold code_join
  rw [loop_app (l := xs) (w := fun x => [b8 x]) (g := fun b => (b, xs.length)) (fun b i hi hb => by
    simp only [code_join_L1]
    rw [if_pos (by omega), List.getElem?_eq_getElem hi, Option.bind_some, need_of (by rw [sB_len]; simp at hb; omega), sB_app, sB_one]) (fun b => by simp only [code_join_L1]; rw [if_neg (by omega)]) b (by rw [flat1, List.length_map]; exact h)]
  rw [Option.bind_some, flat1]
  exact need_of rfl
theorem Four_ok {b : Str} {n : Int} (h : b.length + 4 ≤ 140737488355328) : code_Four (sBytes b) n = some (sBytes (b ++ four8 n)) := by
  unfold code_Four
  rw [join_ok (by simpa using h), Option.bind_some]
  simp [four8, fdiv_n]
/-- A loop that writes a number in four bytes. -/
theorem four_loop {f : (List Int × Nat) → Option ((List Int × Nat) ⊕ List Int)} {n : Int}
    (hf : ∀ m p, f (m, p) = if (p : Int) < 4 then (([n.fdiv 16777216, n.fdiv 65536, n.fdiv 256, n][p]?).bind fun x => need ((m.length + 1) * 1 ≤ 140737488355328) (some (.inl (m ++ [IntKind.u8.wrap x], p + 1)))) else some (.inr m))
    {b : Str} (h : b.length + 4 ≤ 140737488355328) : loop f (sBytes b, 0) = some (sBytes (b ++ four8 n)) := by
  have := loop_app (f := f) (l := [n.fdiv 16777216, n.fdiv 65536, n.fdiv 256, n]) (w := fun x => [b8 x]) (g := fun b => b) (fun b i hi hb => by
    rw [hf, if_pos (by simp at hi; omega), List.getElem?_eq_getElem hi, Option.bind_some, need_of (by rw [sB_len]; simp at hb; omega), sB_app, sB_one]) (fun b => by rw [hf, if_neg (by simp)]) b (by rw [flat1]; simpa using h)
  rw [this, flat1]
  simp [four8, fdiv_n]
/-! Instructions. -/
theorem cf_gen {α : Type} {l : List α} {p : α → Bool} {f : Nat → Option (Nat ⊕ (Int ⊕ Unit))} (step : ∀ i (h : i < l.length), f i = some (if p l[i] then .inr (.inl (i : Int)) else .inl (i + 1))) (last : f l.length = some (.inr (.inr ()))) :
    ((loop f 0).bind (fun e__ => match e__ with | (.inl e) => some e | (.inr ()) => some (-1))).bind (fun r => some (decide (0 ≤ r))) = some (l.any p) := by
  obtain ⟨r, hr, hq⟩ := loop_inv (f := f) (fun i => i ≤ l.length ∧ (l.take i).any p = false) (fun r => match r with | .inl k => 0 ≤ k ∧ l.any p = true | .inr _ => l.any p = false) (fun i => l.length - i) (fun i ⟨hi, ha⟩ => by
    by_cases h : i < l.length
    · rw [step i h]
      by_cases hp : p l[i] = true
      · rw [if_pos hp]
        exact .inr ⟨_, rfl, by omega, List.any_eq_true.2 ⟨_, List.getElem_mem h, hp⟩⟩
      · rw [if_neg hp]
        refine .inl ⟨_, rfl, ⟨by omega, ?_⟩, by omega⟩
        rw [List.take_add_one, List.getElem?_eq_getElem h, List.any_append, ha]
        simpa using hp
    · have : i = l.length := by omega
      subst this
      rw [last]
      exact .inr ⟨_, rfl, by simpa using ha⟩) 0 (by simp)
  rw [hr]
  cases r with
  | inl k => rw [Option.bind_some, hq.2]; simp [hq.1]
  | inr u => cases u; rw [Option.bind_some, show l.any p = false from hq]; rfl
theorem names_t (op : Int) : Tot (code_names op) fun _ => True := by
  unfold code_names
  repeat' (first | exact Tot.mk trivial | refine Tot.ite (fun _ => ?_) (fun _ => ?_))
def InsB (i : api_Ins) : Prop := 1 ≤ i.Op ∧ i.Op ≤ 16 ∧ -2147483648 ≤ i.A ∧ i.A < 2147483648 ∧ 0 ≤ i.B_ ∧ i.B_ < 256 ∧ 0 ≤ i.Label ∧ i.Label < 8
theorem may_t (i : api_Ins) : Tot (code_may i) fun r => r = true → InsB i := by
  unfold code_may
  refine (names_t i.Op).bind fun k _ => ?_
  unfold InsB
  repeat' (first | (refine Tot.mk ?_; intro h; first | (cases h; done) | (simp only [decide_eq_true_eq] at h; omega)) | refine Tot.ite (fun _ => ?_) (fun _ => ?_))
def mayB (i : api_Ins) : Bool := (code_may i).getD false
theorem may_ok (i : api_Ins) : code_may i = some (mayB i) := by
  obtain ⟨r, h, _⟩ := may_t i
  simp [mayB, h]
theorem may_in {i : api_Ins} (h : mayB i = true) : InsB i := by
  obtain ⟨r, hr, hq⟩ := may_t i
  exact hq (by rw [may_ok, h] at hr; exact (Option.some.inj hr).symm)
def codeC (l : List api_Ins) : Int := if 32768 < l.length then 3 else if l.any (fun i => !mayB i) then 8 else 0
theorem Check_ok (l : List api_Ins) : code_Check l = some (codeC l) := by
  unfold code_Check codeC
  by_cases h : 32768 < l.length
  · rw [if_pos (by omega), if_pos h]
  rw [if_neg (by omega), if_neg h]
  have : slices_ContainsFunc_api_Ins_api_Ins l code_Check_1 = some (l.any fun i => !mayB i) := cf_gen (fun i hi => by
    simp only [slices_IndexFunc_api_Ins_api_Ins_L1]
    rw [if_pos (by omega), List.getElem?_eq_getElem hi, Option.bind_some]
    unfold code_Check_1
    rw [may_ok]
    cases mayB l[i] <;> rfl) (by simp [slices_IndexFunc_api_Ins_api_Ins_L1])
  rw [this, Option.bind_some]
  split <;> rfl
theorem codeC_zero {l : List api_Ins} : codeC l = 0 ↔ l.length ≤ 32768 ∧ ∀ i ∈ l, mayB i = true := by
  unfold codeC
  by_cases h : 32768 < l.length
  · rw [if_pos h]; constructor
    · intro h; omega
    · rintro ⟨h, _⟩; omega
  rw [if_neg h]
  by_cases ha : (l.any fun i => !mayB i) = true
  · rw [if_pos ha]
    constructor
    · intro h; omega
    · rintro ⟨_, h2⟩
      obtain ⟨x, hx, hn⟩ := List.any_eq_true.1 ha
      rw [h2 x hx] at hn; cases hn
  · rw [if_neg ha]
    refine ⟨fun _ => ⟨by omega, fun i hi => ?_⟩, fun _ => rfl⟩
    cases hm : mayB i with
    | true => rfl
    | false => exact (ha (List.any_eq_true.2 ⟨i, hi, by rw [hm]; rfl⟩)).elim
def encIns (i : api_Ins) : Str := [b8 i.Op, b8 i.Label, b8 i.B_] ++ four8 i.A
def encCode (l : List api_Ins) : Str := four8 l.length ++ l.flatMap encIns
theorem flat_len {α : Type} {w : α → Str} {k : Nat} (l : List α) (h : ∀ x ∈ l, (w x).length = k) : (l.flatMap w).length = k * l.length := by
  induction l with
  | nil => rfl
  | cons x l ih =>
    rw [List.flatMap_cons, List.length_append, ih (fun y hy => h y (List.mem_cons_of_mem _ hy)), h x (by simp), List.length_cons, Nat.mul_add]; omega
theorem flat_le {α : Type} {w : α → Str} {k : Nat} (l : List α) (h : ∀ x ∈ l, (w x).length ≤ k) : (l.flatMap w).length ≤ k * l.length := by
  induction l with
  | nil => simp
  | cons x l ih =>
    rw [List.flatMap_cons, List.length_append, List.length_cons, Nat.mul_add]
    have := ih (fun y hy => h y (List.mem_cons_of_mem _ hy))
    have := h x (by simp)
    omega
theorem encIns_len (i : api_Ins) : (encIns i).length = 7 := rfl
theorem encCode_len (l : List api_Ins) : (encCode l).length = 4 + 7 * l.length := by
  unfold encCode; rw [List.length_append, four8_len, flat_len l fun x _ => encIns_len x]
theorem Encode_ok {l : List api_Ins} (h : codeC l = 0) : code_Encode l = some (encCode l) := by
  have hl := (codeC_zero.1 h).1
  unfold code_Encode
  rw [Check_ok, Option.bind_some, if_pos h]
  rw [show (([] : List Int), 0) = (sBytes [], 0) from rfl, four_loop (n := (l.length : Int)) (fun _ _ => rfl) (by simp), Option.bind_some]
  rw [loop_app (l := l) (w := encIns) (g := fun b => b) (fun b i hi hb => by
    simp only [code_Encode_L2]
    rw [if_pos (by omega), List.getElem?_eq_getElem hi, Option.bind_some]
    rw [encIns_len] at hb
    rw [join_ok (by simp; omega), Option.bind_some, Four_ok (by simp; omega), Option.bind_some, List.append_assoc]
    rfl) (fun b => by simp only [code_Encode_L2]; rw [if_neg (by omega)]) _ (by
      rw [flat_len l fun x _ => encIns_len x]; simp [four8_len]; omega)]
  rw [Option.bind_some, iB_sB, List.nil_append]
  rfl
/-! Bytes as a number. -/
theorem or_nat {a b : Nat} (ha : a < 2 ^ 64) (hb : b < 2 ^ 64) : orI .i64 (a : Int) (b : Int) = ((a ||| b : Nat) : Int) := by
  unfold orI
  rw [BitVec.toNat_or]
  simp only [BitVec.toNat_ofInt, IntKind.bits]
  rw [show ((a : Int) % ((2 ^ 64 : Nat) : Int)).toNat = a by omega, show ((b : Int) % ((2 ^ 64 : Nat) : Int)).toNat = b by omega]
theorem or_byte {n : Int} (h0 : 0 ≤ n) (h1 : n < 16777216 * 256) (c : UInt8) : w64 (orI .i64 (w64 (n * 256)) (w64 (c.toNat : Int))) = n * 256 + c.toNat := by
  have hc := c.toNat_lt
  rw [w64_id (n := n * 256) (by omega) (by omega), w64_id (n := (c.toNat : Int)) (by omega) (by omega)]
  obtain ⟨k, rfl⟩ := Int.eq_ofNat_of_zero_le h0
  have e2 : (k <<< 8 : Nat) = k * 256 := by rw [Nat.shiftLeft_eq]
  have e : (k : Int) * (256 : Int) = ((k <<< 8 : Nat) : Int) := by rw [e2]; omega
  rw [e, or_nat (by rw [e2]; omega) (by omega), ← Nat.shiftLeft_add_eq_or_of_lt (i := 8) (by simpa using hc), e2]
  rw [w64_id (by omega) (by omega)]
  push_cast; rfl
def backv (a b c d : UInt8) : Int := ((((a.toNat : Int) * 256 + b.toNat) * 256 + c.toNat) * 256 + d.toNat + 2147483648) % 4294967296 - 2147483648
theorem Back_ok (a b c d : UInt8) (s : Str) : code_Back (a :: b :: c :: d :: s) = some (backv a b c d) := by
  have ha := a.toNat_lt
  have hb := b.toNat_lt
  have hc := c.toNat_lt
  have hd := d.toNat_lt
  unfold code_Back
  rw [loop_inl (s' := ((a.toNat : Int), 1)) (by
    simp only [code_Back_L1]
    rw [if_pos (by decide), List.getElem?_cons_zero, Option.bind_some, or_byte (by omega) (by omega)]; simp)]
  rw [loop_inl (s' := ((a.toNat : Int) * 256 + b.toNat, 2)) (by
    simp only [code_Back_L1]
    rw [if_pos (by decide)]; simp only [List.getElem?_cons_succ, List.getElem?_cons_zero]; rw [Option.bind_some, or_byte (by omega) (by omega)])]
  rw [loop_inl (s' := (((a.toNat : Int) * 256 + b.toNat) * 256 + c.toNat, 3)) (by
    simp only [code_Back_L1]
    rw [if_pos (by decide)]; simp only [List.getElem?_cons_succ, List.getElem?_cons_zero]; rw [Option.bind_some, or_byte (by omega) (by omega)])]
  rw [loop_inl (s' := ((((a.toNat : Int) * 256 + b.toNat) * 256 + c.toNat) * 256 + d.toNat, 4)) (by
    simp only [code_Back_L1]
    rw [if_pos (by decide)]; simp only [List.getElem?_cons_succ, List.getElem?_cons_zero]; rw [Option.bind_some, or_byte (by omega) (by omega)])]
  rw [loop_inr (r := (((a.toNat : Int) * 256 + b.toNat) * 256 + c.toNat) * 256 + d.toNat) (by simp only [code_Back_L1]; rw [if_neg (by decide)]), Option.bind_some]
  have e : (w64 (((((a.toNat : Int) * 256 + b.toNat) * 256 + c.toNat) * 256 + d.toNat) * 4294967296)).fdiv 4294967296 = backv a b c d := by
    unfold backv
    rw [fdiv_n _ (by omega), w64_eq]
    omega
  rw [e]
def I32 (n : Int) : Prop := -2147483648 ≤ n ∧ n < 2147483648
theorem back_in (a b c d : UInt8) : I32 (backv a b c d) := by unfold I32 backv; omega
theorem back_four {n : Int} (h : I32 n) : backv (b8 (n / 16777216)) (b8 (n / 65536)) (b8 (n / 256)) (b8 n) = n := by
  unfold I32 at h
  unfold backv
  rw [b8_int, b8_int, b8_int, b8_int]
  omega
theorem b8_eq {n : Int} {x : UInt8} (h : n % 256 = x.toNat) : b8 n = x := by
  apply UInt8.toNat_inj.1
  have := b8_int n
  omega
theorem four_back (a b c d : UInt8) : four8 (backv a b c d) = [a, b, c, d] := by
  have ha := a.toNat_lt
  have hb := b.toNat_lt
  have hc := c.toNat_lt
  have hd := d.toNat_lt
  unfold four8
  rw [b8_eq (x := a) (by unfold backv; omega), b8_eq (x := b) (by unfold backv; omega), b8_eq (x := c) (by unfold backv; omega), b8_eq (x := d) (by unfold backv; omega)]
theorem four_app {s : Str} (h : 4 ≤ s.length) : ∃ n, I32 n ∧ s = four8 n ++ s.drop 4 ∧ code_Back s = some n := by
  match s, h with
  | a :: b :: c :: d :: s, _ => exact ⟨backv a b c d, back_in a b c d, by rw [four_back]; rfl, Back_ok a b c d s⟩
theorem Back_four {n : Int} (h : I32 n) (s : Str) : code_Back (four8 n ++ s) = some n := by
  show code_Back (_ :: _ :: _ :: _ :: s) = _
  rw [Back_ok, back_four h]
end Go.Lz
