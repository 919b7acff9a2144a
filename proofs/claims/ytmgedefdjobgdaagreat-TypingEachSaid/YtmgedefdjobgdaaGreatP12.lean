/- P12: kinds of terms and statements, in the program and in the reference: the same. -/
import Derived.Test.YtmgedefdjobgdaaGreatP10b
namespace Go.Lz
set_option linter.unusedVariables false
set_option linter.unusedSimpArgs false
theorem outs_eq (s : Str) : blocks_Outputs s = lazarettoref11_Outputs s := rfl
theorem ins_eq (s : Str) : blocks_Inputs s = lazarettoref11_Inputs s := rfl
theorem bits_eq (k : Int) : ints_Bits k = lazarettoref03_Bits k := rfl
theorem outs_t (s : Str) : Tot (lazarettoref11_Outputs s) fun l => (∀ k ∈ l, 0 ≤ k) ∧ l.length ≤ 5 := by
  unfold lazarettoref11_Outputs
  repeat' (first | exact Tot.mk (by decide) | refine Tot.ite (fun _ => ?_) (fun _ => ?_))
theorem ins_t (s : Str) : Tot (lazarettoref11_Inputs s) fun l => (∀ k ∈ l, 0 ≤ k) ∧ l.length ≤ 5 := by
  unfold lazarettoref11_Inputs
  repeat' (first | exact Tot.mk (by decide) | refine Tot.ite (fun _ => ?_) (fun _ => ?_))
/-- The kind of an operation on a kind. -/
theorem result_t (op k : Int) : ∃ r, 0 ≤ r ∧ (k = 0 → r = 0) ∧ ints_Result op k = some r ∧ lazarettoref03_Result op k = some r := by
  unfold ints_Result lazarettoref03_Result
  rw [bits_eq]
  obtain ⟨b, hb, hk⟩ := bits_t k
  rw [hb, Option.bind_some, Option.bind_some]
  by_cases h0 : b = 0
  · exact ⟨0, by omega, fun _ => rfl, by rw [if_pos h0], by rw [if_pos h0]⟩
  rw [if_neg h0, if_neg h0]
  have hk := hk h0
  have num : ∃ r, 0 ≤ r ∧ (k = 0 → r = 0) ∧ (if k = 1 then some (0 : Int) else some k) = some r := by
    by_cases h : k = 1
    · exact ⟨0, by omega, fun _ => rfl, by rw [if_pos h]⟩
    · exact ⟨k, by omega, fun h => h, by rw [if_neg h]⟩
  have bit : ∃ r, 0 ≤ r ∧ (k = 0 → r = 0) ∧ (if k = 4 then some (0 : Int) else some k) = some r := by
    by_cases h : k = 4
    · exact ⟨0, by omega, fun _ => rfl, by rw [if_pos h]⟩
    · exact ⟨k, by omega, fun h => h, by rw [if_neg h]⟩
  have ord : ∃ r, 0 ≤ r ∧ (k = 0 → r = 0) ∧ (if k = 1 then some (0 : Int) else some 1) = some r := by
    by_cases h : k = 1
    · exact ⟨0, by omega, fun _ => rfl, by rw [if_pos h]⟩
    · exact ⟨1, by omega, fun h => by omega, by rw [if_neg h]⟩
  obtain ⟨rn, n0, n1, hn⟩ := num
  obtain ⟨rb, b0, b1, hbb⟩ := bit
  obtain ⟨ro, o0, o1, ho⟩ := ord
  rw [hn, hbb, ho]
  by_cases c1 : op = 5 ∨ (7 ≤ op ∧ op ≤ 11)
  · refine ⟨rn, n0, n1, ?_, ?_⟩
    · rcases c1 with h | ⟨h, h'⟩
      · simp [h]
      · have : op = 7 ∨ op = 8 ∨ op = 9 ∨ op = 10 ∨ op = 11 := by omega
        rcases this with h | h | h | h | h <;> simp [h]
    · rcases c1 with h | ⟨h, h'⟩
      · simp [h]
      · by_cases h5 : op = 5
        · omega
        · rw [if_neg h5, if_pos h, if_pos h']
  by_cases c2 : op = 6 ∨ (18 ≤ op ∧ op ≤ 20)
  · refine ⟨rb, b0, b1, ?_, ?_⟩
    · have : op = 6 ∨ op = 18 ∨ op = 19 ∨ op = 20 := by omega
      rcases this with h | h | h | h <;> simp [h]
    · have : op = 6 ∨ op = 18 ∨ op = 19 ∨ op = 20 := by omega
      rcases this with h | h | h | h <;> simp [h]
  by_cases c3 : op = 12 ∨ op = 13
  · refine ⟨1, by omega, fun h => by omega, ?_, ?_⟩ <;> rcases c3 with h | h <;> simp [h]
  by_cases c4 : 14 ≤ op ∧ op ≤ 17
  · refine ⟨ro, o0, o1, ?_, ?_⟩
    · have : op = 14 ∨ op = 15 ∨ op = 16 ∨ op = 17 := by omega
      rcases this with h | h | h | h <;> simp [h]
    · have : op = 14 ∨ op = 15 ∨ op = 16 ∨ op = 17 := by omega
      rcases this with h | h | h | h <;> simp [h]
  refine ⟨0, by omega, fun _ => rfl, ?_, ?_⟩
  · rw [if_neg (by omega), if_neg (by omega), if_neg (by omega), if_neg (by omega), if_neg (by omega), if_neg (by omega), if_neg (by omega), if_neg (by omega), if_neg (by omega), if_neg (by omega), if_neg (by omega), if_neg (by omega), if_neg (by omega), if_neg (by omega), if_neg (by omega), if_neg (by omega)]
  · repeat' (first | rfl | rw [if_neg (by omega)] | (split <;> first | omega | skip))
/-- A place that is found. -/
theorem find_at {α : Type} {xs : List α} {p : α → Bool} (h : 0 ≤ findN xs p) : Tot (idx xs (findN xs p)) fun x => x ∈ xs ∧ p x = true := by
  unfold findN at h ⊢
  cases hf : xs.findIdx? p with
  | none => rw [hf] at h; simp only at h; omega
  | some i =>
    obtain ⟨hi, hp, _⟩ := List.findIdx?_eq_some_iff_getElem.1 hf
    exact ⟨xs[i], by simp only; rw [idx_nat]; exact List.getElem?_eq_getElem hi, List.getElem_mem hi, hp⟩
theorem var_at {p : api_Program} {name : Str} (h : ¬ varN p name < 0) : Tot (idx p.Vars (varN p name)) fun x => x ∈ p.Vars := (find_at (by unfold varN at h; omega)).imp fun _ h => h.1
theorem block_at {p : api_Program} {name : Str} (h : ¬ blockN p name < 0) : Tot (idx p.Blocks (blockN p name)) fun x => x ∈ p.Blocks := (find_at (by unfold blockN at h; omega)).imp fun _ h => h.1
/-- Two answers, the same. -/
def Two {α : Type} (x y : Option α) (Q : α → Prop) : Prop := ∃ r, x = some r ∧ y = some r ∧ Q r
section
variable {α β : Type} {x y : Option α} {Q : α → Prop} {f g : α → Option β} {R : β → Prop}
theorem Two.bind (h : Two x y Q) (k : ∀ a, Q a → Two (f a) (g a) R) : Two (x.bind f) (y.bind g) R := by
  obtain ⟨a, rfl, rfl, hq⟩ := h
  exact k a hq
theorem Two.ite {c : Prop} [Decidable c] {x' y' : Option α} (a : c → Two x y Q) (b : ¬c → Two x' y' Q) : Two (if c then x else x') (if c then y else y') Q := by
  by_cases h : c
  · rw [if_pos h, if_pos h]; exact a h
  · rw [if_neg h, if_neg h]; exact b h
theorem Two.mk {a : α} (h : Q a) : Two (some a) (some a) Q := ⟨a, rfl, rfl, h⟩
theorem Two.same (h : Tot x Q) : Two x x Q := by
  obtain ⟨a, rfl, hq⟩ := h
  exact ⟨a, rfl, rfl, hq⟩
theorem Two.imp {Q' : α → Prop} (h : Two x y Q) (k : ∀ a, Q a → Q' a) : Two x y Q' := by
  obtain ⟨a, e1, e2, hq⟩ := h
  exact ⟨a, e1, e2, k a hq⟩
end
theorem result_two (op k : Int) : Two (ints_Result op k) (lazarettoref03_Result op k) fun r => 0 ≤ r := by
  obtain ⟨r, h0, _, h1, h2⟩ := result_t op k
  exact ⟨r, h1, h2, h0⟩
theorem cf_int (l : List Int) (f : Int → Option Bool) (q : Int → Bool) (h : ∀ x ∈ l, f x = some (q x)) : slices_ContainsFunc_int_int l f = some (l.any q) := by
  have hx : slices_IndexFunc_int_int l f = some (findN l q) := loop_index (fun i hi => by simp [slices_IndexFunc_int_int_L1, hi, h _ (List.getElem_mem hi)]; cases q l[i] <;> rfl) (by simp [slices_IndexFunc_int_int_L1])
  unfold slices_ContainsFunc_int_int
  rw [hx, Option.bind_some, any_iff]
theorem kindLoop0 {R : api_Program → api_Expr → Option Int} {p : api_Program} {e : api_Expr} (h : e.Args.length = 0) : loop (typing_kind_L1 R p e) (List.replicate e.Args.length 0, 0) = some [] := by
  rw [loop_inr (r := []) (by simp [typing_kind_L1, h])]
theorem kindLoop1 {R : api_Program → api_Expr → Option Int} {p : api_Program} {e a : api_Expr} {k : Int} (h : e.Args = [a]) (hk : R p a = some k) : loop (typing_kind_L1 R p e) (List.replicate e.Args.length 0, 0) = some [k] := by
  rw [loop_inl (s' := ([k], 1)) (by simp [typing_kind_L1, h, hk]), loop_inr (r := [k]) (by simp [typing_kind_L1, h])]
theorem kindLoop2 {R : api_Program → api_Expr → Option Int} {p : api_Program} {e a b : api_Expr} {k m : Int} (h : e.Args = [a, b]) (hk : R p a = some k) (hm : R p b = some m) : loop (typing_kind_L1 R p e) (List.replicate e.Args.length 0, 0) = some [k, m] := by
  rw [loop_inl (s' := ([k, 0], 1)) (by simp [typing_kind_L1, h, hk]), loop_inl (s' := ([k, m], 2)) (by simp [typing_kind_L1, h, hm]), loop_inr (r := [k, m]) (by simp [typing_kind_L1, h])]
theorem one_args {l : List api_Expr} (h : l.length = 1) : ∃ a, l = [a] := by
  match l, h with
  | [a], _ => exact ⟨a, rfl⟩
theorem kind2 {p : api_Program} (P : GoodP p) : ∀ (n : Nat) (e : api_Expr), fmE e → depE e ≤ n → Two (typing_kind_g n p e) (lazarettoref12_Expr_g n p e) fun k => 0 ≤ k
  | 0, e, _, h => by rw [depE_eq] at h; omega
  | n + 1, e, ok, h => by
    have F := fmE_form ok
    rw [fmE_eq] at ok
    rw [depE_eq] at h
    have ops := F.ops
    show Two (typing_kind_b (typing_kind_g n) p e) (lazarettoref12_Expr_b (lazarettoref12_Expr_g n) p e) _
    unfold typing_kind_b lazarettoref12_Expr_b
    have hn : (0 : Int) ≤ (e.Args.length : Int) ∧ 8 * (e.Args.length : Int) ≤ 140737488355328 := by omega
    rw [need_of hn]
    by_cases h0 : e.Args.length = 0
    · rw [kindLoop0 h0, Option.bind_some]
      refine Two.ite (fun _ => Two.mk (by omega)) fun h1 => Two.ite (fun h2 => ?_) fun h2 => ?_
      · simp only [namesVar, refVar, Option.bind_some]
        refine Two.ite (fun _ => Two.mk (by omega)) fun hv => (Two.same (var_at hv)).bind fun v hv => ?_
        have hk := (P.vars v hv).kind
        exact Two.ite (fun _ => Two.ite (fun _ => by omega) fun _ => Two.mk (by omega)) fun _ => Two.mk (by omega)
      rw [if_neg (by omega), if_neg (show ¬ e.Op = 3 by omega)]
      refine Two.ite (fun h4 => ?_) fun h4 => by omega
      simp only [namesBlock, refBlock, Option.bind_some]
      refine Two.ite (fun _ => Two.mk (by omega)) fun hv => (Two.same (block_at hv)).bind fun v hv => ?_
      rw [outs_eq]
      refine (Two.same (outs_t v.Kind)).bind fun l hl => ?_
      by_cases a : 0 ≤ e.N
      · rw [if_pos a, if_neg (show ¬ e.N < 0 by omega)]
        by_cases b : e.N < (l.length : Int)
        · rw [if_pos b, if_neg (by omega)]
          exact (Two.same (Tot.idx a b)).bind fun x hx => Two.mk (hl.1 x hx)
        · rw [if_neg b, if_pos (by omega)]; exact Two.mk (by omega)
      · rw [if_neg a, if_pos (by omega)]; exact Two.mk (by omega)
    by_cases h1 : e.Args.length = 1
    · obtain ⟨x, hx⟩ := one_args h1
      have okx : fmE x := fmEs_mem ok.2 x (by rw [hx]; simp)
      have dx : depE x ≤ n := by rw [hx] at h; simp only [depEs] at h; omega
      obtain ⟨k, k1, k2, k0⟩ := kind2 P n x okx dx
      rw [kindLoop1 hx k1, Option.bind_some]
      rw [hx]
      simp only [List.getElem?_cons_zero, Option.bind_some, k2, List.length_cons, List.length_nil]
      rw [if_neg (show ¬ e.Op = 1 by omega), if_neg (show ¬ e.Op = 1 by omega), if_neg (show ¬ e.Op = 2 by omega), if_neg (show ¬ e.Op = 2 by omega)]
      refine Two.ite (fun h3 => ?_) fun h3 => ?_
      · simp only [namesVar, refVar, Option.bind_some]
        refine Two.ite (fun _ => Two.mk (by omega)) fun hv => (Two.same (var_at hv)).bind fun v hv => ?_
        have hk := (P.vars v hv).kind
        refine Two.ite (fun _ => ?_) fun _ => Two.mk (by omega)
        rw [if_pos (by omega)]
        exact Two.ite (fun _ => Two.mk (by omega)) fun _ => Two.mk (by omega)
      rw [if_neg (show ¬ e.Op = 4 by omega), if_neg (show ¬ e.Op = 4 by omega)]
      refine Two.ite (fun h4 => ?_) fun h4 => ?_
      · simp only [namesSite, refSite, Option.bind_some]
        by_cases hs : siteN p e.Name < 0
        · rw [if_neg (by omega), if_pos hs]; exact Two.mk (by omega)
        · rw [if_pos (by omega), if_neg hs, if_pos (by omega)]; exact Two.mk k0
      rw [if_pos (by omega), if_neg (by omega), cf_int [k] _ (fun x => !decide (x = k)) (fun x _ => by simp [typing_kind_1]), Option.bind_some]
      rw [if_neg (by simp)]
      exact (result_two e.Op k).bind fun r hr => Two.mk hr
    · have h2 : e.Args.length = 2 := by omega
      obtain ⟨x, y, hxy⟩ := two_args h2
      have okx : fmE x := fmEs_mem ok.2 x (by rw [hxy]; simp)
      have oky : fmE y := fmEs_mem ok.2 y (by rw [hxy]; simp)
      rw [hxy] at h
      simp only [depEs] at h
      obtain ⟨k, k1, k2, k0⟩ := kind2 P n x okx (by omega)
      obtain ⟨m, m1, m2, m0⟩ := kind2 P n y oky (by omega)
      rw [kindLoop2 hxy k1 m1, Option.bind_some]
      rw [hxy]
      simp only [List.getElem?_cons_zero, List.getElem?_cons_succ, Option.bind_some, k2, m2, List.length_cons, List.length_nil]
      rw [if_neg (show ¬ e.Op = 1 by omega), if_neg (show ¬ e.Op = 1 by omega), if_neg (show ¬ e.Op = 2 by omega), if_neg (show ¬ e.Op = 2 by omega), if_neg (show ¬ e.Op = 3 by omega), if_neg (show ¬ e.Op = 3 by omega), if_neg (show ¬ e.Op = 4 by omega), if_neg (show ¬ e.Op = 4 by omega), if_neg (show ¬ e.Op = 21 by omega), if_neg (show ¬ e.Op = 21 by omega)]
      rw [if_pos (by omega), if_pos (by omega), cf_int [k, m] _ (fun x => !decide (x = k)) (fun x _ => by simp [typing_kind_1]), Option.bind_some]
      by_cases hkm : m = k
      · rw [if_neg (by simp [hkm]), if_pos hkm]
        exact (result_two e.Op k).bind fun r hr => Two.mk hr
      · rw [if_pos (by simp [hkm]), if_neg hkm]; exact Two.mk (by omega)
noncomputable def kindN (p : api_Program) (e : api_Expr) : Int := (typing_kind p e).getD 0
theorem kind_ok {p : api_Program} (P : GoodP p) {e : api_Expr} (ok : fmE e) (h : depE e ≤ 1000) : typing_kind p e = some (kindN p e) ∧ lazarettoref12_Expr p e = some (kindN p e) ∧ 0 ≤ kindN p e := by
  obtain ⟨k, h1, h2, h0⟩ := kind2 P 1000000 e ok (by omega)
  have h1' : typing_kind p e = some k := h1
  have e1 : kindN p e = k := by unfold kindN; rw [h1']; rfl
  exact ⟨by rw [e1]; exact h1', by rw [e1]; exact h2, by rw [e1]; exact h0⟩
theorem good_kind {p : api_Program} (P : GoodP p) {e : api_Expr} (g : GoodE e) : typing_kind p e = some (kindN p e) ∧ lazarettoref12_Expr p e = some (kindN p e) ∧ 0 ≤ kindN p e := kind_ok P g.ok (by have := g.dep; omega)
end Go.Lz
