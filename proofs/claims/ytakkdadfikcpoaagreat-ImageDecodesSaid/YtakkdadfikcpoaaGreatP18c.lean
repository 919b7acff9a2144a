/- P18c: an image's bytes are read, in plain words. -/
import Derived.Test.YtakkdadfikcpoaaGreatP18b
namespace Go.Lz
set_option linter.unusedVariables false
set_option linter.unusedSimpArgs false
set_option maxRecDepth 100000
theorem num_t (s : Str) (b : Bool) : Tot (image_reader_num s b) fun r => r.2.2 = false → b = false ∧ I32 r.1 ∧ s = four8 r.1 ++ r.2.1 := by
  unfold image_reader_num
  refine Tot.ite (fun _ => Tot.mk fun h => by cases h) (fun hb => ?_)
  refine Tot.ite (fun h4 => Tot.mk fun h => by simp only [decide_eq_false_iff_not] at h; exact absurd h4 h) (fun h4 => ?_)
  obtain ⟨n, hn, hs, hc⟩ := four_app (s := s) (by omega)
  rw [hc, Option.bind_some, need_of (by omega)]
  exact Tot.mk fun _ => ⟨by simpa using hb, hn, hs⟩
theorem num_fwd {n : Int} (h : I32 n) (s : Str) : image_reader_num (four8 n ++ s) false = some (n, s, false) := by
  have hl : (four8 n ++ s).length = 4 + s.length := by rw [List.length_append, four8_len]
  unfold image_reader_num
  rw [if_neg (by simp), if_neg (by omega), Back_four h, Option.bind_some, need_of (by omega), List.drop_left' (four8_len n), decide_eq_false (by omega)]
theorem count_t (s : Str) (b : Bool) {most : Int} (hm : 0 ≤ most) : Tot (image_reader_count s b most) fun r => (0 ≤ r.1 ∧ r.1 ≤ most) ∧ (r.2.2 = false → b = false ∧ s = four8 r.1 ++ r.2.1) := by
  unfold image_reader_count
  refine (num_t s b).bind fun r hr => ?_
  refine Tot.ite (fun _ => Tot.mk ⟨by simpa using hm, fun h => by cases h⟩) (fun h1 => ?_)
  refine Tot.ite (fun _ => Tot.mk ⟨by simpa using hm, fun h => by cases h⟩) (fun h2 => ?_)
  refine Tot.ite (fun h3 => Tot.mk ⟨by simpa using hm, fun h => by rw [h3] at h; cases h⟩) (fun h3 => ?_)
  exact Tot.mk ⟨by omega, fun h => ⟨(hr h).1, (hr h).2.2⟩⟩
theorem count_fwd {n most : Int} (h0 : 0 ≤ n) (h1 : n ≤ most) (h2 : most < 2147483648) (s : Str) : image_reader_count (four8 n ++ s) false most = some (n, s, false) := by
  unfold image_reader_count
  rw [num_fwd (by unfold I32; omega), Option.bind_some]
  simp only
  rw [if_neg (by omega), if_neg (by omega), if_neg (by simp)]
theorem text_t (s : Str) (b : Bool) : Tot (image_reader_text s b) fun r => r.2.2 = false → b = false ∧ r.1.length ≤ 32 ∧ s = encText r.1 ++ r.2.1 := by
  unfold image_reader_text
  refine (count_t s b (by omega : (0 : Int) ≤ 32)).bind fun r ⟨⟨h0, h1⟩, hr⟩ => ?_
  rw [need_of (by omega)]
  refine Tot.ite (fun _ => Tot.mk fun h => by cases h) (fun hb => ?_)
  refine Tot.ite (fun h4 => Tot.mk fun h => by simp only [decide_eq_false_iff_not] at h; exact absurd h4 h) (fun h4 => ?_)
  rw [need_of (by omega), need_of (by omega)]
  refine Tot.mk fun _ => ?_
  obtain ⟨h5, h6⟩ := hr (by simpa using hb)
  simp only
  have hl : (r.2.1.take r.1.toNat).length = r.1.toNat := by rw [List.length_take]; omega
  refine ⟨h5, by omega, ?_⟩
  unfold encText
  rw [hl, List.append_assoc, List.take_append_drop, Int.toNat_of_nonneg h0]
  exact h6
theorem text_fwd {x : Str} (h : x.length ≤ 32) (s : Str) : image_reader_text (encText x ++ s) false = some (x, s, false) := by
  unfold image_reader_text encText
  rw [List.append_assoc, count_fwd (by omega) (by omega) (by omega), Option.bind_some]
  simp only
  have hl : (x ++ s).length = x.length + s.length := by rw [List.length_append]
  rw [need_of (by omega), if_neg (by simp), if_neg (by omega), need_of (by omega), need_of (by omega), Int.toNat_natCast, List.take_left' rfl, List.drop_left' rfl, decide_eq_false (by omega)]
/-! Lists. -/
section
variable {α : Type} {f : (Str × Bool × List α × Nat) → Option ((Str × Bool × List α × Nat) ⊕ (Str × Bool × List α))} {n : Int} {K : Nat} {item : Str → Bool → Option (α × Str × Bool)} {enc : α → Str} {ok : α → Prop}
theorem rd_t (hf : ∀ s b xs (i : Nat), f (s, b, xs, i) = if (i : Int) < n then ((item s b).bind fun r => need ((xs.length + 1) * K ≤ 140737488355328) (some (.inl (r.2.1, r.2.2, xs ++ [r.1], i + 1)))) else some (.inr (s, b, xs)))
    (it : ∀ s b, Tot (item s b) fun r => r.2.2 = false → b = false ∧ ok r.1 ∧ s = enc r.1 ++ r.2.1) (h0 : 0 ≤ n) (hn : n ≤ 1000) (hK : K ≤ 1000) (s : Str) (b : Bool) :
    Tot (loop f (s, b, [], 0)) fun r => (r.2.2.length : Int) = n ∧ (r.2.1 = false → b = false ∧ (∀ x ∈ r.2.2, ok x) ∧ s = r.2.2.flatMap enc ++ r.1) := by
  refine Tot.loop (fun (t, c, xs, i) => xs.length = i ∧ (i : Int) ≤ n ∧ (c = false → b = false ∧ (∀ x ∈ xs, ok x) ∧ s = xs.flatMap enc ++ t)) (fun (t, c, xs, i) => n.toNat - i) ⟨rfl, by simpa using h0, fun h => ⟨h, by simp, by simp⟩⟩ ?_
  rintro ⟨t, c, xs, i⟩ ⟨hl, hi, hx⟩
  simp only at hl hi hx ⊢
  rw [hf]
  refine Tot.ite (fun h => ?_) (fun h => Tot.mk ⟨by simp only; omega, hx⟩)
  refine (it t c).bind fun r hr => ?_
  rw [need_of (by
    have : (xs.length + 1) * K ≤ 1000 * 1000 := Nat.mul_le_mul (by omega) hK
    omega)]
  refine Tot.mk ⟨⟨by rw [List.length_append]; simp; omega, by show ((i + 1 : Nat) : Int) ≤ n; omega, fun hc => ?_⟩, by show n.toNat - (i + 1) < n.toNat - i; omega⟩
  obtain ⟨h1, h2, h3⟩ := hr hc
  obtain ⟨h4, h5, h6⟩ := hx h1
  refine ⟨h4, fun x hx => ?_, ?_⟩
  · rcases List.mem_append.1 hx with hx | hx
    · exact h5 x hx
    · simp at hx; subst hx; exact h2
  · rw [h6, h3, List.flatMap_append, List.append_assoc]
    simp
theorem rd_fwd (hf : ∀ s b xs (i : Nat), f (s, b, xs, i) = if (i : Int) < n then ((item s b).bind fun r => need ((xs.length + 1) * K ≤ 140737488355328) (some (.inl (r.2.1, r.2.2, xs ++ [r.1], i + 1)))) else some (.inr (s, b, xs)))
    (fw : ∀ x s, ok x → item (enc x ++ s) false = some (x, s, false)) (hK : K ≤ 1000) {xs : List α} (hx : ∀ x ∈ xs, ok x) (hn : n = xs.length) (h1 : n ≤ 1000) (s : Str) : loop f (xs.flatMap enc ++ s, false, [], 0) = some (s, false, xs) := by
  subst hn
  refine loop_for (fun i => ((xs.drop i).flatMap enc ++ s, false, xs.take i, i)) xs.length _ (fun i hi => ?_) ?_
  · rw [hf, if_pos (by omega), drop_cons hi, List.flatMap_cons, List.append_assoc, fw _ _ (hx _ (List.getElem_mem hi)), Option.bind_some, need_of (by
      have : ((xs.take i).length + 1) * K ≤ 1000 * 1000 := Nat.mul_le_mul (by rw [List.length_take]; omega) hK
      omega)]
    rw [List.take_add_one, List.getElem?_eq_getElem hi]
    rfl
  · rw [hf, if_neg (by omega), List.drop_length, List.take_length]
    rfl
end
/-! What is read. -/
noncomputable def itPair (s : Str) (b : Bool) : Option (A2 Int × Str × Bool) := (image_reader_num s b).bind fun r1 => (image_reader_num r1.2.1 r1.2.2).bind fun r2 => some (⟨r1.1, r2.1⟩, r2.2.1, r2.2.2)
def okPair (p : A2 Int) : Prop := I32 p.a0 ∧ I32 p.a1
theorem two_app (a b : Int) (s : Str) : nums [a, b] ++ s = four8 a ++ (four8 b ++ s) := by simp [nums]
theorem itPair_t (s : Str) (b : Bool) : Tot (itPair s b) fun r => r.2.2 = false → b = false ∧ okPair r.1 ∧ s = encPair r.1 ++ r.2.1 := by
  unfold itPair
  refine (num_t s b).bind fun r1 h1 => (num_t _ _).bind fun r2 h2 => Tot.mk fun h => ?_
  obtain ⟨a1, a2, a3⟩ := h2 h
  obtain ⟨b1, b2, b3⟩ := h1 a1
  refine ⟨b1, ⟨b2, a2⟩, ?_⟩
  unfold encPair
  rw [two_app, ← a3]; exact b3
theorem itPair_f (x : A2 Int) (s : Str) (h : okPair x) : itPair (encPair x ++ s) false = some (x, s, false) := by
  unfold itPair encPair
  rw [two_app, num_fwd h.1, Option.bind_some, num_fwd h.2]; rfl
noncomputable def itSite (s : Str) (b : Bool) : Option (api_Site × Str × Bool) := (image_reader_num s b).bind fun r1 => (image_reader_num r1.2.1 r1.2.2).bind fun r2 => some (⟨[], r1.1, r2.1⟩, r2.2.1, r2.2.2)
def okSite (x : api_Site) : Prop := x.Name = [] ∧ I32 x.From ∧ I32 x.To
theorem itSite_t (s : Str) (b : Bool) : Tot (itSite s b) fun r => r.2.2 = false → b = false ∧ okSite r.1 ∧ s = encSite r.1 ++ r.2.1 := by
  unfold itSite
  refine (num_t s b).bind fun r1 h1 => (num_t _ _).bind fun r2 h2 => Tot.mk fun h => ?_
  obtain ⟨a1, a2, a3⟩ := h2 h
  obtain ⟨b1, b2, b3⟩ := h1 a1
  refine ⟨b1, ⟨rfl, b2, a2⟩, ?_⟩
  unfold encSite
  rw [two_app, ← a3]; exact b3
theorem itSite_f (x : api_Site) (s : Str) (h : okSite x) : itSite (encSite x ++ s) false = some (x, s, false) := by
  unfold itSite encSite
  rw [two_app, num_fwd h.2.1, Option.bind_some, num_fwd h.2.2]
  obtain ⟨a, b, c⟩ := x
  obtain rfl : a = [] := h.1
  rfl
noncomputable def itVar (s : Str) (b : Bool) : Option (api_Var × Str × Bool) := (image_reader_num s b).bind fun r1 => (image_reader_num r1.2.1 r1.2.2).bind fun r2 => (image_reader_num r2.2.1 r2.2.2).bind fun r3 => (image_reader_num r3.2.1 r3.2.2).bind fun r4 => (image_reader_num r4.2.1 r4.2.2).bind fun r5 => (image_reader_num r5.2.1 r5.2.2).bind fun r6 =>
  some (⟨[], ⟨r1.1, r2.1, r3.1⟩, r4.1, r5.1, r6.1⟩, r6.2.1, r6.2.2)
def okVar (x : api_Var) : Prop := x.Name = [] ∧ I32 x.Type_.Kind ∧ I32 x.Type_.Low ∧ I32 x.Type_.Len ∧ I32 x.Mode ∧ I32 x.Label ∧ I32 x.Safe
theorem six_app (a b c d e g : Int) (s : Str) : nums [a, b, c, d, e, g] ++ s = four8 a ++ (four8 b ++ (four8 c ++ (four8 d ++ (four8 e ++ (four8 g ++ s))))) := by simp [nums]
theorem itVar_t (s : Str) (b : Bool) : Tot (itVar s b) fun r => r.2.2 = false → b = false ∧ okVar r.1 ∧ s = encVar r.1 ++ r.2.1 := by
  unfold itVar
  refine (num_t s b).bind fun r1 h1 => (num_t _ _).bind fun r2 h2 => (num_t _ _).bind fun r3 h3 => (num_t _ _).bind fun r4 h4 => (num_t _ _).bind fun r5 h5 => (num_t _ _).bind fun r6 h6 => Tot.mk fun h => ?_
  obtain ⟨f1, f2, f3⟩ := h6 h
  obtain ⟨e1, e2, e3⟩ := h5 f1
  obtain ⟨d1, d2, d3⟩ := h4 e1
  obtain ⟨c1, c2, c3⟩ := h3 d1
  obtain ⟨a1, a2, a3⟩ := h2 c1
  obtain ⟨b1, b2, b3⟩ := h1 a1
  refine ⟨b1, ⟨rfl, b2, a2, c2, d2, e2, f2⟩, ?_⟩
  unfold encVar
  rw [six_app, ← f3, ← e3, ← d3, ← c3, ← a3]; exact b3
theorem itVar_f (x : api_Var) (s : Str) (h : okVar x) : itVar (encVar x ++ s) false = some (x, s, false) := by
  obtain ⟨h0, h1, h2, h3, h4, h5, h6⟩ := h
  unfold itVar encVar
  rw [six_app, num_fwd h1, Option.bind_some, num_fwd h2, Option.bind_some, num_fwd h3, Option.bind_some, num_fwd h4, Option.bind_some, num_fwd h5, Option.bind_some, num_fwd h6]
  obtain ⟨a, ⟨b, c, d⟩, e, f, g⟩ := x
  obtain rfl : a = [] := h0
  rfl
noncomputable def itBlock (s : Str) (b : Bool) : Option (api_Block × Str × Bool) := (image_reader_text s b).bind fun r1 => (image_reader_num r1.2.1 r1.2.2).bind fun r2 => some (⟨[], r1.1, r2.1⟩, r2.2.1, r2.2.2)
def okBlock (x : api_Block) : Prop := x.Name = [] ∧ x.Kind.length ≤ 32 ∧ I32 x.Label
theorem itBlock_t (s : Str) (b : Bool) : Tot (itBlock s b) fun r => r.2.2 = false → b = false ∧ okBlock r.1 ∧ s = encBlock r.1 ++ r.2.1 := by
  unfold itBlock
  refine (text_t s b).bind fun r1 h1 => (num_t _ _).bind fun r2 h2 => Tot.mk fun h => ?_
  obtain ⟨a1, a2, a3⟩ := h2 h
  obtain ⟨b1, b2, b3⟩ := h1 a1
  refine ⟨b1, ⟨rfl, b2, a2⟩, ?_⟩
  unfold encBlock
  rw [List.append_assoc, ← a3]; exact b3
theorem itBlock_f (x : api_Block) (s : Str) (h : okBlock x) : itBlock (encBlock x ++ s) false = some (x, s, false) := by
  unfold itBlock encBlock
  rw [List.append_assoc, text_fwd h.2.1, Option.bind_some, num_fwd h.2.2]
  obtain ⟨a, b, c⟩ := x
  obtain rfl : a = [] := h.1
  rfl
def okTask (k : Nat) (x : api_Task) : Prop := I32 x.Every ∧ I32 x.Priority ∧ x.Budget.length = k ∧ (∀ n ∈ x.Budget, I32 n) ∧ x.Body = []
noncomputable def itTask (names : List Str) (s : Str) (b : Bool) : Option (api_Task × Str × Bool) := (image_reader_num s b).bind fun r1 => (image_reader_num r1.2.1 r1.2.2).bind fun r2 => (loop (image_Decode_L7 names) (r2.2.1, r2.2.2, [], 0)).bind fun p => some (⟨r1.1, r2.1, p.2.2, []⟩, p.1, p.2.1)
theorem hf7 (names : List Str) : ∀ s b xs (i : Nat), image_Decode_L7 names (s, b, xs, i) = if (i : Int) < (names.length : Int) then ((image_reader_num s b).bind fun r => need ((xs.length + 1) * 8 ≤ 140737488355328) (some (.inl (r.2.1, r.2.2, xs ++ [r.1], i + 1)))) else some (.inr (s, b, xs)) := fun _ _ _ _ => rfl
theorem itTask_t (names : List Str) (hn : names.length ≤ 8) (s : Str) (b : Bool) : Tot (itTask names s b) fun r => r.2.2 = false → b = false ∧ okTask names.length r.1 ∧ s = encTask r.1 ++ r.2.1 := by
  unfold itTask
  refine (num_t s b).bind fun r1 h1 => (num_t _ _).bind fun r2 h2 => ?_
  refine (rd_t (hf7 names) num_t (by omega) (by omega) (by omega) _ _).bind fun p ⟨hl, hp⟩ => Tot.mk fun h => ?_
  obtain ⟨c1, c2, c3⟩ := hp h
  obtain ⟨a1, a2, a3⟩ := h2 c1
  obtain ⟨b1, b2, b3⟩ := h1 a1
  refine ⟨b1, ⟨b2, a2, by simp only; omega, c2, rfl⟩, ?_⟩
  unfold encTask
  rw [List.append_assoc, two_app]
  unfold nums
  rw [← c3, ← a3]; exact b3
theorem itTask_f (names : List Str) (hn : names.length ≤ 8) (x : api_Task) (s : Str) (h : okTask names.length x) : itTask names (encTask x ++ s) false = some (x, s, false) := by
  obtain ⟨h1, h2, h3, h4, h5⟩ := h
  unfold itTask encTask
  rw [List.append_assoc, two_app, num_fwd h1, Option.bind_some, num_fwd h2, Option.bind_some]
  unfold nums
  rw [rd_fwd (hf7 names) (fun x s h => num_fwd h s) (by omega) h4 (by omega) (by omega)]
  obtain ⟨a, b, c, d⟩ := x
  obtain rfl : d = [] := h5
  rfl
end Go.Lz
