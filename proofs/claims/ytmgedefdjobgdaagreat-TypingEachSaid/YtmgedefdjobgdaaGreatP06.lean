/- P06: terms of their form: how deep and how great they are; their texts, and how long these are. -/
import Derived.Test.YtmgedefdjobgdaaGreatV06
import Derived.Test.YtmgedefdjobgdaaGreatP05
import Derived.Test.YtmgedefdjobgdaaGreatPd
namespace Go.Lz
set_option linter.unusedVariables false
set_option linter.unusedSimpArgs false
mutual
def fmE : api_Expr → Prop
  | ⟨op, N, K, name, args⟩ => lazarettoref06_form ⟨op, N, K, name, args⟩ = some true ∧ fmEs args
def fmEs : List api_Expr → Prop
  | [] => True
  | e :: es => fmE e ∧ fmEs es
end
theorem fmE_eq (e : api_Expr) : fmE e = (lazarettoref06_form e = some true ∧ fmEs e.Args) := by cases e; rw [fmE]
theorem fmEs_app : ∀ {l m : List api_Expr}, fmEs (l ++ m) ↔ fmEs l ∧ fmEs m
  | [], m => by simp [fmEs]
  | e :: es, m => by rw [List.cons_append, fmEs, fmEs, fmEs_app (l := es), and_assoc]
theorem fmEs_mem : ∀ {l : List api_Expr}, fmEs l → ∀ x ∈ l, fmE x
  | [], _, x, hx => by cases hx
  | e :: es, h, x, hx => by
    rw [fmEs] at h
    rcases List.mem_cons.1 hx with rfl | hx
    · exact h.1
    · exact fmEs_mem h.2 x hx
/-- What a form is. -/
structure FormE (e : api_Expr) : Prop where
  name : e.Name.length ≤ 32
  n0 : 0 ≤ e.N
  n1 : e.N ≤ 2147483647
  ops : (e.Op = 1 ∧ e.Args.length = 0 ∧ (e.Kind = 1 ∨ e.Kind = 2 ∨ e.Kind = 3 ∨ e.Kind = 4)) ∨ (e.Op = 2 ∧ e.Args.length = 0) ∨ (e.Op = 4 ∧ e.Args.length = 0) ∨ (e.Op = 3 ∧ e.Args.length = 1) ∨ (e.Op = 21 ∧ e.Args.length = 1) ∨ (e.Op = 5 ∧ e.Args.length = 1) ∨ (e.Op = 6 ∧ e.Args.length = 1) ∨ (7 ≤ e.Op ∧ e.Op ≤ 20 ∧ e.Args.length = 2)
theorem form_t (e : api_Expr) : Tot (lazarettoref06_form e) fun b => b = true → FormE e := by
  have no : ∀ {Q : Prop}, Tot (some false) fun b => b = true → Q := Tot.mk fun h => by cases h
  have nm : e.Name = [] → e.Name.length ≤ 32 := fun h => by rw [h]; exact Nat.zero_le _
  unfold lazarettoref06_form
  refine Tot.ite (fun o1 => ?_) fun o1 => ?_
  · refine Tot.ite (fun n0 => ?_) fun _ => no
    have fin : ∀ {m : Int}, m ≤ 2147483647 → (e.Kind = 1 ∨ e.Kind = 2 ∨ e.Kind = 3 ∨ e.Kind = 4) → Tot (if e.N ≤ m then (if (e.Args.length : Int) = 0 then (some (decide (e.Name = []))) else (some false)) else (some false)) fun b => b = true → FormE e := fun hm hk =>
      Tot.ite (fun n1 => Tot.ite (fun a0 => Tot.mk fun h => ⟨nm (of_decide_eq_true h), n0, by omega, .inl ⟨o1, by omega, hk⟩⟩) fun _ => no) fun _ => no
    refine Tot.ite (fun k => Tot.ite (fun n1 => Tot.ite (fun a0 => Tot.mk fun h => ⟨nm (of_decide_eq_true h), n0, by omega, .inl ⟨o1, by omega, .inl k⟩⟩) fun _ => no) fun _ => Tot.ite (fun k2 => by omega) fun _ => Tot.ite (fun k2 => by omega) fun _ => Tot.ite (fun k2 => by omega) fun _ => no) fun k1 => ?_
    refine Tot.ite (fun k => Tot.ite (fun n1 => Tot.ite (fun a0 => Tot.mk fun h => ⟨nm (of_decide_eq_true h), n0, by omega, .inl ⟨o1, by omega, .inr (.inl k)⟩⟩) fun _ => no) fun _ => Tot.ite (fun k2 => by omega) fun _ => Tot.ite (fun k2 => by omega) fun _ => no) fun k2 => ?_
    exact Tot.ite (fun k => fin (by decide) (.inr (.inr (.inl k)))) fun k3 => Tot.ite (fun k => fin (by decide) (.inr (.inr (.inr k)))) fun _ => no
  · refine Tot.ite (fun k0 => ?_) fun _ => no
    refine Tot.ite (fun o => Tot.ite (fun a => Tot.ite (fun n => (name_t _).bind fun b hb => Tot.mk fun h => ⟨(hb h).1, by omega, by omega, .inr (.inl ⟨o, by omega⟩)⟩) fun _ => no) fun _ => no) fun o2 => ?_
    refine Tot.ite (fun o => Tot.ite (fun a => Tot.ite (fun n => Tot.ite (fun n' => (name_t _).bind fun b hb => Tot.mk fun h => ⟨(hb h).1, by omega, by omega, .inr (.inr (.inl ⟨o, by omega⟩))⟩) fun _ => no) fun _ => no) fun _ => no) fun o4 => ?_
    refine Tot.ite (fun o => Tot.ite (fun a => Tot.ite (fun n => (name_t _).bind fun b hb => Tot.mk fun h => ⟨(hb h).1, by omega, by omega, .inr (.inr (.inr (.inl ⟨o, by omega⟩)))⟩) fun _ => no) fun _ => no) fun o3 => ?_
    refine Tot.ite (fun o => Tot.ite (fun a => Tot.ite (fun n => (name_t _).bind fun b hb => Tot.mk fun h => ⟨(hb h).1, by omega, by omega, .inr (.inr (.inr (.inr (.inl ⟨o, by omega⟩))))⟩) fun _ => no) fun _ => no) fun o21 => ?_
    refine Tot.ite (fun o => Tot.ite (fun a => Tot.ite (fun n => Tot.mk fun h => ⟨nm (of_decide_eq_true h), by omega, by omega, .inr (.inr (.inr (.inr (.inr (.inl ⟨o, by omega⟩)))))⟩) fun _ => no) fun _ => no) fun o5 => ?_
    refine Tot.ite (fun o => Tot.ite (fun a => Tot.ite (fun n => Tot.mk fun h => ⟨nm (of_decide_eq_true h), by omega, by omega, .inr (.inr (.inr (.inr (.inr (.inr (.inl ⟨o, by omega⟩))))))⟩) fun _ => no) fun _ => no) fun o6 => ?_
    exact Tot.ite (fun o => Tot.ite (fun o' => Tot.ite (fun a => Tot.ite (fun n => Tot.mk fun h => ⟨nm (of_decide_eq_true h), by omega, by omega, .inr (.inr (.inr (.inr (.inr (.inr (.inr ⟨o, o', by omega⟩))))))⟩) fun _ => no) fun _ => no) fun _ => no) fun _ => no
theorem fmE_form {e : api_Expr} (h : fmE e) : FormE e := by
  rw [fmE_eq] at h
  obtain ⟨b, hb, hq⟩ := form_t e
  rw [h.1] at hb; cases hb
  exact hq rfl
theorem take_get {α : Type} {l : List α} {i : Nat} (h : i < l.length) : l.take (i + 1) = l.take i ++ [l[i]] := by rw [List.take_add_one]; simp [h]
/-- How great a term is at least; what it lets in. -/
theorem brief_t : ∀ (d fuel : Nat), d < fuel → d ≤ 1000 → ∀ (e : api_Expr) (left : Int), left ≤ 1000000 → Tot (lazarettoref06_brief_g fuel e (d : Int) left) fun r => r ≤ left ∧ -1 ≤ r ∧ (0 ≤ r → fmE e ∧ depE e ≤ d ∧ (szE e : Int) + r ≤ left) ∨ left < 0 ∧ r = -1
  | d, 0, h, _, _, _, _ => by omega
  | 0, fuel + 1, _, _, e, left, _ => by
    unfold lazarettoref06_brief_g lazarettoref06_brief_b
    exact Tot.ite (fun _ => Tot.mk (by omega)) fun h => by omega
  | d + 1, fuel + 1, h, hd, e, left, hl => by
    have e1 : w64 (((d + 1 : Nat) : Int) - 1) = (d : Int) := by rw [w64_id (by omega) (by omega)]; omega
    unfold lazarettoref06_brief_g lazarettoref06_brief_b
    refine Tot.ite (fun h => by omega) fun _ => Tot.ite (fun h => Tot.mk (.inr ⟨h, rfl⟩)) fun hl0 => ?_
    obtain ⟨b, hb, _⟩ := form_t e
    rw [hb, Option.bind_some]
    refine Tot.ite (fun hbt => ?_) fun _ => Tot.mk (.inl ⟨by omega, by omega, by omega⟩)
    subst hbt
    rw [w64_id (n := left - 1) (by omega) (by omega)]
    refine Tot.bind (Tot.loop (fun x => x.2 ≤ e.Args.length ∧ x.1 ≤ left - 1 ∧ -1 ≤ x.1 ∧ (0 ≤ x.1 → fmEs (e.Args.take x.2) ∧ depEs (e.Args.take x.2) ≤ d ∧ (szEs (e.Args.take x.2) : Int) + x.1 ≤ left - 1))
      (R := fun r => r ≤ left ∧ -1 ≤ r ∧ (0 ≤ r → fmE e ∧ depE e ≤ d + 1 ∧ (szE e : Int) + r ≤ left)) (fun x => e.Args.length - x.2) ⟨by simp, by simp, by simp only; omega, fun _ => by simp [fmEs, depEs, szEs]⟩ fun ⟨l, i⟩ ⟨a0, a1, a2, a3⟩ => ?_) fun r hr => Tot.mk (.inl hr)
    simp only at a0 a1 a2 a3
    unfold lazarettoref06_brief_L1
    refine Tot.ite (fun hi => ?_) fun hi => Tot.mk ⟨by omega, a2, fun h0 => ?_⟩
    · refine Tot.ite (fun h0 => ?_) fun h0 => Tot.mk ⟨by omega, a2, by omega⟩
      have hi' : i < e.Args.length := by omega
      refine (Tot.get hi').bind fun x hx => ?_
      rw [e1, hx.2]
      refine (brief_t d fuel (by omega) (by omega) _ l (by omega)).bind fun r hr => Tot.mk ⟨⟨hi', ?_, ?_, fun hr0 => ?_⟩, by simp only; omega⟩
      · simp only; omega
      · simp only; omega
      · simp only at hr0 ⊢
        obtain ⟨b0, b1, b2⟩ := a3 h0
        rcases hr with ⟨_, _, hr⟩ | ⟨hr, _⟩
        · obtain ⟨c0, c1, c2⟩ := hr hr0
          rw [take_get hi', fmEs_app, depEs_app, szEs_app]
          simp only [fmEs, depEs, szEs]
          exact ⟨⟨b0, c0, trivial⟩, by omega, by omega⟩
        · omega
    · have : i = e.Args.length := by omega
      subst this
      obtain ⟨b0, b1, b2⟩ := a3 h0
      rw [List.take_length] at b0 b1 b2
      rw [fmE_eq, depE_eq, szE_eq]
      exact ⟨⟨hb, b0⟩, by omega, by omega⟩
theorem brief_24 (e : api_Expr) : Tot (lazarettoref06_brief e 24 16384) fun r => 0 ≤ r → fmE e ∧ depE e ≤ 24 ∧ szE e ≤ 16384 :=
  (brief_t 24 1000000 (by omega) (by omega) e 16384 (by omega)).imp fun r hr h0 => by
    rcases hr with ⟨_, _, h⟩ | ⟨h, _⟩
    · obtain ⟨a, b, c⟩ := h h0; exact ⟨a, b, by omega⟩
    · omega
theorem level_t (op : Int) : Tot (lazarettoref06_level op) fun _ => True := by
  unfold lazarettoref06_level
  repeat' (first | exact Tot.mk trivial | refine Tot.ite (fun _ => ?_) (fun _ => ?_))
theorem signs_t (l : Int) : Tot (lazarettoref06_signs l) fun r => r.1.length ≤ 14 := by
  unfold lazarettoref06_signs
  repeat' (first | exact Tot.mk (by decide) | refine Tot.ite (fun _ => ?_) (fun _ => ?_))
theorem sign_t (op : Int) : Tot (lazarettoref06_sign op) fun r => r.length ≤ 14 := by
  unfold lazarettoref06_sign
  refine (level_t op).bind fun l _ => (signs_t l).bind fun x hx => ?_
  obtain ⟨names, first⟩ := x
  simp only at hx
  refine Tot.bind (Tot.loop (fun x => 0 ≤ x.2.1 ∧ x.2.1 ≤ (x.2.2 : Int) ∧ x.2.2 ≤ names.length + 1) (R := fun r => match r with | .inl r => r.length ≤ 14 | .inr () => True) (fun x => names.length + 1 - x.2.2) ⟨by simp, by simp, by simp⟩ fun ⟨k, fr, i⟩ ⟨h0, h1, h2⟩ => ?_) fun r hr => by
    cases r with
    | inl r => exact Tot.mk hr
    | inr r => exact Tot.mk (by simp)
  simp only at h0 h1 h2
  unfold lazarettoref06_sign_L1
  refine Tot.ite (fun h => ?_) fun _ => Tot.mk trivial
  simp only at h
  have e : w64 ((i : Int) + 1) = (i : Int) + 1 := w64_id (by omega) (by omega)
  have dl : ((names.take i).drop fr.toNat).length ≤ 14 := by simp only [List.length_drop, List.length_take]; omega
  refine Tot.ite (fun _ => Tot.ite (fun _ => Tot.need ⟨h0, h1, h⟩ (Tot.mk dl)) fun _ => Tot.mk ⟨⟨by rw [e]; simp only; omega, by rw [e]; simp only; omega, by simp only; omega⟩, by simp only; omega⟩) fun hne => ?_
  simp only at hne
  exact (Tot.get (by simp only; omega)).bind fun c _ => Tot.ite (fun _ => Tot.ite (fun _ => Tot.need ⟨h0, h1, h⟩ (Tot.mk dl)) fun _ => Tot.mk ⟨⟨by rw [e]; simp only; omega, by rw [e]; simp only; omega, by simp only; omega⟩, by simp only; omega⟩) fun _ => Tot.mk ⟨⟨h0, by simp only; omega, by simp only; omega⟩, by simp only; omega⟩
theorem args_get {l : List api_Expr} {i : Nat} (h : i < l.length) : Tot l[i]? fun x => x ∈ l ∧ depE x ≤ depEs l ∧ szE x ≤ szEs l :=
  (Tot.get h).imp fun x hx => ⟨hx.1, depEs_mem hx.1, szEs_mem hx.1⟩
theorem two_args {l : List api_Expr} (h : l.length = 2) : ∃ a b, l = [a, b] := by
  match l, h with
  | [a, b], _ => exact ⟨a, b, rfl⟩
/-- A term's text. -/
theorem text_t : ∀ (n : Nat), (∀ e, fmE e → 2 * depE e ≤ n → szE e ≤ 1000000 → Tot ((lazarettoref06_text_g n).1 e) fun r => r.length ≤ 64 * szE e) ∧ (∀ e least, fmE e → 2 * depE e + 1 ≤ n → szE e ≤ 1000000 → Tot ((lazarettoref06_text_g n).2 e least) fun r => r.length ≤ 64 * szE e + 2)
  | 0 => ⟨fun e _ h _ => by rw [depE_eq] at h; omega, fun e _ _ h _ => by omega⟩
  | n + 1 => by
    obtain ⟨ih1, ih2⟩ := text_t n
    constructor
    · intro e ok hd hs
      have F := fmE_form ok
      rw [fmE_eq] at ok
      rw [depE_eq] at hd
      rw [szE_eq] at hs ⊢
      have hn := F.name
      have hn0 := F.n0
      have hn1 := F.n1
      show Tot (lazarettoref06_text_b (lazarettoref06_text_g n).1 (lazarettoref06_text_g n).2 e) _
      unfold lazarettoref06_text_b
      refine Tot.ite (fun o1 => ?_) fun o1 => ?_
      · refine Tot.ite (fun _ => Tot.ite (fun _ => Tot.mk (by simp only [List.length_cons, List.length_nil]; omega)) fun _ => Tot.mk (by simp only [List.length_cons, List.length_nil]; omega)) fun _ => ?_
        refine Tot.ite (fun _ => (digits_t _ hn0 (by omega)).bind fun r hr => Tot.need (by omega) (Tot.need (by omega) (Tot.mk (by simp only [List.length_append, List.length_cons, List.length_nil]; omega)))) fun _ => ?_
        refine Tot.ite (fun _ => (digits_t _ hn0 (by omega)).bind fun r hr => Tot.need (by omega) (Tot.need (by omega) (Tot.mk (by simp only [List.length_append, List.length_cons, List.length_nil]; omega)))) fun _ => ?_
        exact (digits_t _ hn0 (by omega)).bind fun r hr => Tot.mk (by omega)
      refine Tot.ite (fun _ => Tot.mk (by omega)) fun o2 => ?_
      refine Tot.ite (fun _ => Tot.need (by omega) ((digits_t _ hn0 (by omega)).bind fun r hr => Tot.need (by omega) (Tot.mk (by simp only [List.length_append, List.length_cons, List.length_nil]; omega)))) fun o4 => ?_
      refine Tot.ite (fun o => ?_) fun o3 => ?_
      · have hl : 0 < e.Args.length := by have := F.ops; omega
        refine Tot.need (by omega) ((args_get hl).bind fun x hx => (ih1 x (fmEs_mem ok.2 x hx.1) (by omega) (by omega)).bind fun r hr => Tot.need (by omega) (Tot.need (by omega) (Tot.mk (by simp only [List.length_append, List.length_cons, List.length_nil]; omega))))
      refine Tot.ite (fun o => ?_) fun o21 => ?_
      · have hl : 0 < e.Args.length := by have := F.ops; omega
        refine Tot.need (by omega) (Tot.need (by omega) ((args_get hl).bind fun x hx => (ih1 x (fmEs_mem ok.2 x hx.1) (by omega) (by omega)).bind fun r hr => Tot.need (by omega) (Tot.need (by omega) (Tot.mk (by simp only [List.length_append, List.length_cons, List.length_nil]; omega)))))
      refine Tot.ite (fun o => ?_) fun o5 => ?_
      · have hl : 0 < e.Args.length := by have := F.ops; omega
        exact (args_get hl).bind fun x hx => (ih2 x 7 (fmEs_mem ok.2 x hx.1) (by omega) (by omega)).bind fun r hr => Tot.need (by omega) (Tot.mk (by simp only [List.length_append, List.length_cons, List.length_nil]; omega))
      refine Tot.ite (fun o => ?_) fun o6 => ?_
      · have hl : 0 < e.Args.length := by have := F.ops; omega
        exact (args_get hl).bind fun x hx => (ih2 x 7 (fmEs_mem ok.2 x hx.1) (by omega) (by omega)).bind fun r hr => Tot.need (by omega) (Tot.mk (by simp only [List.length_append, List.length_cons, List.length_nil]; omega))
      have hl : e.Args.length = 2 := by have := F.ops; omega
      obtain ⟨a, b, hab⟩ := two_args hl
      rw [hab] at ok hd hs ⊢
      simp only [fmEs, depEs, szEs] at ok hd hs
      obtain ⟨_, oka, okb, _⟩ := ok
      simp only [List.getElem?_cons_zero, List.getElem?_cons_succ, Option.bind_some, szEs]
      exact (level_t _).bind fun k _ => (ih2 a k oka (by omega) (by omega)).bind fun r hr => Tot.need (by omega) ((sign_t _).bind fun s hs => Tot.need (by omega) (Tot.need (by omega) ((ih2 b _ okb (by omega) (by omega)).bind fun r' hr' => Tot.need (by omega) (Tot.mk (by simp only [List.length_append, List.length_cons, List.length_nil]; omega)))))
    · intro e least ok hd hs
      show Tot (lazarettoref06_part_b (lazarettoref06_text_g n).1 (lazarettoref06_text_g n).2 e least) _
      unfold lazarettoref06_part_b
      exact (level_t _).bind fun k _ => Tot.ite (fun _ => (ih1 e ok (by omega) hs).bind fun r hr => Tot.need (by omega) (Tot.need (by omega) (Tot.mk (by simp only [List.length_append, List.length_cons, List.length_nil]; omega)))) fun _ => (ih1 e ok (by omega) hs).bind fun r hr => Tot.mk (by omega)
theorem text06 {e : api_Expr} (ok : fmE e) (hd : depE e ≤ 1000) (hs : szE e ≤ 1000000) : Tot (lazarettoref06_text e) fun r => r.length ≤ 64 * szE e := (text_t 1000000).1 e ok (by omega) hs
theorem check06 (e : api_Expr) : Tot (lazarettoref06_Check e) fun b => b = true → fmE e ∧ depE e ≤ 24 ∧ szE e ≤ 16384 ∧ ∃ t, lazarettoref06_text e = some t ∧ t.length ≤ 16384 := by
  unfold lazarettoref06_Check
  refine (brief_24 e).bind fun r hr => Tot.ite (fun h0 => ?_) fun _ => Tot.mk fun h => by cases h
  obtain ⟨ok, hd, hs⟩ := hr h0
  obtain ⟨t, ht, hl⟩ := text06 ok (by omega) (by omega)
  rw [ht, Option.bind_some]
  exact Tot.mk fun h => ⟨ok, hd, hs, t, rfl, by have := of_decide_eq_true h; omega⟩
theorem print06 (e : api_Expr) : Tot (lazarettoref06_Print e) fun t => t.length ≤ 16384 := by
  unfold lazarettoref06_Print
  refine (check06 e).bind fun b hb => Tot.ite (fun h => ?_) fun _ => Tot.mk (by simp)
  obtain ⟨_, _, _, t, ht, hl⟩ := hb h
  rw [ht, Option.bind_some]
  exact Tot.mk hl
/-- Is it no term? -/
theorem same06_none (e : api_Expr) : Tot (lazarettoref06_Same e ⟨0, 0, 0, [], []⟩) fun b => b = true → e = ⟨0, 0, 0, [], []⟩ := by
  show Tot (lazarettoref06_Same_b (lazarettoref06_Same_g 999999) e _) _
  unfold lazarettoref06_Same_b
  refine Tot.ite (fun h1 => Tot.ite (fun h2 => Tot.ite (fun h3 => Tot.ite (fun h4 => Tot.ite (fun h5 => ?_) fun _ => Tot.mk fun h => by cases h) fun _ => Tot.mk fun h => by cases h) fun _ => Tot.mk fun h => by cases h) fun _ => Tot.mk fun h => by cases h) fun _ => Tot.mk fun h => by cases h
  have h5' : e.Args.length = 0 := by simpa using h5
  rw [loop_inr (r := .inr ()) (by simp [lazarettoref06_Same_L1, h5']), Option.bind_some]
  refine Tot.mk fun _ => ?_
  obtain ⟨op, N, K, name, args⟩ := e
  simp only at h1 h2 h3 h4 h5'
  rw [h1, h2, h3, h4, List.eq_nil_of_length_eq_zero h5']
end Go.Lz
