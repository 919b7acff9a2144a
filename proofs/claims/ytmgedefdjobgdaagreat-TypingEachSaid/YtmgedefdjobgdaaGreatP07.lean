/- P07: statements of their form: what they are, how many; their texts, and how long these are. -/
import Derived.Test.YtmgedefdjobgdaaGreatV07
import Derived.Test.YtmgedefdjobgdaaGreatP06
namespace Go.Lz
set_option linter.unusedVariables false
set_option linter.unusedSimpArgs false
abbrev noE : api_Expr := ⟨0, 0, 0, [], []⟩
mutual
def nS : api_Stmt → Nat
  | ⟨_, _, _, _, _, body, els⟩ => nSs body + nSs els + 1
def nSs : List api_Stmt → Nat
  | [] => 0
  | s :: ss => nS s + nSs ss
end
theorem nS_eq (s : api_Stmt) : nS s = nSs s.Body + nSs s.Else + 1 := by cases s; rw [nS]
theorem nSs_app : ∀ {l m : List api_Stmt}, nSs (l ++ m) = nSs l + nSs m
  | [], m => by simp [nSs]
  | e :: es, m => by rw [List.cons_append, nSs, nSs, nSs_app (l := es)]; omega
mutual
def fmS : api_Stmt → Prop
  | ⟨kind, name, target, value, args, body, els⟩ => lazarettoref07_form ⟨kind, name, target, value, args, body, els⟩ = some true ∧ fmSs body ∧ fmSs els
def fmSs : List api_Stmt → Prop
  | [] => True
  | s :: ss => fmS s ∧ fmSs ss
end
theorem fmS_eq (s : api_Stmt) : fmS s = (lazarettoref07_form s = some true ∧ fmSs s.Body ∧ fmSs s.Else) := by cases s; rw [fmS]
theorem fmSs_app : ∀ {l m : List api_Stmt}, fmSs (l ++ m) ↔ fmSs l ∧ fmSs m
  | [], m => by simp [fmSs]
  | e :: es, m => by rw [List.cons_append, fmSs, fmSs, fmSs_app (l := es), and_assoc]
theorem fmSs_mem : ∀ {l : List api_Stmt}, fmSs l → ∀ x ∈ l, fmS x
  | [], _, x, hx => by cases hx
  | e :: es, h, x, hx => by
    rw [fmSs] at h
    rcases List.mem_cons.1 hx with rfl | hx
    · exact h.1
    · exact fmSs_mem h.2 x hx
/-- A term that may be. -/
structure GoodE (e : api_Expr) : Prop where
  ok : fmE e
  dep : depE e ≤ 25
  sz : szE e ≤ 20000
theorem good06' (e : api_Expr) : Tot (lazarettoref06_Check e) fun b => b = true → fmE e ∧ depE e ≤ 24 ∧ szE e ≤ 16384 :=
  (check06 e).imp fun b hb h => ⟨(hb h).1, (hb h).2.1, (hb h).2.2.1⟩
theorem good06 (e : api_Expr) : Tot (lazarettoref06_Check e) fun b => b = true → GoodE e :=
  (good06' e).imp fun b hb h => ⟨(hb h).1, by have := (hb h).2.1; omega, by have := (hb h).2.2; omega⟩
theorem target_t (e : api_Expr) : Tot (lazarettoref07_target e) fun b => b = true → GoodE e ∧ (e.Op = 2 ∨ (e.Op = 3 ∧ e.Args.length = 1)) := by
  have no : ∀ {Q : Prop}, Tot (some false) fun b => b = true → Q := Tot.mk fun h => by cases h
  unfold lazarettoref07_target
  refine Tot.ite (fun o => (good06 e).bind fun b hb => Tot.mk fun h => ⟨hb h, .inl o⟩) fun o2 => Tot.ite (fun o3 => Tot.ite (fun a => Tot.ite (fun n => Tot.ite (fun k => ?_) fun _ => no) fun _ => no) fun _ => no) fun _ => no
  obtain ⟨b, hb, _⟩ := name_t e.Name
  rw [hb, Option.bind_some]
  refine Tot.ite (fun hbt => ?_) fun _ => no
  subst hbt
  obtain ⟨op, N, K, name, args⟩ := e
  simp only at o3 a n k hb ⊢
  subst o3; subst n; subst k
  match args, a with
  | [x], _ =>
    rw [List.getElem?_cons_zero, Option.bind_some]
    refine (good06' x).bind fun b hx => Tot.mk fun h => ⟨?_, .inr ⟨rfl, rfl⟩⟩
    obtain ⟨g1, g2, g3⟩ := hx h
    refine ⟨?_, by simp only [depE, depEs]; omega, by simp only [szE, szEs]; omega⟩
    rw [fmE]
    refine ⟨?_, g1, trivial⟩
    simp [lazarettoref06_form, hb]
theorem none_t (e : api_Expr) : Tot (lazarettoref07_none e) fun b => b = true → e = noE := by
  unfold lazarettoref07_none
  exact (same06_none e).bind fun b hb => Tot.mk hb
theorem args_t (l : List api_Expr) : Tot (lazarettoref07_args l) fun b => b = true → ∀ x ∈ l, GoodE x := by
  unfold lazarettoref07_args
  refine Tot.bind (Tot.loop (fun i => i ≤ l.length ∧ ∀ x ∈ l.take i, GoodE x) (R := fun r => match r with | .inl b => b = true → ∀ x ∈ l, GoodE x | .inr () => ∀ x ∈ l, GoodE x) (fun i => l.length - i) ⟨Nat.zero_le _, by simp⟩ fun i ⟨hi, hI⟩ => ?_) fun r hr => by
    cases r with
    | inl b => exact Tot.mk hr
    | inr u => exact Tot.mk fun _ => hr
  unfold lazarettoref07_args_L1
  refine Tot.ite (fun h => ?_) fun h => Tot.mk ?_
  · have h' : i < l.length := by omega
    refine (Tot.get h').bind fun x hx => (good06 x).bind fun b hb => Tot.ite (fun hbt => Tot.mk ⟨⟨h', fun y hy => ?_⟩, by simp only; omega⟩) fun _ => Tot.mk fun h => by cases h
    rw [take_get h'] at hy
    rcases List.mem_append.1 hy with hy | hy
    · exact hI y hy
    · rw [List.mem_singleton] at hy; rw [hy, ← hx.2]; exact hb hbt
  · have : i = l.length := by omega
    subst this
    rwa [List.take_length] at hI
/-- What a statement's form is. -/
structure FormS (s : api_Stmt) : Prop where
  name : s.Name.length ≤ 32
  args : ∀ x ∈ s.Args, GoodE x
  alen : s.Args.length ≤ 16384
  kinds : (s.Kind = 1 ∧ s.Body = [] ∧ s.Else = [] ∧ s.Args = [] ∧ GoodE s.Target ∧ (s.Target.Op = 2 ∨ (s.Target.Op = 3 ∧ s.Target.Args.length = 1)) ∧ GoodE s.Value) ∨ ((s.Kind = 2 ∨ s.Kind = 3) ∧ s.Args = [] ∧ s.Target = noE ∧ GoodE s.Value) ∨ (s.Kind = 4 ∧ s.Args.length = 2 ∧ s.Target = noE ∧ s.Value = noE) ∨ (s.Kind = 5 ∧ s.Body = [] ∧ s.Else = [] ∧ s.Target = noE ∧ s.Value = noE)
theorem nilL {α : Type} {l : List α} (h : (l.length : Int) = 0) : l = [] := List.eq_nil_of_length_eq_zero (by omega)
theorem formS_t (s : api_Stmt) : Tot (lazarettoref07_form s) fun b => b = true → FormS s := by
  have no : ∀ {Q : Prop}, Tot (some false) fun b => b = true → Q := Tot.mk fun h => by cases h
  have n0 : ∀ {l : Str}, l = [] → l.length ≤ 32 := fun h => by rw [h]; exact Nat.zero_le _
  have a0 : (s.Args.length : Int) = 0 → (∀ x ∈ s.Args, GoodE x) ∧ s.Args.length ≤ 16384 := fun h => by rw [nilL h]; exact ⟨fun x hx => (by cases hx), Nat.zero_le _⟩
  have k2 : (s.Kind = 2 ∨ s.Kind = 3) → s.Name = [] → (s.Args.length : Int) = 0 → Tot ((lazarettoref07_none s.Target).bind fun r_3 => if r_3 = true then ((lazarettoref06_Check s.Value).bind fun r_4 => some r_4) else (some false)) fun b => b = true → FormS s := fun k n a =>
    (none_t _).bind fun b hb => Tot.ite (fun ht => (good06 _).bind fun c hc => Tot.mk fun h => ⟨n0 n, (a0 a).1, (a0 a).2, .inr (.inl ⟨k, nilL a, hb ht, hc h⟩)⟩) fun _ => no
  have k4 : s.Kind = 4 → Tot ((lazarettoref05_Name s.Name).bind fun r_7 => if r_7 = true then (if (s.Args.length : Int) = 2 then ((lazarettoref07_args s.Args).bind fun r_8 => if r_8 = true then (if (s.Else.length : Int) = 0 then ((lazarettoref07_none s.Target).bind fun r_9 => if r_9 = true then ((lazarettoref07_none s.Value).bind fun r_10 => some r_10) else (some false)) else (some false)) else (some false)) else (some false)) else (some false)) fun b => b = true → FormS s := fun k =>
    (name_t _).bind fun b1 h1 => Tot.ite (fun t1 => Tot.ite (fun l => (args_t _).bind fun b2 h2 => Tot.ite (fun t2 => Tot.ite (fun e => (none_t _).bind fun b3 h3 => Tot.ite (fun t3 => (none_t _).bind fun b4 h4 => Tot.mk fun t4 => ⟨(h1 t1).1, h2 t2, by omega, .inr (.inr (.inl ⟨k, by omega, h3 t3, h4 t4⟩))⟩) fun _ => no) fun _ => no) fun _ => no) fun _ => no) fun _ => no
  unfold lazarettoref07_form
  refine Tot.ite (fun hb => ?_) fun hb => ?_
  · refine Tot.ite (fun k => Tot.ite (fun he => Tot.ite (fun n => Tot.ite (fun a => (target_t _).bind fun b1 h1 => Tot.ite (fun t1 => (good06 _).bind fun b2 h2 => Tot.mk fun t2 => ⟨n0 n, (a0 a).1, (a0 a).2, .inl ⟨k, nilL hb, nilL he, nilL a, (h1 t1).1, (h1 t1).2, h2 t2⟩⟩) fun _ => no) fun _ => no) fun _ => no) fun _ => no) fun _ => ?_
    refine Tot.ite (fun k => Tot.ite (fun n => Tot.ite (fun a => k2 (.inl k) n a) fun _ => no) fun _ => no) fun _ => ?_
    refine Tot.ite (fun k => Tot.ite (fun n => Tot.ite (fun a => Tot.ite (fun _ => k2 (.inr k) n a) fun _ => no) fun _ => no) fun _ => no) fun _ => ?_
    refine Tot.ite k4 fun _ => Tot.ite (fun k => Tot.ite (fun he => ?_) fun _ => no) fun _ => no
    exact (name_t _).bind fun b1 h1 => Tot.ite (fun t1 => (none_t _).bind fun b2 h2 => Tot.ite (fun t2 => (none_t _).bind fun b3 h3 => Tot.ite (fun t3 => Tot.ite (fun l => (args_t _).bind fun b4 h4 => Tot.mk fun t4 => ⟨(h1 t1).1, h4 t4, by omega, .inr (.inr (.inr ⟨k, nilL hb, nilL he, h2 t2, h3 t3⟩))⟩) fun _ => no) fun _ => no) fun _ => no) fun _ => no
  · refine Tot.ite (fun _ => no) fun _ => ?_
    refine Tot.ite (fun k => Tot.ite (fun n => Tot.ite (fun a => k2 (.inl k) n a) fun _ => no) fun _ => no) fun _ => ?_
    refine Tot.ite (fun k => Tot.ite (fun n => Tot.ite (fun a => Tot.ite (fun _ => k2 (.inr k) n a) fun _ => no) fun _ => no) fun _ => no) fun _ => ?_
    exact Tot.ite k4 fun _ => Tot.ite (fun _ => no) fun _ => no
theorem fmS_form {s : api_Stmt} (h : fmS s) : FormS s := by
  rw [fmS_eq] at h
  obtain ⟨b, hb, hq⟩ := formS_t s
  rw [h.1] at hb; cases hb
  exact hq rfl
theorem index_t (e : api_Expr) (h : e.Op = 3 → e.Args.length = 1) : Tot (lazarettoref07_index e) fun r => r.length ≤ 16386 := by
  unfold lazarettoref07_index
  refine Tot.ite (fun o => ?_) fun _ => Tot.mk (by simp)
  have hl : 0 < e.Args.length := by have := h o; omega
  exact (Tot.get hl).bind fun x _ => (print06 x).bind fun r hr => Tot.need (by omega) (Tot.need (by omega) (Tot.mk (by simp only [List.length_append, List.length_cons, List.length_nil]; omega)))
theorem head_t {s : api_Stmt} (F : FormS s) : Tot (lazarettoref07_head s) fun r => 1 ≤ r.length ∧ r.length ≤ 300000000 := by
  have hn := F.name
  have ha := F.alen
  unfold lazarettoref07_head
  refine Tot.ite (fun k => ?_) fun k1 => ?_
  · have hi : s.Target.Op = 3 → s.Target.Args.length = 1 := fun h => by have := F.kinds; omega
    exact (print06 _).bind fun r1 h1 => (index_t _ hi).bind fun r2 h2 => Tot.need (by omega) (Tot.need (by omega) ((print06 _).bind fun r3 h3 => Tot.need (by omega) (Tot.need (by omega) (Tot.mk (by simp only [List.length_append, List.length_cons, List.length_nil]; omega)))))
  refine Tot.ite (fun k => (print06 _).bind fun r1 h1 => Tot.need (by omega) (Tot.need (by omega) (Tot.mk (by simp only [List.length_append, List.length_cons, List.length_nil]; omega)))) fun k2 => ?_
  refine Tot.ite (fun k => (print06 _).bind fun r1 h1 => Tot.need (by omega) (Tot.need (by omega) (Tot.mk (by simp only [List.length_append, List.length_cons, List.length_nil]; omega)))) fun k3 => ?_
  refine Tot.ite (fun k => ?_) fun k4 => ?_
  · have hl : s.Args.length = 2 := by have := F.kinds; omega
    exact Tot.need (by omega) (Tot.need (by omega) ((Tot.get (by omega)).bind fun x _ => (print06 x).bind fun r1 h1 => Tot.need (by omega) (Tot.need (by omega) ((Tot.get (by omega)).bind fun y _ => (print06 y).bind fun r2 h2 => Tot.need (by omega) (Tot.need (by omega) (Tot.mk (by simp only [List.length_append, List.length_cons, List.length_nil]; omega)))))))
  refine Tot.need (by omega) (Tot.bind (Tot.loop (fun x => x.2 ≤ s.Args.length ∧ x.1.length ≤ 33 + 16386 * x.2) (R := fun r => r.length ≤ 299999900) (fun x => s.Args.length - x.2) ⟨Nat.zero_le _, by simp only [List.length_append, List.length_cons, List.length_nil]; omega⟩ fun ⟨t, i⟩ ⟨hi, hI⟩ => ?_) fun r hr => Tot.need (by omega) (Tot.mk (by simp only [List.length_append, List.length_cons, List.length_nil]; omega)))
  simp only at hi hI
  unfold lazarettoref07_head_L1
  refine Tot.ite (fun h => ?_) fun h => Tot.mk (show t.length ≤ 299999900 by omega)
  have h' : i < s.Args.length := by omega
  exact Tot.ite (fun _ => Tot.need (by omega) ((Tot.get h').bind fun x _ => (print06 x).bind fun r hr => Tot.need (by omega) (Tot.mk ⟨⟨h', by simp only [List.length_append, List.length_cons, List.length_nil]; omega⟩, by simp only; omega⟩))) fun _ =>
    (Tot.get h').bind fun x _ => (print06 x).bind fun r hr => Tot.need (by omega) (Tot.mk ⟨⟨h', by simp only [List.length_append]; omega⟩, by simp only; omega⟩)
theorem brief07 : ∀ (d fuel : Nat), d < fuel → d ≤ 1000 → ∀ (l : List api_Stmt) (left : Int), left ≤ 1000000 → Tot (lazarettoref07_brief_g fuel l (d : Int) left) fun r => r ≤ 1000000 ∧ (0 ≤ r → fmSs l ∧ (nSs l : Int) + r ≤ left)
  | d, 0, h, _, _, _, _ => by omega
  | d, fuel + 1, h, hd, [], left, hl => by
    unfold lazarettoref07_brief_g lazarettoref07_brief_b
    refine Tot.ite (fun _ => by omega) fun _ => Tot.ite (fun h => by simp at h) fun _ => Tot.ite (fun _ => Tot.mk (by omega)) fun _ => ?_
    rw [loop_inr (r := .inr left) (by simp [lazarettoref07_brief_L2]), Option.bind_some]
    exact Tot.mk ⟨hl, fun _ => ⟨by rw [fmSs]; trivial, by simp [nSs]⟩⟩
  | 0, fuel + 1, _, _, s :: l, left, _ => by
    unfold lazarettoref07_brief_g lazarettoref07_brief_b
    exact Tot.ite (fun _ => Tot.mk (by omega)) fun _ => Tot.ite (fun _ => Tot.ite (fun _ => Tot.mk (by omega)) fun h => by omega) fun h => by simp at h
  | d + 1, fuel + 1, h, hd, s :: l', left, hl => by
    generalize hll : s :: l' = l
    have hpos : 0 < l.length := by rw [← hll]; simp
    have e1 : w64 (((d + 1 : Nat) : Int) - 1) = (d : Int) := by rw [w64_id (by omega) (by omega)]; omega
    unfold lazarettoref07_brief_g lazarettoref07_brief_b
    refine Tot.ite (fun _ => by omega) fun _ => Tot.ite (fun _ => ?_) fun h => by omega
    refine Tot.ite (fun h => by omega) fun _ => Tot.ite (fun _ => Tot.mk (by omega)) fun _ => ?_
    refine Tot.bind (Tot.loop (fun x => x.2 ≤ l.length ∧ x.1 ≤ 1000000 ∧ (0 ≤ x.1 → fmSs (l.take x.2) ∧ (nSs (l.take x.2) : Int) + x.1 ≤ left))
      (R := fun r => match r with | .inl r => r = -1 | .inr r => r ≤ 1000000 ∧ (0 ≤ r → fmSs l ∧ (nSs l : Int) + r ≤ left)) (fun x => l.length - x.2) ⟨Nat.zero_le _, hl, fun _ => ⟨by rw [List.take_zero, fmSs]; trivial, by simp [nSs]⟩⟩ fun ⟨lf, i⟩ ⟨a0, a1, a2⟩ => ?_) fun r hr => by
        cases r with
        | inl r => exact Tot.mk (by simp only at hr; omega)
        | inr r => exact Tot.mk hr
    simp only at a0 a1 a2
    unfold lazarettoref07_brief_L1
    refine Tot.ite (fun hi => ?_) fun hi => Tot.mk ⟨a1, fun h0 => ?_⟩
    · refine Tot.ite (fun h0 => ?_) fun h0 => Tot.mk ⟨a1, fun h => (h0 h).elim⟩
      have hi' : i < l.length := by omega
      obtain ⟨b0, b1⟩ := a2 h0
      rw [List.getElem?_eq_getElem hi', Option.bind_some]
      generalize hx : l[i] = x
      obtain ⟨b, hb, hF⟩ := formS_t x
      rw [hb, Option.bind_some]
      refine Tot.ite (fun hbt => ?_) fun _ => Tot.mk rfl
      subst hbt
      refine (head_t (hF rfl)).bind fun r hr => ?_
      rw [w64_id (n := lf - (r.length : Int)) (by omega) (by omega), e1]
      refine Tot.ite (fun h1 => ?_) fun h1 => Tot.mk ⟨⟨hi', by simp only; omega, fun h => (h1 h).elim⟩, by simp only; omega⟩
      refine (brief07 d fuel (by omega) (by omega) x.Body (lf - r.length) (by omega)).bind fun r1 hr1 => Tot.ite (fun h2 => ?_) fun h2 => Tot.mk ⟨⟨hi', by simp only; omega, fun h => (h2 h).elim⟩, by simp only; omega⟩
      refine (brief07 d fuel (by omega) (by omega) x.Else r1 (by omega)).bind fun r2 hr2 => Tot.mk ⟨⟨hi', by simp only; omega, fun h3 => ?_⟩, by simp only; omega⟩
      simp only at h3 ⊢
      obtain ⟨c0, c1⟩ := hr1.2 h2
      obtain ⟨d0, d1⟩ := hr2.2 h3
      rw [take_get hi', fmSs_app, nSs_app, hx]
      simp only [fmSs, nSs]
      rw [fmS_eq, nS_eq]
      exact ⟨⟨b0, ⟨hb, c0, d0⟩, trivial⟩, by omega⟩
    · have : i = l.length := by omega
      subst this
      have := a2 h0
      rwa [List.take_length] at this
theorem fits_t (l : List api_Stmt) : Tot (lazarettoref07_Fits l) fun b => b = true → fmSs l ∧ nSs l ≤ 16384 := by
  unfold lazarettoref07_Fits
  exact (brief07 24 1000000 (by omega) (by omega) l 16384 (by omega)).bind fun r hr => Tot.mk fun h => by
    have h0 := of_decide_eq_true h
    have := hr.2 h0
    exact ⟨this.1, by omega⟩
theorem text07 : ∀ (n : Nat) (l : List api_Stmt), fmSs l → depSs l + 1 ≤ n → nSs l ≤ 16384 → Tot (lazarettoref07_text_g n l) fun r => r.length ≤ 300000100 * nSs l
  | 0, l, _, h, _ => by omega
  | n + 1, l, ok, hd, hs => by
    show Tot (lazarettoref07_text_b (lazarettoref07_text_g n) l) _
    unfold lazarettoref07_text_b
    refine Tot.bind (Tot.loop (fun x => x.2 ≤ l.length ∧ x.1.length ≤ 300000100 * nSs (l.take x.2)) (R := fun r => r.length ≤ 300000100 * nSs l) (fun x => l.length - x.2) ⟨Nat.zero_le _, by simp⟩ fun ⟨t, i⟩ ⟨hi, hI⟩ => ?_) fun r hr => Tot.mk hr
    simp only at hi hI
    unfold lazarettoref07_text_L1
    refine Tot.ite (fun h => ?_) fun h => Tot.mk ?_
    · have h' : i < l.length := by omega
      rw [List.getElem?_eq_getElem h']
      simp only [Option.bind_some]
      have hmem := List.getElem_mem h'
      have hsum : nSs (l.take (i + 1)) ≤ nSs l := by
        have := nSs_app (l := l.take (i + 1)) (m := l.drop (i + 1))
        rw [List.take_append_drop] at this; omega
      have htk : nSs (l.take (i + 1)) = nSs (l.take i) + nS l[i] := by rw [take_get h', nSs_app]; simp [nSs]
      have okx := fmSs_mem ok _ hmem
      have dx := depSs_mem hmem
      generalize l[i] = x at htk okx dx
      have F := fmS_form okx
      rw [fmS_eq] at okx
      rw [depS_eq] at dx
      rw [nS_eq] at htk
      have hB := text07 n x.Body okx.2.1 (by omega) (by omega)
      have hE := text07 n x.Else okx.2.2 (by omega) (by omega)
      have go : ∀ t' : Str, t'.length ≤ 300000100 * nSs (l.take (i + 1)) → Tot (some (Sum.inl (t', i + 1)) : Option ((Str × Nat) ⊕ Str)) (Rd (fun x => x.2 ≤ l.length ∧ x.1.length ≤ 300000100 * nSs (l.take x.2)) (fun r => r.length ≤ 300000100 * nSs l) (fun x => l.length - x.2) (l.length - i)) := fun t' ht => Tot.mk ⟨⟨h', ht⟩, by simp only; omega⟩
      refine Tot.ite (fun h0 => Tot.need (by omega) ((head_t F).bind fun r hr => Tot.need (by omega) (hB.bind fun b hb => ?_))) fun h0 => (head_t F).bind fun r hr => Tot.need (by omega) (hB.bind fun b hb => ?_)
      all_goals repeat' (first | refine Tot.need (by omega) ?_ | refine Tot.ite (fun _ => ?_) (fun _ => ?_) | refine hE.bind fun e he => ?_ | exact go _ (by simp only [List.length_append, List.length_cons, List.length_nil]; omega))
    · have : i = l.length := by omega
      subst this
      rwa [List.take_length] at hI
theorem text07_t {l : List api_Stmt} (ok : fmSs l) (hd : depSs l ≤ 1000) (hs : nSs l ≤ 16384) : Tot (lazarettoref07_Text l) fun r => r.length ≤ 5000000000000 := by
  unfold lazarettoref07_Text
  exact (text07 1000000 l ok (by omega) hs).bind fun r hr => Tot.mk (by omega)
end Go.Lz
