/- P12b: statements and programs, in the program and in the reference: the same kinds; the laws of chapter 12 in plain words. -/
import Derived.Test.YtmgedefdjobgdaaGreatP12
import Derived.Test.YtmgedefdjobgdaaGreatV12b
namespace Go.Lz
set_option linter.unusedVariables false
set_option linter.unusedSimpArgs false
theorem not_all_any {α : Type} (l : List α) (q : α → Bool) : (!l.all fun x => !q x) = l.any q := by
  induction l with
  | nil => rfl
  | cons x xs ih => rw [List.all_cons, List.any_cons, ← ih]; cases q x <;> simp
mutual
def setsS (name : Str) : api_Stmt → Bool
  | ⟨kind, nm, target, _, _, body, els⟩ => (decide (kind = 1) && decide (target.Name = name)) || (decide (kind = 4) && decide (nm = name)) || setsL name body || setsL name els
def setsL (name : Str) : List api_Stmt → Bool
  | [] => false
  | s :: ss => setsS name s || setsL name ss
end
theorem setsS_eq (name : Str) (s : api_Stmt) : setsS name s = ((decide (s.Kind = 1) && decide (s.Target.Name = name)) || (decide (s.Kind = 4) && decide (s.Name = name)) || setsL name s.Body || setsL name s.Else) := by cases s; rw [setsS]
theorem setsL_any (name : Str) : ∀ l : List api_Stmt, setsL name l = l.any (setsS name)
  | [] => rfl
  | e :: es => by rw [setsL, List.any_cons, setsL_any name es]
theorem sets1_ok (name : Str) : ∀ (n : Nat) (l : List api_Stmt), 2 * depSs l + 1 ≤ n → (typing_sets_g n).1 l name = some (setsL name l)
  | 0, l, h => by omega
  | n + 1, l, h => by
    show typing_sets_b (typing_sets_g n).1 (typing_sets_g n).2 l name = _
    unfold typing_sets_b
    rw [cfStmt (p := setsS name) (fun x hx => ?_), Option.bind_some, setsL_any]
    have dx := depSs_mem hx
    rw [depS_eq] at dx
    obtain ⟨m, rfl⟩ : ∃ m, n = m + 1 := ⟨n - 1, by omega⟩
    show typing_sets_1_b (typing_sets_g m).1 (typing_sets_g m).2 name x = _
    unfold typing_sets_1_b
    rw [sets1_ok name m x.Body (by omega), sets1_ok name m x.Else (by omega), setsS_eq]
    simp only [Option.bind_some]
    by_cases k1 : x.Kind = 1
    · by_cases t : x.Target.Name = name
      · simp [k1, t]
      · simp [k1, t]; cases setsL name x.Body <;> cases setsL name x.Else <;> rfl
    by_cases k4 : x.Kind = 4
    · by_cases t : x.Name = name
      · simp [k4, t]
      · simp [k4, t]; cases setsL name x.Body <;> cases setsL name x.Else <;> rfl
    simp [k1, k4]; cases setsL name x.Body <;> cases setsL name x.Else <;> rfl
theorem sets2_ok (name : Str) : ∀ (n : Nat) (l : List api_Stmt), depSs l + 1 ≤ n → lazarettoref12_sets_g n l name = some (setsL name l)
  | 0, l, h => by omega
  | n + 1, l, h => by
    show lazarettoref12_sets_b (lazarettoref12_sets_g n) l name = _
    unfold lazarettoref12_sets_b
    rw [loop_all (xs := l) (p := fun x => !setsS name x) (a := .inl true) (b := .inr ()) (fun i hi => ?_) (by simp [lazarettoref12_sets_L1]), setsL_any, ← not_all_any]
    · cases l.all fun x => !setsS name x <;> rfl
    · simp only [lazarettoref12_sets_L1, Int.ofNat_lt, hi, if_true, List.getElem?_eq_getElem hi, Option.bind_some]
      have dx := depSs_mem (List.getElem_mem hi)
      generalize l[i] = x at dx
      rw [depS_eq] at dx
      rw [sets2_ok name n x.Body (by omega), sets2_ok name n x.Else (by omega), setsS_eq]
      simp only [Option.bind_some]
      by_cases k1 : x.Kind = 1
      · by_cases t : x.Target.Name = name
        · simp [k1, t]
        · simp [k1, t]; cases setsL name x.Body <;> cases setsL name x.Else <;> rfl
      by_cases k4 : x.Kind = 4
      · by_cases t : x.Name = name
        · simp [k4, t]
        · simp [k4, t]; cases setsL name x.Body <;> cases setsL name x.Else <;> rfl
      simp [k1, k4]; cases setsL name x.Body <;> cases setsL name x.Else <;> rfl
theorem sets2 {name : Str} {l : List api_Stmt} (h : depSs l ≤ 1000) : typing_sets l name = some (setsL name l) ∧ lazarettoref12_sets l name = some (setsL name l) :=
  ⟨sets1_ok name 1000000 l (by omega), sets2_ok name 1000000 l (by omega)⟩
/-- Terms of such kinds. -/
noncomputable def areN (p : api_Program) (l : List api_Expr) (ks : List Int) : Bool := (List.range l.length).all fun i => decide (kindN p (l.getD i noE) = ks.getD i 0)
theorem are_loop {p : api_Program} {l : List api_Expr} {ks : List Int} {f : Nat → Option (Nat ⊕ (Bool ⊕ Unit))} (step : ∀ i (h : i < l.length), f i = some (if kindN p l[i] = ks.getD i 0 then .inl (i + 1) else .inr (.inl false))) (last : f l.length = some (.inr (.inr ()))) :
    (loop f 0).bind (fun e => match e with | .inl e => some e | .inr () => some true) = some (areN p l ks) := by
  rw [loop_first l.length (fun i => !decide (kindN p (l.getD i noE) = ks.getD i 0)) (fun _ => .inl false) (.inr ()) (fun i hi => by
    rw [step i hi]
    have : l.getD i noE = l[i] := by simp [List.getD_eq_getElem?_getD, hi]
    rw [this]
    by_cases h : kindN p l[i] = ks.getD i 0 <;> simp [h]) last, elim_all (q := fun i => decide (kindN p (l.getD i noE) = ks.getD i 0)) (fun x => by simp)]
  unfold areN
  cases (List.range l.length).all fun i => decide (kindN p (l.getD i noE) = ks.getD i 0) <;> rfl
theorem are1 {p : api_Program} (P : GoodP p) {l : List api_Expr} {ks : List Int} (g : ∀ x ∈ l, GoodE x) : typing_are p l ks = some (decide (l.length = ks.length) && areN p l ks) := by
  unfold typing_are slices_EqualFunc_api_Expr_int_api_Expr_int
  by_cases h : l.length = ks.length
  · have hx := are_loop (f := slices_EqualFunc_api_Expr_int_api_Expr_int_L1 l ks (typing_are_1 p)) (p := p) (l := l) (ks := ks) (fun i hi => ?_) (by simp [slices_EqualFunc_api_Expr_int_api_Expr_int_L1])
    · rw [if_pos (by omega)]
      exact (congrArg (fun o => Option.bind o fun r => some r) hx).trans (by simp [h])
    · have hi' : i < ks.length := by omega
      have gk := (good_kind P (g _ (List.getElem_mem hi))).1
      simp only [slices_EqualFunc_api_Expr_int_api_Expr_int_L1, typing_are_1, Int.ofNat_lt, hi, if_true, List.getElem?_eq_getElem hi, List.getElem?_eq_getElem hi', Option.bind_some, gk]
      have : ks.getD i 0 = ks[i] := by simp [List.getD_eq_getElem?_getD, hi']
      rw [this]
      by_cases hk : kindN p l[i] = ks[i] <;> simp [hk]
  · rw [if_neg (by omega)]; simp [h]
theorem are2 {p : api_Program} (P : GoodP p) {s : api_Stmt} {ks : List Int} (g : ∀ x ∈ s.Args, GoodE x) : (if (ks.length : Int) = (s.Args.length : Int) then ((loop (lazarettoref12_call_L1 p s ks) 0).bind (fun e__ => match e__ with | (.inl e_10) => some e_10 | (.inr ()) => some true)) else (some false)) = some (decide (s.Args.length = ks.length) && areN p s.Args ks) := by
  by_cases h : s.Args.length = ks.length
  · have hx := are_loop (f := lazarettoref12_call_L1 p s ks) (p := p) (l := s.Args) (ks := ks) (fun i hi => ?_) (by simp [lazarettoref12_call_L1, h])
    · rw [if_pos (by omega)]
      exact Eq.trans hx (by simp [h])
    · have hi' : i < ks.length := by omega
      have gk := (good_kind P (g _ (List.getElem_mem hi))).2.1
      simp only [lazarettoref12_call_L1, Int.ofNat_lt, hi', if_true, List.getElem?_eq_getElem hi, List.getElem?_eq_getElem hi', Option.bind_some, gk]
      have : ks.getD i 0 = ks[i] := by simp [List.getD_eq_getElem?_getD, hi']
      rw [this]
      by_cases hk : kindN p s.Args[i] = ks[i] <;> simp [hk]
  · rw [if_neg (by omega)]; simp [h]
theorem loop2 {p : api_Program} (P : GoodP p) {s : api_Stmt} (F : FormS s) (k4 : s.Kind = 4) (hd : depSs s.Body ≤ 1000) : Two (typing_loop p s) (lazarettoref12_loop p s) fun _ => True := by
  have hl : s.Args.length = 2 := by have := F.kinds; omega
  obtain ⟨a, b, hab⟩ := two_args hl
  have ga := good_kind P (F.args a (by rw [hab]; simp))
  have gb := good_kind P (F.args b (by rw [hab]; simp))
  obtain ⟨s1, s2⟩ := sets2 (name := s.Name) hd
  unfold typing_loop lazarettoref12_loop
  simp only [namesVar, refVar, Option.bind_some]
  refine Two.ite (fun _ => Two.mk trivial) fun hv => (Two.same (var_at hv)).bind fun v _ => Two.ite (fun _ => Two.ite (fun _ => ?_) fun _ => Two.mk trivial) fun _ => Two.mk trivial
  have key : ∀ k : Int, Two ((typing_are p s.Args [k, k]).bind fun r_3 => if r_3 = true then ((typing_sets s.Body s.Name).bind fun r_4 => some (!r_4)) else (some false)) ((s.Args[0]?).bind fun x_3 => (lazarettoref12_Expr p x_3).bind fun r_4 => if r_4 = k then ((s.Args[1]?).bind fun x_5 => (lazarettoref12_Expr p x_5).bind fun r_6 => if r_6 = k then ((lazarettoref12_sets s.Body s.Name).bind fun r_7 => some (!r_7)) else (some false)) else (some false)) fun _ => True := fun k => by
    rw [are1 P F.args, hab, s1, s2]
    simp only [List.getElem?_cons_zero, List.getElem?_cons_succ, Option.bind_some, ga.2.1, gb.2.1]
    have : areN p [a, b] [k, k] = (decide (kindN p a = k) && decide (kindN p b = k)) := by
      simp [areN, List.range_succ]
    rw [this]
    by_cases h1 : kindN p a = k <;> by_cases h2 : kindN p b = k <;> simp [h1, h2] <;> exact ⟨_, rfl, rfl, trivial⟩
  exact Two.ite (fun _ => key _) fun _ => Two.ite (fun _ => key _) fun _ => Two.mk trivial
theorem one2 {p : api_Program} (P : GoodP p) {s : api_Stmt} (F : FormS s) (hd : depSs s.Body ≤ 1000) : Two (typing_one p s) (lazarettoref12_one p s) fun _ => True := by
  unfold typing_one lazarettoref12_one
  refine Two.ite (fun k => ?_) fun k1 => ?_
  · have hk : GoodE s.Target ∧ GoodE s.Value := by
      rcases F.kinds with h | h | h | h
      · exact ⟨h.2.2.2.2.1, h.2.2.2.2.2.2⟩
      all_goals omega
    obtain ⟨t1, t2, t0⟩ := good_kind P hk.1
    obtain ⟨v1, v2, v0⟩ := good_kind P hk.2
    simp only [namesVar, refVar, Option.bind_some, t1, t2, v1, v2]
    refine Two.ite (fun h0 => ?_) fun _ => Two.mk trivial
    obtain ⟨v, hv, _⟩ := var_at (p := p) (name := s.Target.Name) (by omega)
    simp only [hv, Option.bind_some]
    by_cases h : kindN p s.Target = 0
    · rw [if_neg (by omega), if_pos h]
      by_cases m : v.Mode = 1
      · rw [if_pos m]; exact Two.mk trivial
      · rw [if_neg m]; exact Two.mk trivial
    · rw [if_pos (by omega), if_neg h]
      refine Two.ite (fun _ => Two.mk trivial) fun _ => ⟨decide (kindN p s.Value = kindN p s.Target), rfl, ?_, trivial⟩
      congr 1
      exact decide_eq_decide.2 eq_comm
  have k23 : (s.Kind = 2 ∨ s.Kind = 3) → Two ((typing_kind p s.Value).bind fun r_5 => some (decide (r_5 = 1))) ((lazarettoref12_Expr p s.Value).bind fun r_5 => some (decide (r_5 = 1))) fun _ => True := fun k => by
    have hk : GoodE s.Value := by
      rcases F.kinds with h | h | h | h
      · omega
      · exact h.2.2.2
      all_goals omega
    obtain ⟨v1, v2, v0⟩ := good_kind P hk
    rw [v1, v2]; exact Two.mk trivial
  refine Two.ite (fun k => k23 (.inl k)) fun k2 => Two.ite (fun k => k23 (.inr k)) fun k3 => Two.ite (fun k => (loop2 P F k hd).bind fun b _ => Two.mk trivial) fun k4 => ?_
  unfold lazarettoref12_call
  simp only [namesBlock, refBlock, Option.bind_some]
  by_cases hb : blockN p s.Name < 0
  · rw [if_neg (by omega), if_pos hb]; exact Two.mk trivial
  rw [if_pos (by omega), if_neg hb]
  obtain ⟨b, hb, _⟩ := block_at (p := p) (name := s.Name) hb
  obtain ⟨ks, hks, _⟩ := ins_t b.Kind
  simp only [hb, Option.bind_some, ins_eq, hks, are1 P F.args]
  exact ⟨_, rfl, congrArg (fun o => Option.bind o fun r => some r) (are2 P F.args), trivial⟩
noncomputable def oneN (p : api_Program) (s : api_Stmt) : Bool := (typing_one p s).getD false
theorem one_ok {p : api_Program} (P : GoodP p) {s : api_Stmt} (F : FormS s) (hd : depSs s.Body ≤ 1000) : typing_one p s = some (oneN p s) ∧ lazarettoref12_one p s = some (oneN p s) := by
  obtain ⟨b, h1, h2, _⟩ := one2 P F hd
  have : oneN p s = b := by unfold oneN; rw [h1]; rfl
  rw [this]; exact ⟨h1, h2⟩
mutual
noncomputable def tyS (p : api_Program) : api_Stmt → Bool
  | ⟨kind, name, target, value, args, body, els⟩ => oneN p ⟨kind, name, target, value, args, body, els⟩ && tyL p body && tyL p els
noncomputable def tyL (p : api_Program) : List api_Stmt → Bool
  | [] => true
  | s :: ss => tyS p s && tyL p ss
end
theorem tyS_eq (p : api_Program) (s : api_Stmt) : tyS p s = (oneN p s && tyL p s.Body && tyL p s.Else) := by cases s; rw [tyS]
theorem tyL_all (p : api_Program) : ∀ l : List api_Stmt, tyL p l = l.all (tyS p)
  | [] => by rw [tyL]; rfl
  | e :: es => by rw [tyL, List.all_cons, tyL_all p es]
theorem not_any_all {α : Type} (l : List α) (q : α → Bool) : (!l.any fun x => !q x) = l.all q := by
  induction l with
  | nil => rfl
  | cons x xs ih => rw [List.all_cons, List.any_cons, ← ih]; cases q x <;> simp
theorem ty1_ok {p : api_Program} (P : GoodP p) : ∀ (n : Nat) (l : List api_Stmt), fmSs l → depSs l ≤ 1000 → 2 * depSs l + 1 ≤ n → (typing_Stmts_g n).1 p l = some (tyL p l)
  | 0, l, _, _, h => by omega
  | n + 1, l, ok, hd, h => by
    show typing_Stmts_b (typing_Stmts_g n).1 (typing_Stmts_g n).2 p l = _
    unfold typing_Stmts_b
    rw [cfStmt (p := fun x => !tyS p x) (fun x hx => ?_), Option.bind_some, tyL_all, not_any_all]
    have dx := depSs_mem hx
    have okx := fmSs_mem ok x hx
    have F := fmS_form okx
    rw [fmS_eq] at okx
    rw [depS_eq] at dx
    obtain ⟨m, rfl⟩ : ∃ m, n = m + 1 := ⟨n - 1, by omega⟩
    show typing_Stmts_1_b (typing_Stmts_g m).1 (typing_Stmts_g m).2 p x = _
    unfold typing_Stmts_1_b
    rw [(one_ok P F (by omega)).1, ty1_ok P m x.Body okx.2.1 (by omega) (by omega), ty1_ok P m x.Else okx.2.2 (by omega) (by omega), tyS_eq]
    simp only [Option.bind_some]
    cases oneN p x <;> cases tyL p x.Body <;> cases tyL p x.Else <;> rfl
theorem ty2_ok {p : api_Program} (P : GoodP p) : ∀ (n : Nat) (l : List api_Stmt), fmSs l → depSs l ≤ 1000 → depSs l + 1 ≤ n → lazarettoref12_Stmts_g n p l = some (tyL p l)
  | 0, l, _, _, h => by omega
  | n + 1, l, ok, hd, h => by
    show lazarettoref12_Stmts_b (lazarettoref12_Stmts_g n) p l = _
    unfold lazarettoref12_Stmts_b
    rw [loop_all (xs := l) (p := tyS p) (a := .inl false) (b := .inr ()) (fun i hi => ?_) (by simp [lazarettoref12_Stmts_L1]), tyL_all]
    · cases l.all (tyS p) <;> rfl
    · simp only [lazarettoref12_Stmts_L1, Int.ofNat_lt, hi, if_true, List.getElem?_eq_getElem hi, Option.bind_some]
      have hx := List.getElem_mem hi
      generalize l[i] = x at hx
      have dx := depSs_mem hx
      have okx := fmSs_mem ok x hx
      have F := fmS_form okx
      rw [fmS_eq] at okx
      rw [depS_eq] at dx
      rw [(one_ok P F (by omega)).2, ty2_ok P n x.Body okx.2.1 (by omega) (by omega), ty2_ok P n x.Else okx.2.2 (by omega) (by omega), tyS_eq]
      simp only [Option.bind_some]
      cases oneN p x <;> cases tyL p x.Body <;> cases tyL p x.Else <;> rfl
theorem ty_ok {p : api_Program} (P : GoodP p) {l : List api_Stmt} (ok : fmSs l) (hd : depSs l ≤ 1000) : typing_Stmts p l = some (tyL p l) ∧ lazarettoref12_Stmts p l = some (tyL p l) :=
  ⟨ty1_ok P 1000000 l ok hd (by omega), ty2_ok P 1000000 l ok hd (by omega)⟩
/-! Variables, blocks and tasks. -/
theorem cells_0 {p : api_Program} {v : api_Var} (g : GoodV p v) : cells_Check v.Type_ = some 0 ∧ lazarettoref04_Check v.Type_ = some 0 := by
  have k := g.kind
  have l := g.len
  have w := g.low
  have z := g.zero
  have hb : ∃ b, b ≠ 0 ∧ lazarettoref03_Bits v.Type_.Kind = some b := by
    rcases k with h | h | h | h <;> rw [h] <;> exact ⟨_, by decide, rfl⟩
  obtain ⟨b, b0, hb⟩ := hb
  unfold cells_Check lazarettoref04_Check
  rw [bits_eq, hb]
  simp only [Option.bind_some]
  constructor
  · rw [if_pos w.1, if_neg b0, if_neg (by omega), if_neg (by omega), if_pos (by omega)]
    by_cases h : v.Type_.Len = 0
    · rw [if_pos h, if_pos (z h)]
    · rw [if_neg h]
  · rw [if_neg b0, if_neg (by omega), if_neg (by omega)]
    by_cases h : v.Type_.Len = 0
    · rw [if_pos h, if_pos (z h), if_neg (by omega), if_neg (by omega)]
    · rw [if_neg h, if_neg (by omega), if_neg (by omega)]
theorem valid_0 {p : api_Program} {v : api_Var} (g : GoodV p v) : ints_Valid v.Type_.Kind v.Safe = some true ∧ lazarettoref03_Valid v.Type_.Kind v.Safe = some true := by
  have k := g.kind
  have s := g.safe
  have t := g.vsafe
  generalize v.Type_.Kind = kd at k t
  generalize v.Safe = n at s t
  unfold ints_Valid lazarettoref03_Valid ints_Wrap
  rw [bits_eq]
  rcases k with h | h | h | h
  · have t1 := t.1 h
    clear t
    subst h
    simp only [lazarettoref03_Bits, wrap_1]
    rcases t1 with h | h <;> subst h <;> simp
  · have t1 := t.2 h
    clear t
    subst h
    simp only [lazarettoref03_Bits, lazarettoref03_half, wrap_2]
    have e : (n + 32768) % 65536 - 32768 = n := by omega
    have e2 : w64 (-32768) = -32768 := w64_id (by omega) (by omega)
    simp [e, e2, t1.1, t1.2]
  · subst h
    simp only [lazarettoref03_Bits, lazarettoref03_half, wrap_3]
    have e : (n + 2147483648) % 4294967296 - 2147483648 = n := by omega
    have e2 : w64 (-2147483648) = -2147483648 := w64_id (by omega) (by omega)
    simp [e, e2, s.1, s.2]
  · subst h
    simp only [lazarettoref03_Bits, lazarettoref03_half, wrap_4]
    have e : (n + 2147483648) % 4294967296 - 2147483648 = n := by omega
    have e2 : w64 (-2147483648) = -2147483648 := w64_id (by omega) (by omega)
    simp [e, e2, s.1, s.2]
theorem ixTask {s : List api_Task} {f : api_Task → Option Bool} {p : api_Task → Bool} (h : ∀ x ∈ s, f x = some (p x)) : slices_IndexFunc_api_Task_api_Task s f = some (findN s p) :=
  loop_index (fun i hi => by simp [slices_IndexFunc_api_Task_api_Task_L1, hi, h _ (List.getElem_mem hi)]; cases p s[i] <;> rfl) (by simp [slices_IndexFunc_api_Task_api_Task_L1])
theorem cfTask {s : List api_Task} {f : api_Task → Option Bool} {p : api_Task → Bool} (h : ∀ x ∈ s, f x = some (p x)) : slices_ContainsFunc_api_Task_api_Task s f = some (s.any p) := by
  unfold slices_ContainsFunc_api_Task_api_Task
  rw [ixTask h, Option.bind_some, any_iff]
theorem cfVar {s : List api_Var} {f : api_Var → Option Bool} {p : api_Var → Bool} (h : ∀ x ∈ s, f x = some (p x)) : slices_ContainsFunc_api_Var_api_Var s f = some (s.any p) := by
  unfold slices_ContainsFunc_api_Var_api_Var
  rw [ixVar h, Option.bind_some, any_iff]
theorem cfBlock {s : List api_Block} {f : api_Block → Option Bool} {p : api_Block → Bool} (h : ∀ x ∈ s, f x = some (p x)) : slices_ContainsFunc_api_Block_api_Block s f = some (s.any p) := by
  unfold slices_ContainsFunc_api_Block_api_Block
  rw [ixBlock h, Option.bind_some, any_iff]
def noIn (b : api_Block) : Bool := ((lazarettoref11_Inputs b.Kind).getD []).isEmpty
theorem ins_ok (s : Str) : lazarettoref11_Inputs s = some ((lazarettoref11_Inputs s).getD []) := by
  obtain ⟨l, h, _⟩ := ins_t s
  rw [h]; rfl
structure GoodAll (p : api_Program) : Prop where
  P : GoodP p
  T : ∀ t ∈ p.Tasks, GoodT p t
  d : ∀ t ∈ p.Tasks, depSs t.Body ≤ 1000
theorem check12 {p : api_Program} (G : GoodAll p) : Two (typing_Check p) (lazarettoref12_Check p) fun _ => True := by
  have P := G.P
  have e1 : slices_ContainsFunc_api_Var_api_Var p.Vars typing_Check_1 = some (p.Vars.any fun _ => false) := cfVar fun v hv => by
    have g := P.vars v hv
    unfold typing_Check_1
    rw [(cells_0 g).1, (valid_0 g).1]
    simp only [Option.bind_some, if_true, Bool.not_true]
    by_cases m : v.Mode = 0
    · rw [if_pos m]
    · rw [if_neg m, if_pos (g.scalar m)]
  have e2 : slices_ContainsFunc_api_Block_api_Block p.Blocks typing_Check_2 = some (p.Blocks.any noIn) := cfBlock fun b hb => by
    unfold typing_Check_2 noIn
    rw [ins_eq, ins_ok, Option.bind_some]
    generalize (lazarettoref11_Inputs b.Kind).getD [] = l
    cases l <;> simp <;> omega
  have e3 : slices_ContainsFunc_api_Task_api_Task p.Tasks (typing_Check_3 p) = some (p.Tasks.any fun t => !tyL p t.Body) := cfTask fun t ht => by
    unfold typing_Check_3
    rw [(ty_ok P (G.T t ht).ok (G.d t ht)).1]; rfl
  have any_no : (p.Vars.any fun _ => false) = false := by simp
  have f1 : loop (lazarettoref12_Check_L1 p) 0 = some (.inr ()) := by
    rw [loop_all (xs := p.Vars) (p := fun _ => true) (a := .inl 6) (b := .inr ()) (fun i hi => ?_) (by simp [lazarettoref12_Check_L1])]
    · simp
    · have g := P.vars _ (List.getElem_mem hi)
      simp only [lazarettoref12_Check_L1, Int.ofNat_lt, hi, if_true, List.getElem?_eq_getElem hi, Option.bind_some, (cells_0 g).2, (valid_0 g).2]
      by_cases m : p.Vars[i].Mode = 0
      · rw [if_pos m]
      · rw [if_neg m, if_pos (g.scalar m)]
  have f2 : loop (lazarettoref12_Check_L2 p) 0 = some (if p.Blocks.any noIn then .inl 6 else .inr ()) := by
    rw [loop_all (xs := p.Blocks) (p := fun b => !noIn b) (a := .inl 6) (b := .inr ()) (fun i hi => ?_) (by simp [lazarettoref12_Check_L2]), ← not_all_any]
    · cases p.Blocks.all fun b => !noIn b <;> rfl
    · simp only [lazarettoref12_Check_L2, Int.ofNat_lt, hi, if_true, List.getElem?_eq_getElem hi, Option.bind_some]
      unfold noIn
      rw [ins_ok, Option.bind_some]
      generalize (lazarettoref11_Inputs p.Blocks[i].Kind).getD [] = l
      cases l with
      | nil => simp
      | cons x l => rw [if_neg (by simp; omega)]; simp
  have f3 : loop (lazarettoref12_Check_L3 p) 0 = some (if p.Tasks.any fun t => !tyL p t.Body then .inl 6 else .inr ()) := by
    rw [loop_all (xs := p.Tasks) (p := fun t => tyL p t.Body) (a := .inl 6) (b := .inr ()) (fun i hi => ?_) (by simp [lazarettoref12_Check_L3]), ← not_any_all]
    · cases p.Tasks.any fun t => !tyL p t.Body <;> rfl
    · have ht := List.getElem_mem hi
      simp only [lazarettoref12_Check_L3, Int.ofNat_lt, hi, if_true, List.getElem?_eq_getElem hi, Option.bind_some, (ty_ok P (G.T _ ht).ok (G.d _ ht)).2]
      split <;> rfl
  unfold typing_Check lazarettoref12_Check
  rw [e1, e2, e3, f1, f2, f3, any_no]
  simp only [Option.bind_some]
  cases p.Blocks.any noIn <;> cases p.Tasks.any fun t => !tyL p t.Body <;> exact ⟨_, rfl, rfl, trivial⟩
/-! The laws. -/
theorem named (p : api_Program) : lazarettolaw12_Named p = some 0 ∨ (lazarettolaw12_Named p = some 1 ∧ GoodAll p) := by
  unfold lazarettolaw12_Named
  rcases few08 p with e | ⟨e, hd⟩
  · exact .inl (by rw [e]; rfl)
  have hd' : ∀ t ∈ p.Tasks, depSs t.Body ≤ 1000 := fun t ht => Nat.le_trans (hd t ht) (by omega)
  rw [e, Option.bind_some, if_pos rfl]
  obtain ⟨b, hb, hq⟩ := check08 p hd'
  rw [hb, Option.bind_some]
  cases b with
  | false => exact .inl rfl
  | true =>
    obtain ⟨P, T⟩ := hq rfl
    obtain ⟨r, hr, _⟩ := check10 p (by have := P.nv; omega) (by have := P.nb; omega) (by have := P.ns; omega) hd'
    rw [if_pos rfl, hr, Option.bind_some]
    by_cases h : r = 0
    · exact .inr ⟨by rw [if_pos h], P, T, hd'⟩
    · exact .inl (by rw [if_neg h])
theorem term_t {p : api_Program} (P : GoodP p) (e : api_Expr) : Tot (lazarettolaw12_term p e) fun b => b = true → GoodE e ∧ depE e ≤ 24 := by
  unfold lazarettolaw12_term
  refine (good06' e).bind fun b hb => Tot.ite (fun h => ?_) fun _ => Tot.mk fun h => by cases h
  obtain ⟨g1, g2, g3⟩ := hb h
  refine (check10 _ (by have := P.nv; simp only; omega) (by have := P.nb; simp only; omega) (by have := P.ns; simp only; omega) (fun t ht => ?_)).bind fun r _ => Tot.mk fun _ => ⟨⟨g1, by omega, by omega⟩, g2⟩
  simp only [List.mem_singleton] at ht
  subst ht
  simp only [depSs, depS, depEs, depE]
  omega
theorem checksLaw (aw : lazarettolaw12_awake = some true) (p : api_Program) : lazarettolaw12_TypingChecks p = some true := by
  unfold lazarettolaw12_TypingChecks
  rcases named p with e | ⟨e, G⟩
  · rw [e, aw]; rfl
  rw [e, Option.bind_some, if_neg (by decide)]
  obtain ⟨r, h1, h2, _⟩ := check12 G
  rw [h1, h2, Option.bind_some, Option.bind_some, if_pos rfl]
  rw [loop_all (xs := p.Tasks) (p := fun _ => true) (a := .inl false) (b := .inr ()) (fun i hi => ?_) (by simp [lazarettolaw12_TypingChecks_L1])]
  · simp [aw]
  · have ht := List.getElem_mem hi
    obtain ⟨t1, t2⟩ := ty_ok G.P (G.T _ ht).ok (G.d _ ht)
    simp [lazarettolaw12_TypingChecks_L1, hi, t1, t2]
theorem expr_ok {p : api_Program} (P : GoodP p) {e : api_Expr} (ok : fmE e) (h : depE e ≤ 1000) : typing_Expr p e = some (kindN p e, !decide (kindN p e = 0)) := by
  unfold typing_Expr
  rw [(kind_ok P ok h).1]; rfl
theorem termsLaw (aw : lazarettolaw12_awake = some true) (p : api_Program) (e : api_Expr) : lazarettolaw12_TypingTerms p e = some true := by
  unfold lazarettolaw12_TypingTerms
  rcases named p with h | ⟨h, G⟩
  · rw [h, aw]; rfl
  rw [h, Option.bind_some, if_neg (by decide)]
  obtain ⟨b, hb, hq⟩ := term_t G.P e
  rw [hb, Option.bind_some]
  cases b with
  | false => rw [aw]; rfl
  | true =>
    have g := (hq rfl).1
    have hd : depE e ≤ 1000 := by have := g.dep; omega
    rw [if_pos rfl, expr_ok G.P g.ok hd, (kind_ok G.P g.ok hd).2.1, aw]
    simp
theorem form_bin {op : Int} {a b : api_Expr} (h1 : 7 ≤ op) (h2 : op ≤ 20) : lazarettoref06_form ⟨op, 0, 0, [], [a, b]⟩ = some true := by
  unfold lazarettoref06_form
  simp only
  rw [if_neg (by omega), if_pos trivial, if_neg (by omega), if_neg (by omega), if_neg (by omega), if_neg (by omega), if_neg (by omega), if_neg (by omega), if_pos h1, if_pos h2]
  simp
theorem kindFuel (p : api_Program) : ∀ (n m : Nat) (e : api_Expr), depE e ≤ n → depE e ≤ m → typing_kind_g n p e = typing_kind_g m p e
  | 0, m, e, h, _ => by rw [depE_eq] at h; omega
  | n + 1, 0, e, _, h => by rw [depE_eq] at h; omega
  | n + 1, m + 1, e, h, h' => by
    rw [depE_eq] at h h'
    show typing_kind_b (typing_kind_g n) p e = typing_kind_b (typing_kind_g m) p e
    unfold typing_kind_b
    have : loop (typing_kind_L1 (typing_kind_g n) p e) (List.replicate e.Args.length 0, 0) = loop (typing_kind_L1 (typing_kind_g m) p e) (List.replicate e.Args.length 0, 0) := by
      refine loop_congr (fun _ => True) (fun ⟨xs, i⟩ _ => ⟨?_, fun _ _ => trivial⟩) trivial
      unfold typing_kind_L1
      dsimp only
      by_cases hi : i < e.Args.length
      · have d := depEs_mem (List.getElem_mem hi)
        rw [List.getElem?_eq_getElem hi, Option.bind_some, Option.bind_some, kindFuel p n m _ (by omega) (by omega)]
      · rw [if_neg (by omega), if_neg (by omega)]
    rw [this]
theorem kind_step (p : api_Program) (e : api_Expr) : typing_kind p e = typing_kind_b (typing_kind_g 999999) p e := rfl
theorem kind_bin {p : api_Program} (P : GoodP p) {op : Int} {a b : api_Expr} (h1 : 7 ≤ op) (h2 : op ≤ 20) (ga : GoodE a) (gb : GoodE b) : typing_kind p ⟨op, 0, 0, [], [a, b]⟩ = if kindN p b = kindN p a then ints_Result op (kindN p a) else some 0 := by
  have da := ga.dep
  have db := gb.dep
  have ka : typing_kind_g 999999 p a = some (kindN p a) := by rw [kindFuel p 999999 1000000 a (by omega) (by omega)]; exact (good_kind P ga).1
  have kb : typing_kind_g 999999 p b = some (kindN p b) := by rw [kindFuel p 999999 1000000 b (by omega) (by omega)]; exact (good_kind P gb).1
  rw [kind_step]
  unfold typing_kind_b
  rw [need_of (by simp), kindLoop2 (a := a) (b := b) rfl ka kb, Option.bind_some]
  simp only [List.getElem?_cons_zero, Option.bind_some, List.length_cons, List.length_nil]
  rw [if_neg (by omega), if_neg (by omega), if_neg (by omega), if_neg (by omega), if_neg (by omega), if_pos (by omega), cf_int [kindN p a, kindN p b] _ (fun x => !decide (x = kindN p a)) (fun x _ => by simp [typing_kind_1]), Option.bind_some]
  obtain ⟨r, _, _, hr, _⟩ := result_t op (kindN p a)
  rw [hr, Option.bind_some]
  by_cases h : kindN p b = kindN p a
  · rw [if_pos h, if_neg (by simp [h])]
  · rw [if_neg h, if_pos (by simp [h])]
theorem partsLaw (aw : lazarettolaw12_awake = some true) (p : api_Program) (a b : api_Expr) : lazarettolaw12_TypingParts p a b = some true := by
  unfold lazarettolaw12_TypingParts
  rcases named p with h | ⟨h, G⟩
  · rw [h, aw]; rfl
  rw [h, Option.bind_some, if_neg (by decide)]
  obtain ⟨c, hc, hq⟩ := term_t G.P a
  rw [hc, Option.bind_some]
  cases c with
  | false => rw [aw]; rfl
  | true =>
  rw [if_pos rfl]
  obtain ⟨d, hd, hq'⟩ := term_t G.P b
  rw [hd, Option.bind_some]
  cases d with
  | false => rw [aw]; rfl
  | true =>
  rw [if_pos rfl]
  have ga := (hq rfl).1
  have gb := (hq' rfl).1
  have da := ga.dep
  have db := gb.dep
  rw [expr_ok G.P ga.ok (by omega), expr_ok G.P gb.ok (by omega), Option.bind_some, Option.bind_some]
  have key : Tot (loop (lazarettolaw12_TypingParts_L1 p a b (kindN p a, !decide (kindN p a = 0)) (kindN p b, !decide (kindN p b = 0))) 7) fun r => r = .inr () := by
    refine Tot.loop (fun op => 7 ≤ op ∧ op ≤ 21) (fun op => 21 - op) ⟨by omega, by omega⟩ fun op ⟨h1, h2⟩ => ?_
    unfold lazarettolaw12_TypingParts_L1
    dsimp only
    refine Tot.ite (fun h => ?_) fun _ => Tot.mk rfl
    obtain ⟨r, r0, rz, hr, hr'⟩ := result_t (op : Int) (kindN p a)
    have hk : typing_kind p ⟨(op : Int), 0, 0, [], [a, b]⟩ = some (if kindN p b = kindN p a then r else 0) := by
      rw [kind_bin G.P (by omega) h ga gb, hr]
      split <;> rfl
    unfold typing_Expr
    rw [hk, Option.bind_some, Option.bind_some, hr', Option.bind_some]
    have go : Tot (some (Sum.inl (op + 1)) : Option (Nat ⊕ (Bool ⊕ Unit))) (Rd (fun op => 7 ≤ op ∧ op ≤ 21) (fun r => r = .inr ()) (fun op => 21 - op) (21 - op)) := Tot.mk ⟨⟨by omega, by omega⟩, by simp only; omega⟩
    by_cases z1 : kindN p a = 0
    · have rz := rz z1
      by_cases z2 : kindN p b = 0
      · simpa [z1, z2, rz] using go
      · simpa [z1, z2, rz] using go
    · by_cases z2 : kindN p b = 0
      · have : ¬ (0 : Int) = kindN p a := fun h => z1 h.symm
        simpa [z1, z2, this] using go
      · by_cases e : kindN p b = kindN p a
        · simpa [z1, z2, e] using go
        · have e' : ¬ kindN p a = kindN p b := fun h => e h.symm
          simpa [z1, z2, e, e'] using go
  obtain ⟨r, hr, rfl⟩ := key
  rw [hr, aw]; rfl
theorem len_nSs : ∀ l : List api_Stmt, l.length ≤ nSs l
  | [] => Nat.zero_le _
  | s :: ss => by
    have := len_nSs ss
    rw [nSs, nS_eq, List.length_cons]; omega
theorem slice1 {α : Type} {l : List α} {k : Nat} (h : k < l.length) : (l.take (k + 1)).drop k = [l[k]] := by
  rw [take_get h, List.drop_append_of_le_length (by simp; omega), List.drop_of_length_le (by simp; omega)]; rfl
theorem eachLaw (aw : lazarettolaw12_awake = some true) (p : api_Program) : lazarettolaw12_TypingEach p = some true := by
  unfold lazarettolaw12_TypingEach
  rcases named p with h | ⟨h, G⟩
  · rw [h, aw]; rfl
  rw [h, Option.bind_some, if_neg (by decide)]
  rw [loop_all (xs := p.Tasks) (p := fun _ => true) (a := .inl false) (b := .inr ()) (fun i hi => ?_) (by simp [lazarettolaw12_TypingEach_L1])]
  · simp [aw]
  have ht := List.getElem_mem hi
  simp only [lazarettolaw12_TypingEach_L1, Int.ofNat_lt, hi, if_true, List.getElem?_eq_getElem hi, Option.bind_some]
  generalize p.Tasks[i] = t at ht
  have ok := (G.T t ht).ok
  have hn := (G.T t ht).n
  have hd := G.d t ht
  have hlen := len_nSs t.Body
  have key : Tot (loop (lazarettolaw12_TypingEach_L2 p t) (true, 0)) fun r => r = tyL p t.Body := by
    refine Tot.loop (fun x => x.2 ≤ t.Body.length ∧ x.1 = (t.Body.take x.2).all (tyS p)) (fun x => t.Body.length - x.2) ⟨Nat.zero_le _, by simp⟩ fun ⟨al, k⟩ ⟨hk, ha⟩ => ?_
    simp only at hk ha
    unfold lazarettolaw12_TypingEach_L2
    dsimp only
    refine Tot.ite (fun h => ?_) fun h => Tot.mk ?_
    · have hk' : k < t.Body.length := by omega
      have e1 : w64 ((k : Int) + 1) = ((k + 1 : Nat) : Int) := by rw [w64_id (by omega) (by omega)]; omega
      rw [e1, Int.toNat_natCast, slice1 hk']
      refine Tot.need ⟨by omega, by omega, by omega⟩ ?_
      have hx := List.getElem_mem hk'
      have okx := fmSs_mem ok _ hx
      have dx := depSs_mem hx
      have tk : (t.Body.take (k + 1)).all (tyS p) = ((t.Body.take k).all (tyS p) && tyS p t.Body[k]) := by rw [take_get hk', List.all_append]; simp
      generalize t.Body[k] = x at okx dx tk
      rw [(ty_ok G.P (l := [x]) (by simp only [fmSs]; exact ⟨okx, trivial⟩) (by simp only [depSs]; omega)).1, Option.bind_some, tyL_all]
      simp only [List.all_cons, List.all_nil, Bool.and_true]
      refine Tot.ite (fun h => Tot.mk ⟨⟨hk', ?_⟩, by simp only; omega⟩) fun h => Tot.mk ⟨⟨hk', ?_⟩, by simp only; omega⟩
      · simp only [tk, h, Bool.and_true]; exact ha
      · simp only [tk]
        cases hx : tyS p x with
        | true => exact (h hx).elim
        | false => simp
    · have : k = t.Body.length := by omega
      subst this
      rw [List.take_length] at ha
      show al = tyL p t.Body
      rw [tyL_all, ← ha]
  obtain ⟨r, hr, rfl⟩ := key
  rw [hr, Option.bind_some, (ty_ok G.P ok hd).1, Option.bind_some]
  simp
/-! The chapter's examples. -/
abbrev oneP (v : api_Expr) : api_Program := ⟨⟨[[97]], []⟩, [], [⟨[120], ⟨2, 0, 0⟩, 0, 0, 0⟩], [], [⟨1, 0, [1], [⟨1, [], ⟨2, 0, 0, [120], []⟩, v, [], [], []⟩]⟩]⟩
theorem one_eq (v : api_Expr) : lazarettolaw12_one v = some (oneP v) := rfl
theorem kindNum (n : Nat) (p : api_Program) (N K : Int) : typing_kind_g (n + 1) p ⟨1, N, K, [], []⟩ = some K := by
  show typing_kind_b (typing_kind_g n) p _ = _
  unfold typing_kind_b
  rw [need_of (by simp), kindLoop0 rfl, Option.bind_some, if_pos rfl]
theorem kindX (v : api_Expr) (n : Nat) : typing_kind_g (n + 1) (oneP v) ⟨2, 0, 0, [120], []⟩ = some 2 := by
  show typing_kind_b (typing_kind_g n) _ _ = _
  unfold typing_kind_b
  rw [need_of (by simp), kindLoop0 rfl, Option.bind_some]
  simp [namesVar, varN, findN, List.findIdx?_cons, idx]
theorem kindOp (n : Nat) (p : api_Program) (op k m : Int) (h1 : 7 ≤ op) (h2 : op ≤ 20) : typing_kind_g (n + 2) p ⟨op, 0, 0, [], [⟨1, 1, k, [], []⟩, ⟨1, 1, m, [], []⟩]⟩ = if m = k then ints_Result op k else some 0 := by
  show typing_kind_b (typing_kind_g (n + 1)) p _ = _
  unfold typing_kind_b
  rw [need_of (by simp), kindLoop2 rfl (kindNum n p 1 k) (kindNum n p 1 m), Option.bind_some]
  simp only [List.getElem?_cons_zero, Option.bind_some, List.length_cons, List.length_nil]
  rw [if_neg (by omega), if_neg (by omega), if_neg (by omega), if_neg (by omega), if_neg (by omega), if_pos (by omega), cf_int [k, m] _ (fun x => !decide (x = k)) (fun x _ => by simp [typing_kind_1]), Option.bind_some]
  obtain ⟨r, _, _, hr, _⟩ := result_t op k
  rw [hr, Option.bind_some]
  by_cases h : m = k
  · rw [if_pos h, if_neg (by simp [h])]
  · rw [if_neg h, if_pos (by simp [h])]
theorem oneS (K : Int) (v : api_Expr) : typing_Stmts (oneP v) [⟨1, [], ⟨2, 0, 0, [120], []⟩, ⟨1, 1, K, [], []⟩, [], [], []⟩] = some (decide (K = 2)) := by
  have k1 : typing_kind (oneP v) ⟨2, 0, 0, [120], []⟩ = some 2 := kindX v 999999
  have k2 : typing_kind (oneP v) ⟨1, 1, K, [], []⟩ = some K := kindNum 999999 _ 1 K
  have o : typing_one (oneP v) ⟨1, [], ⟨2, 0, 0, [120], []⟩, ⟨1, 1, K, [], []⟩, [], [], []⟩ = some (decide (K = 2)) := by
    unfold typing_one
    simp only [k1, k2, Option.bind_some, namesVar]
    simp [varN, findN, List.findIdx?_cons, idx]
  have e : (typing_Stmts_g 999998).1 (oneP v) [] = some true := by
    show typing_Stmts_b (typing_Stmts_g 999997).1 (typing_Stmts_g 999997).2 (oneP v) [] = _
    unfold typing_Stmts_b
    rw [cfStmt (p := fun _ => false) (fun x hx => by cases hx)]; rfl
  show typing_Stmts_b (typing_Stmts_g 999999).1 (typing_Stmts_g 999999).2 (oneP v) _ = _
  unfold typing_Stmts_b
  rw [cfStmt (p := fun _ => !decide (K = 2)) (fun x hx => ?_)]
  · simp
  · rw [List.mem_singleton] at hx
    subst hx
    show typing_Stmts_1_b (typing_Stmts_g 999998).1 (typing_Stmts_g 999998).2 (oneP v) _ = _
    unfold typing_Stmts_1_b
    rw [o, Option.bind_some]
    simp only [e, Option.bind_some]
    by_cases h : K = 2 <;> simp [h]
theorem oneC (K : Int) : typing_Check (oneP ⟨1, 1, K, [], []⟩) = some (if K = 2 then 0 else 6) := by
  unfold typing_Check
  rw [cfVar (p := fun _ => false) (fun x hx => ?_), cfBlock (p := fun _ => false) (fun x hx => by cases hx), cfTask (p := fun _ => !decide (K = 2)) (fun x hx => ?_)]
  · by_cases h : K = 2 <;> simp [h]
  · rw [List.mem_singleton] at hx
    subst hx
    unfold typing_Check_3
    rw [oneS]; rfl
  · rw [List.mem_singleton] at hx
    subst hx
    rfl
theorem awake12 : lazarettolaw12_awake = some true := by
  have a1 : typing_Expr (oneP ⟨1, 1, 2, [], []⟩) ⟨14, 0, 0, [], [⟨1, 1, 2, [], []⟩, ⟨1, 1, 2, [], []⟩]⟩ = some (1, true) := by
    have : typing_kind (oneP ⟨1, 1, 2, [], []⟩) ⟨14, 0, 0, [], [⟨1, 1, 2, [], []⟩, ⟨1, 1, 2, [], []⟩]⟩ = _ := kindOp 999998 _ 14 2 2 (by omega) (by omega)
    unfold typing_Expr
    rw [this]; rfl
  have a2 : typing_Expr (oneP ⟨1, 1, 2, [], []⟩) ⟨10, 0, 0, [], [⟨1, 1, 2, [], []⟩, ⟨1, 1, 1, [], []⟩]⟩ = some (0, false) := by
    have : typing_kind (oneP ⟨1, 1, 2, [], []⟩) ⟨10, 0, 0, [], [⟨1, 1, 2, [], []⟩, ⟨1, 1, 1, [], []⟩]⟩ = _ := kindOp 999998 _ 10 2 1 (by omega) (by omega)
    unfold typing_Expr
    rw [this]; rfl
  unfold lazarettolaw12_awake
  simp only [one_eq, Option.bind_some, a1, a2, oneC, oneS, List.getElem?_cons_zero]
  rfl
end Go.Lz
