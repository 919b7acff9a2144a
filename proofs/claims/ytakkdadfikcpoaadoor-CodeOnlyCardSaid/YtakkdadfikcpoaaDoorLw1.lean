/- Lw1: rules of walks whose specification is given as a reckoning that may fail. -/
import Derived.Test.YtakkdadfikcpoaaDoorLzE
import Derived.Test.YtakkdadfikcpoaaDoorLp1
namespace Go.Lz
set_option linter.unusedVariables false
set_option linter.unusedSimpArgs false

section
variable {P : Program} {n : Cf} {F : List Fr} {Q : Ex → St → Prop}

/-- What is behind an exit from a loop; slots and objects may be forgotten there. -/
def exitP (P : Program) (n : Cf) (id : Nat) (F : List Fr) (st : St) (Q : Ex → St → Prop) : Prop :=
  ∃ (ks : List Nat) (m : Nat), n.m ≤ m ∧ keepLt m ks st.t = true ∧ ((st.H.take m).all (O.lt m)) = true ∧ exitS P n id F ⟨keepT ks st.t, st.H.take m⟩ Q
def leaveQ (P : Program) (n : Cf) (F : List Fr) (Q : Ex → St → Prop) : Ex → St → Prop
  | .exit id, st => exitP P n id F st Q
  | e, st => qF P n Q F e st
def LoopP (P : Program) (n : Cf) (c : Code) (F : List Fr) (st : St) (Q : Ex → St → Prop) : Prop := LoopSem P n c st (leaveQ P n F Q)
def loopPQ (P : Program) (n : Cf) (c : Code) (F : List Fr) (Q : Ex → St → Prop) : Ex → St → Prop := thenQ (fun st => LoopP P n c F st Q) (leaveQ P n F Q)
theorem p_loop {c : Code} {st : St} : loopPQ P n c F Q .normal st = LoopP P n c F st Q := rfl
theorem p_loopE {c : Code} {id : Nat} {st : St} : loopPQ P n c F Q (.exit id) st = exitP P n id F st Q := rfl
theorem p_loopG {c : Code} {l : Nat} {st : St} : loopPQ P n c F Q (.goto l) st = gotoS P n l F st Q := rfl
theorem p_loopR {c : Code} {st : St} : loopPQ P n c F Q .ret st = Q .ret st := by show qF P n Q F .ret st = _; rw [qF_ret]
attribute [go_sem] p_loop p_loopE p_loopG p_loopR

theorem LoopP.out {c : Code} {st : St} (h : LoopP P n c F st Q) : LoopS P n c F st Q := by
  intro hok ctx a E hSR b k cs
  obtain ⟨e, a', w', ⟨x, st', E', he, hw, hq, hs⟩, har⟩ := h hok ctx a E hSR b k cs
  cases x with
  | exit id =>
    obtain ⟨ks, m, hm, hk, ho, hx⟩ := hq
    obtain ⟨E2, h2w, hs2⟩ := hs.purge ks m hm hk ho
    exact ⟨e, a', w', ⟨.exit id, _, E2, he, h2w.trans hw, hx, hs2⟩, har⟩
  | normal => exact ⟨e, a', w', ⟨.normal, st', E', he, hw, hq, hs⟩, har⟩
  | ret => exact ⟨e, a', w', ⟨.ret, st', E', he, hw, hq, hs⟩, har⟩
  | goto l => exact ⟨e, a', w', ⟨.goto l, st', E', he, hw, hq, hs⟩, har⟩

theorem purge_P {body : Code} {st : St} (ks : List Nat) (m : Nat) (s' : St) (hm : n.m ≤ m) (hk : keepLt m ks st.t = true) (ho : ((st.H.take m).all (O.lt m)) = true) (e : (⟨keepT ks st.t, st.H.take m⟩ : St) = s') (h : LoopP P n body F s' Q) : LoopP P n body F st Q :=
  LoopSem.purge ks m hm hk ho (e ▸ h)
theorem purge_E {id : Nat} {st : St} (ks : List Nat) (m : Nat) (s' : St) (hm : n.m ≤ m) (hk : keepLt m ks st.t = true) (ho : ((st.H.take m).all (O.lt m)) = true) (e : (⟨keepT ks st.t, st.H.take m⟩ : St) = s') (h : exitS P n id F s' Q) : exitP P n id F st Q :=
  ⟨ks, m, hm, hk, ho, e ▸ h⟩

/-- A loop: what one round does, and what is behind. -/
theorem loop_X {body : Code} {σ ρ α β : Type} {f : σ → Option (σ ⊕ ρ)} (st : σ → α → St) (J : ρ → β → St) (id : ρ → Option Nat) {s0 : σ} (a0 : α) {e : ρ} (h : loop f s0 = some e)
    (aft : ∀ i b, id e = some i → exitS P n i F (J e b) Q)
    (step : (∀ i b, id e = some i → exitS P n i F (J e b) Q) → ∀ (m : Nat) (s : σ) (a : α) (o : σ ⊕ ρ), f s = some o → Sum.elim (loopN f m) some o = some e → (∀ s' a', loopN f m s' = some e → LoopP P n body F (st s' a') Q) → awpS P n [.code body] (st s a) (loopPQ P n body F Q)) :
    LoopS P n body F (st s0 a0) Q := by
  refine LoopP.out ?_
  obtain ⟨m, hm⟩ := loop_some.1 h
  clear h
  induction m generalizing s0 a0 with
  | zero => simp [loopN] at hm
  | succ m ih =>
    rw [loopN] at hm
    obtain ⟨o, ho, hm⟩ := bind_inv hm
    exact loop_unroll (step aft m s0 a0 o ho hm fun s' a' h' => ih a' h')
end

section
variable {P : Program} {n : Cf} {F : List Fr} {Q : Ex → St → Prop}
theorem LoopS.weak {body : Code} {st st' : St} (hw : ∀ ctx a E, SR ctx n st a E → ∃ E', E'.w = E.w ∧ SR ctx n st' a E') (h : LoopS P n body F st' Q) : LoopS P n body F st Q := by
  intro hok ctx a E hs b k cs
  obtain ⟨E', e, hs'⟩ := hw ctx a E hs
  rw [← e]
  exact h hok ctx a E' hs' b k cs
theorem SR.seed {ctx : Env} {st : St} {a : Act} {E : Env} (h : SR ctx n st a E) (k sz : Nat) (hk : look st.t k = .one (.slf [])) :
    ∃ E', E'.w = E.w ∧ SR ctx n ⟨(k, .one (.msl st.H.length 0 0 0)) :: st.t, st.H ++ [.cells 0 sz []]⟩ a E' := by
  obtain ⟨t, hh, hc⟩ := seed_obj h.rel sz _ rfl
  refine ⟨⟨E.w, E.Fr, fun i => if i = E.H.length then ⟨0, 0, 0⟩ else E.bd i, E.H ++ [.cells 0 sz []]⟩, rfl, ⟨h.len, h.hm, h.defers, fun i => ?_, by simp [h.H], hh, h.tr.trans t⟩⟩
  simp only [look_cons]
  split
  · rename_i e
    subst e
    have := h.tm k
    rw [hk] at this
    obtain ⟨_, a', ha⟩ := slf_inv (one_inv this)
    rw [ha]
    rw [← h.H]
    exact .one (hc a')
  · exact (h.tm i).trans t
theorem seed_L {body : Code} {st : St} (k sz : Nat) (hk : look st.t k = .one (.slf [])) (h : LoopS P n body F ⟨(k, .one (.msl st.H.length 0 0 0)) :: st.t, st.H ++ [.cells 0 sz []]⟩ Q) : LoopS P n body F st Q :=
  LoopS.weak (fun _ _ _ hs => hs.seed k sz hk) h
/-- An empty slice in a cell of an own object, as an object. -/
theorem seed_cell {E : Env} (h : HRel E) {id ver sz sz' j : Nat} {row : List C} (ho : E.H[id]? = some (.cells ver sz [row])) (hj : row[j]? = some (.slf [])) :
    ∃ E', E'.w = E.w ∧ E'.H = (E.H ++ [O.cells 0 sz' []]).set id (.cells ver sz [row.set j (.msl E.H.length 0 0 0)]) ∧ HRel E' ∧ Trans E E' := by
  obtain ⟨t, hh, hc⟩ := seed_obj h sz' _ rfl
  have hid : id < E.H.length := (List.getElem?_eq_some_iff.1 ho).1
  generalize hE1 : (⟨E.w, E.Fr, fun i => if i = E.H.length then ⟨0, 0, 0⟩ else E.bd i, E.H ++ [.cells 0 sz' []]⟩ : Env) = E1 at t hh hc
  have w1 : E1.w = E.w := by subst hE1; rfl
  have H1 : E1.H = E.H ++ [O.cells 0 sz' []] := by subst hE1; rfl
  have ho1 : E1.H[id]? = some (.cells ver sz [row]) := by rw [H1, List.getElem?_append_left hid]; exact ho
  obtain ⟨a1, a2, a3, a4⟩ := hh.obj id _ ho1
  have hcap : (E1.bd id).cap ≠ 0 := by simp at a1; omega
  obtain ⟨arr, ty, b1, b2, b3⟩ := a4 hcap
  obtain ⟨t2, hh2⟩ := upd_obj hh id _ (.cells ver sz [row.set j (.msl E.H.length 0 0 0)]) E1.w (E1.bd id) ho1 (Nat.le_refl _) rfl rfl rfl (fun _ _ _ => rfl)
    (fun ver' sz2 rows' e => by injection e with e1 e2 e3; subst e1 e2 e3; exact ⟨_, _, _, rfl, Nat.le_refl _, fun _ => ⟨rfl, rfl, rfl⟩⟩) (fun es' e => by cases e) _ rfl (fun _ => .inl ⟨by simpa [Env.live] using hcap, rfl⟩)
  refine ⟨⟨E1.w, E1.Fr, fun i => if i = id then E1.bd id else E1.bd i, E1.H.set id (.cells ver sz [row.set j (.msl E.H.length 0 0 0)])⟩, w1, by simp only [H1], hh2 ?_, t.trans t2⟩
  refine ⟨by simpa using a1, by simpa using a2, fun r hr => ?_, fun _ => ⟨arr, ty, by simpa using b1, by simpa using b2, fun i k c hck => ?_⟩⟩
  · simp at hr; subst hr; rw [List.length_set]; exact a3 row (by simp)
  · obtain ⟨r, hr, hk⟩ := at2_some.1 hck
    cases i with
    | succ i => simp at hr
    | zero =>
      simp at hr; subst hr
      simp only [if_true, Nat.zero_mul, Nat.zero_add]
      by_cases e : j = k
      · subst e
        rw [List.getElem?_set_self (List.getElem?_eq_some_iff.1 hj).1] at hk
        obtain rfl := Option.some.inj hk
        obtain ⟨v, hv, hr⟩ := b3 0 j (.slf []) (at2_some.2 ⟨row, rfl, hj⟩)
        obtain ⟨_, a', ha⟩ := slf_inv hr
        refine ⟨v, by simpa using hv, ?_⟩
        rw [ha]
        exact (hc a').trans t2
      · rw [List.getElem?_set_ne e] at hk
        obtain ⟨v, hv, hr⟩ := b3 0 k c (at2_some.2 ⟨row, rfl, hk⟩)
        exact ⟨v, by simpa using hv, hr.trans t2⟩
theorem seed_C {body : Code} {t : List (Nat × V)} {H : List O} (id j sz' : Nat) {ver sz : Nat} {row : List C} (ho : H[id]? = some (.cells ver sz [row])) (hj : row[j]? = some (.slf []))
    (h : LoopS P n body F ⟨t, (H ++ [O.cells 0 sz' []]).set id (.cells ver sz [row.set j (.msl H.length 0 0 0)])⟩ Q) : LoopS P n body F ⟨t, H⟩ Q :=
  LoopS.weak (fun ctx a E hs => by
    have hH : E.H = H := hs.H
    obtain ⟨E', w', H', hh, t'⟩ := seed_cell (sz' := sz') hs.rel (by rw [hH]; exact ho) hj
    exact ⟨E', w', ⟨hs.len, hs.hm, hs.defers, fun i => (hs.tm i).trans t', by rw [H', hH], hh, hs.tr.trans t'⟩⟩) h
theorem plain_L {body : Code} {st : St} (k : Nat) (rows : List (List C)) (hk : look st.t k = .one (.slf rows)) (h : LoopS P n body F ⟨(k, .one (.sl rows)) :: st.t, st.H⟩ Q) : LoopS P n body F st Q :=
  LoopS.weak (st' := ⟨(k, .one (.sl rows)) :: st.t, st.H⟩) (fun _ a E hs => ⟨E, rfl, ⟨hs.len, hs.hm, hs.defers, fun i => by
    simp only [look_cons]
    split
    · rename_i e; subst e
      have := hs.tm k
      rw [hk] at this
      exact .one (slf_inv (one_inv this)).1
    · exact hs.tm i, hs.H, hs.rel, hs.tr⟩⟩) h
end

theorem if_t {α : Type} {c : Prop} [Decidable c] {a b r : α} (hc : c) (h : (if c then a else b) = r) : a = r := by rwa [if_pos hc] at h
theorem if_f {α : Type} {c : Prop} [Decidable c] {a b r : α} (hc : ¬c) (h : (if c then a else b) = r) : b = r := by rwa [if_neg hc] at h
abbrev w64 (n : Int) : Int := IntKind.i64.wrap n
theorem w64_eq (n : Int) : w64 n = (n + 9223372036854775808) % 18446744073709551616 - 9223372036854775808 := by
  simp only [IntKind.wrap, IntKind.min, IntKind.signed, IntKind.bits]; simp; omega
theorem wrap_nat {k : Nat} (h : (k : Int) + 1 ≤ 9223372036854775807) : IntKind.i64.wrap ((k : Int) + 1) = (k : Int) + 1 := by
  show w64 _ = _; rw [w64_eq]; omega
theorem wrap_lit {n : Int} (h1 : -9223372036854775808 ≤ n) (h2 : n ≤ 9223372036854775807) : IntKind.i64.wrap n = n := by show w64 _ = _; rw [w64_eq]; omega
theorem lim_eq : lim = 281474976710656 := rfl
theorem nlt_t {a b : Nat} (h : a < b) : (a : Int) < (b : Int) := by omega
theorem nlt_f {a b : Nat} (h : ¬ a < b) : ¬ (a : Int) < (b : Int) := by omega
attribute [go_sem] wrap_lit lim_eq List.toList_toArray

/-! Encodings of data as cells. -/
def eK (k : IntKind) (n : Int) : List C := [.int k n]
abbrev eI : Int → List C := eK .i64
def eB (b : Bool) : List C := [.bool b]
def eS (s : Str) : List C := [.str s]
def eL {α : Type} (f : α → List C) (xs : List α) : List C := [.sl (xs.map f)]
/-- A function without captured places, or none. -/
def eF : Option Nat → C
  | none => .nilfn
  | some f => .fn f []
theorem eF_none : eF none = .nilfn := of_eq_true (eq_self _)
theorem eF_some {f : Nat} : eF (some f) = .fn f [] := of_eq_true (eq_self _)
theorem lt_eF {x : Option Nat} {m : Nat} : (eF x).lt m = true := by cases x <;> rfl
theorem vn_eF {x : Option Nat} {H : List O} {k : Nat} : C.viewN H k (eF x) = eF x := by
  cases x with
  | none => exact vn_nilfn
  | some f => cases k <;> rfl
theorem own_eF {x : Option Nat} : (eF x).own = false := by cases x <;> rfl
attribute [go_sem] eF_none eF_some lt_eF vn_eF own_eF
theorem eK_def {k : IntKind} {n : Int} : eK k n = [.int k n] := of_eq_true (eq_self _)
theorem eB_def {b : Bool} : eB b = [.bool b] := of_eq_true (eq_self _)
theorem eS_def {s : Str} : eS s = [.str s] := of_eq_true (eq_self _)
theorem eL_def {α : Type} {f : α → List C} {xs : List α} : eL f xs = [.sl (xs.map f)] := of_eq_true (eq_self _)
attribute [go_sem] eK_def eB_def eS_def eL_def

/-- Encodings in which no references occur. -/
def Flat {α : Type} (f : α → List C) : Prop := ∀ m a, ltRow m (f a) = true
theorem ltRows_flat {α : Type} {f : α → List C} (h : Flat f) (m : Nat) (xs : List α) : ltRows m (xs.map f) = true := ltRows_map f (h m) xs
theorem Flat.K (k : IntKind) : Flat (eK k) := fun _ _ => rfl
theorem Flat.B : Flat eB := fun _ _ => rfl
theorem Flat.S : Flat eS := fun _ _ => rfl
theorem Flat.L {α : Type} {f : α → List C} (h : Flat f) : Flat (eL f) := fun m xs => by
  show (ltRows m (xs.map f) && true) = true
  rw [ltRows_flat h]; rfl

theorem take_map_len {α β : Type} (f : α → β) (xs : List α) : List.take xs.length (List.map f xs) = List.map f xs := List.take_of_length_le (by simp)
theorem take_len' {α : Type} (xs : List α) : List.take xs.length xs = xs := by simp
theorem len_set' {α : Type} (xs : List α) (i : Nat) (x : α) : (xs.set i x).length = xs.length := by simp
theorem map_set' {α β : Type} (f : α → β) (xs : List α) (i : Nat) (x : α) : (xs.set i x).map f = (xs.map f).set i (f x) := by simp [List.map_set]
attribute [go_sem] take_map_len take_len'
end Go.Lz
namespace Go.Lz
theorem ltRow_app {m : Nat} {a b : List C} : ltRow m (a ++ b) = (ltRow m a && ltRow m b) := by
  rw [Bool.eq_iff_iff, Bool.and_eq_true]; simp only [ltRow_iff, List.mem_append]
  exact ⟨fun h => ⟨fun r hr => h r (.inl hr), fun r hr => h r (.inr hr)⟩, fun h r hr => hr.elim (h.1 r) (h.2 r)⟩
end Go.Lz
namespace Go.Lz
theorem imp_i {p q : Prop} (h : p → q) : p → q := h
theorem and_i {p q : Prop} (h : p) (k : q) : p ∧ q := ⟨h, k⟩
end Go.Lz
namespace Go.Lz
theorem drawB_i {ops : Array Oper} (h : drawB ops = true) : drawB ops = true := h
theorem tailB_i {P : Program} {ops : Array Oper} {k : Nat} {t : List (Nat × V)} (h : tailB ops k = true) : tailP P ops k t := .inl h
theorem lateP_i (L : List Nat) {P : Program} {ops : Array Oper} {k : Nat} {t : List (Nat × V)} (h : (lateSet ops k == L && lateB ops k) = true) (h2 : lateAll P ops t L) : tailP P ops k t := by
  rw [Bool.and_eq_true, beq_iff_eq] at h
  exact .inr ⟨h.2, by rw [h.1]; exact h2⟩
end Go.Lz
namespace Go.Lz
theorem nt_ {b : Bool} (h : ¬ b = true) : b = false := by cases b <;> simp_all
end Go.Lz
namespace Go.Lz
/-- What stands in a list when another one was copied over it from its begin on. -/
def copyL {α : Type} (xs ys : List α) : List α := ys.take xs.length ++ xs.drop (min xs.length ys.length)
theorem copyL_len {α : Type} (xs ys : List α) : (copyL xs ys).length = xs.length := by simp [copyL]; omega
theorem ite_max (a b : Int) : (if a < b then b else a) = max a b := by split <;> omega
theorem ite_min (a b : Int) : (if b < a then b else a) = min a b := by split <;> omega
theorem ltRows_rep' {m n : Nat} {r : List C} (hr : ltRow m r = true) : ltRows m (List.replicate n r) = true := ltRows_rep hr
theorem ltRows_take {m k : Nat} {a : List (List C)} (h : ltRows m a = true) : ltRows m (a.take k) = true := by
  rw [ltRows_iff] at *; exact fun r hr => h r (List.mem_of_mem_take hr)
attribute [go_sem] Nat.add_sub_cancel_left ite_max ltRows_rep' ltRows_app ltRows_take ltRows_drop ltRows_set
end Go.Lz
namespace Go.Lz
theorem ite_maxN (a b : Nat) : (if a < b then (b : Int) else (a : Int)) = max (a : Int) (b : Int) := by split <;> omega
attribute [go_sem] ite_maxN
end Go.Lz
namespace Go.Lz
theorem q_get {α : Type} {pre xs : List α} {i : Nat} {x : α} (h : xs[i]? = some x) : (pre ++ xs)[pre.length + i]? = some x := by
  rw [List.getElem?_append_right (by omega)]; simpa using h
theorem q_lt {α : Type} {pre xs : List α} {i : Nat} {x : α} (h : xs[i]? = some x) : pre.length + i < (pre ++ xs).length := by
  have := (List.getElem?_eq_some_iff.1 h).1; simp; omega
theorem q_drop {α β : Type} (f : α → β) (pre xs : List α) (n : Nat) : List.drop (pre.length + n) (List.map f (pre ++ xs)) = List.map f (xs.drop n) := by
  rw [← List.map_drop, List.drop_append]; simp
theorem drop_map' {α β : Type} (f : α → β) (xs : List α) (n : Nat) : List.drop n (List.map f xs) = List.map f (xs.drop n) := by simp
end Go.Lz
namespace Go.Lz
theorem take1_tail {α : Type} (l : List α) : List.take 1 l ++ l.tail = l := by cases l <;> simp
theorem eq_take1 {α : Type} (l : List α) : (l = List.take 1 l ++ l.tail) = True := by rw [take1_tail]; exact eq_self l
attribute [go_sem] take1_tail eq_take1
end Go.Lz
namespace Go.Lz
/-- Encodings in which nothing lies in own objects. -/
def Plain {α : Type} (f : α → List C) : Prop := ∀ (H : List O) (k : Nat) (a : α), (f a).map (C.viewN H k) = f a
theorem viewRows_plain {α : Type} {f : α → List C} (h : Plain f) (H : List O) (k : Nat) (xs : List α) : viewRows H k (xs.map f) = xs.map f := by
  simp only [viewRows, List.map_map]
  exact List.map_congr_left fun a _ => h H k a
theorem Plain.K (k : IntKind) : Plain (eK k) := fun _ _ _ => by simp [eK, vn_int]
theorem Plain.B : Plain eB := fun _ _ _ => by simp [eB, vn_bool]
theorem Plain.S : Plain eS := fun _ _ _ => by simp [eS, vn_str]
theorem Plain.L {α : Type} (f : α → List C) : Plain (eL f) := fun _ _ _ => by simp [eL, vn_sl]
end Go.Lz
namespace Go.Lz
/-! Calls to which own objects are lent for good: they are given up. -/
theorem call_freeze {P : Program} {f : FuncId} {args args' : List V} {H : List O} {x : V} {K : V → List O → Prop} (ids : List Nat) (h : Pu P f args' x) (ha : args.map (V.view (maskF true ids 0 H)) = args') (hl : ltVs 0 args' = true) (hx : x.lt 0 = true)
    (hk : K x (maskF false ids 0 H)) : Ct P f args H K := by
  refine ⟨h.1, fun E vs hE hH hn hv => ?_⟩
  subst hH
  subst ha
  obtain ⟨t2, h2⟩ := mask_env hE false ids
  -- the callee's own view of memory: what is not lent is shut out
  have hfr : ∀ b, (E.Fr b ∨ ({ E with H := maskF false ids 0 E.H } : Env).own b) → b < E.w.heap.size := fun b hb => hb.elim (hE.frlt b) h2.own_lt
  have ownE : ∀ b, ({ E with H := maskF false ids 0 E.H } : Env).own b → E.own b := by
    rintro b ⟨i, y, q1, q2, q3⟩
    have q2' : E.live i y := (live_bd (E := E) (E' := { E with H := maskF false ids 0 E.H }) rfl).1 q2
    rcases mask_get q1 with rfl | q1
    · exact q2.elim
    · exact ⟨i, y, q1.1, q2', q3⟩
  have hf1 : ∀ b, E.free b → (⟨E.w, fun b => E.Fr b ∨ ({ E with H := maskF false ids 0 E.H } : Env).own b, E.bd, []⟩ : Env).free b := fun b hb =>
    ⟨hb.1, fun h => h.elim hb.2.1 (fun h => hb.2.2 (ownE b h)), by rintro ⟨i, o, ho, _⟩; simp at ho⟩
  have hH1 : ∀ id cur sz rows, (maskF true ids 0 E.H)[id]? = some (.cells cur sz rows) → E.H[id]? = some (.cells cur sz rows) ∧
      ((E.bd id).cap ≠ 0 → (⟨E.w, fun b => E.Fr b ∨ ({ E with H := maskF false ids 0 E.H } : Env).own b, E.bd, []⟩ : Env).free (E.bd id).blk) := by
    intro id cur sz rows ho
    rcases mask_get ho with e | ⟨ho', hin⟩
    · cases e
    · refine ⟨ho', fun hc => ⟨hE.lt ho' hc, fun h => h.elim (hE.nofr id _ ho' hc) ?_, by rintro ⟨i, o, hi, _⟩; simp at hi⟩⟩
      rintro ⟨i, y, q1, q2, q3⟩
      have q2' : E.live i y := (live_bd (E := E) (E' := { E with H := maskF false ids 0 E.H }) rfl).1 q2
      rcases mask_get q1 with rfl | ⟨q1, hout⟩
      · exact q2.elim
      · refine hE.dist i id _ _ q1 ho' q2' hc (fun e => ?_) q3
        subst e
        rw [hin] at hout; cases hout
  refine Calls.mono (h.2 ⟨E.w, fun b => E.Fr b ∨ ({ E with H := maskF false ids 0 E.H } : Env).own b, E.bd, []⟩ vs ⟨by simp, by simp, by simp, hfr, hE.glob.of hf1 (fun _ _ _ => rfl)⟩ rfl (by simpa using hn) (fun j y hj => ?_)) ?_
  · simp only [List.getElem?_map, Option.map_eq_some_iff] at hj
    obtain ⟨z, hz, rfl⟩ := hj
    exact vview_gen (E1 := ⟨E.w, fun b => E.Fr b ∨ ({ E with H := maskF false ids 0 E.H } : Env).own b, E.bd, []⟩) hE rfl hf1 hH1 (hv j z hz) (ltVs_iff.1 hl _ (List.mem_map.2 ⟨z, List.mem_of_getElem? hz, rfl⟩))
  · rintro e w' ⟨v, y, E', rfl, rfl, ⟨rfl, hH'⟩, hyv, hh, tr⟩
    obtain ⟨t3, h3⟩ := grow_world h2 E'.w tr.size tr.os tr.tape tr.output (fun b hb => tr.keep b hb (by rintro ⟨id, o, ho, _⟩; simp at ho))
    refine ⟨v, y, ⟨E'.w, E.Fr, E.bd, maskF false ids 0 E.H⟩, rfl, rfl, hk, ?_, h3, t2.trans t3⟩
    have hfree : ∀ b, E'.free b → (⟨E'.w, E.Fr, E.bd, maskF false ids 0 E.H⟩ : Env).free b := fun b hb => by
      have h1 := hb.2.1
      rw [tr.fr] at h1
      refine ⟨hb.1, fun h => h1 (.inl h), fun h => h1 (.inr ?_)⟩
      obtain ⟨i, y, q1, q2, q3⟩ := h
      exact ⟨i, y, q1, (live_bd rfl).1 q2, q3⟩
    exact VRel.into (E := E') (m := 0) hfree (fun _ _ _ => rfl) (fun id h => by omega) hyv hx
section
variable {P : Program} {n : Cf} {F : List Fr} {Q : Ex → St → Prop}
theorem call_F {f : FuncId} {args args' : List V} {H : List O} {d : Nat} {all : Array Oper} {rest : List Oper} {t : List (Nat × V)} {x : V} (ids : List Nat) (h : Pu P f args' x) (ha : args.map (V.view (maskF true ids 0 H)) = args') (hl : ltVs 0 args' = true) (hx : x.lt 0 = true)
    (hk : awpS P n (.ops all rest :: F) ⟨(d, x) :: t, maskF false ids 0 H⟩ Q) : CtS P n f args H (some d) all rest F t Q := call_freeze ids h ha hl hx hk
end
attribute [go_sem] maskF List.contains_cons List.contains_nil
end Go.Lz
namespace Go.Lz
/-- What a function value holds, where none of it lies in own objects. -/
structure Clo (c : List C) : Prop where
  lt : ∀ m, ltRow m c = true
  vw : ∀ (H : List O) (k : Nat), c.map (C.viewN H k) = c
theorem Clo.lts {c : List C} (h : Clo c) (m : Nat) : ltVs m (c.map V.one) = true := by
  rw [ltVs_iff]
  intro v hv
  obtain ⟨x, hx, rfl⟩ := List.mem_map.1 hv
  exact ltRow_iff.1 (h.lt m) x hx
theorem Clo.vws {c : List C} (h : Clo c) (H : List O) : (c.map V.one).map (V.view H) = c.map V.one := by
  rw [List.map_map]
  have := h.vw H 4
  have e : V.view H ∘ V.one = V.one ∘ C.viewN H 4 := rfl
  rw [e, ← List.map_map, this]
theorem ltVs_app {m : Nat} {a b : List V} : ltVs m (a ++ b) = (ltVs m a && ltVs m b) := by
  rw [Bool.eq_iff_iff, Bool.and_eq_true]; simp only [ltVs_iff, List.mem_append]
  exact ⟨fun h => ⟨fun r hr => h r (.inl hr), fun r hr => h r (.inr hr)⟩, fun h r hr => hr.elim (h.1 r) (h.2 r)⟩
attribute [go_sem] ltVs_app
end Go.Lz
namespace Go.Lz
theorem Clo.nil : Clo [] := ⟨fun _ => rfl, fun _ _ => rfl⟩
def cellK (r : R) (H : List O) (K : V → List O → Prop) : Prop := r.pre ∧ K r.v H
theorem r_cell {P : Program} {i : Nat} {ty : TypeId} {t : List (Nat × V)} {H : List O} {K : V → List O → Prop} : resK P [.cell i ty] ⟨t, H⟩ K = cellK (loadF P ty (look t i) H) H K := by
  simp only [resK, resOf, loadF, cellK]
  cases look t i with
  | one c =>
    simp only
    cases tAg P ty with
    | none => simp [R.bad]
    | some g =>
      obtain ⟨g, n⟩ := g
      cases rowOf H c with
      | none => simp [R.bad]
      | some x => obtain ⟨row, off, p⟩ := x; simp
  | _ => simp [R.bad]
attribute [go_sem] r_cell cellK
end Go.Lz
namespace Go.Lz
theorem size_nil {α : Type} : (#[] : Array α).size = 0 := rfl
attribute [go_sem] size_nil
end Go.Lz
namespace Go.Lz
section
variable {P : Program} {t : List (Nat × V)} {H : List O} {K : V → List O → Prop}
def resC1 (x : Option (V × Prop)) (H : List O) (K : V → List O → Prop) : Prop := match x with | some (x, p) => p ∧ K x H | none => False
def resC2 (x y : Option (V × Prop)) (H : List O) (K : V → List O → Prop) : Prop := match x with | some (x, p) => (match y with | some (y, q) => p ∧ q ∧ K (.tup [x, y]) H | none => False) | none => False
def resC3 (x y z : Option (V × Prop)) (H : List O) (K : V → List O → Prop) : Prop := match x with | some (x, p) => (match y with | some (y, q) => (match z with | some (z, r) => p ∧ q ∧ r ∧ K (.tup [x, y, z]) H | none => False) | none => False) | none => False
theorem r_c1 {a : ResultVar} : resK P [a] ⟨t, H⟩ K = resC1 (resOf P H t a) H K := by unfold resK resC1; rfl
theorem r_c2 {a b : ResultVar} : resK P [a, b] ⟨t, H⟩ K = resC2 (resOf P H t a) (resOf P H t b) H K := by
  unfold resK resC2
  cases h1 : resOf P H t a with
  | none => simp [h1]
  | some x => cases h2 : resOf P H t b with
    | none => simp [h1, h2]
    | some y => simp [h1, h2, and_assoc]
theorem r_c3 {a b c : ResultVar} : resK P [a, b, c] ⟨t, H⟩ K = resC3 (resOf P H t a) (resOf P H t b) (resOf P H t c) H K := by
  unfold resK resC3
  cases h1 : resOf P H t a with
  | none => simp [h1]
  | some x => cases h2 : resOf P H t b with
    | none => simp [h1, h2]
    | some y => cases h3 : resOf P H t c with
      | none => simp [h1, h2, h3]
      | some z => simp [h1, h2, h3, and_assoc]
theorem resOf_t {i : Nat} : resOf P H t (.tmp i) = some (look t i, True) := rfl
theorem c1_some {x : V} {p : Prop} : resC1 (some (x, p)) H K = (p ∧ K x H) := rfl
theorem c2_some {x y : V} {p q : Prop} : resC2 (some (x, p)) (some (y, q)) H K = (p ∧ q ∧ K (.tup [x, y]) H) := rfl
theorem c3_some {x y z : V} {p q r : Prop} : resC3 (some (x, p)) (some (y, q)) (some (z, r)) H K = (p ∧ q ∧ r ∧ K (.tup [x, y, z]) H) := rfl
attribute [go_sem] r_c1 r_c2 r_c3 resOf c1_some c2_some c3_some
end
end Go.Lz
namespace Go.Lz
/-! Maps. -/
def eM {α β : Type} (kf : α → C) (vf : β → C) (es : List (α × β)) : List (C × C) := es.map fun p => (kf p.1, vf p.2)
theorem eM_nil {α β : Type} {kf : α → C} {vf : β → C} : eM kf vf [] = [] := rfl
theorem mfind_str {β : Type} {vf : β → C} {k : Str} {es : List (Str × β)} : mfind (.str k) (eM C.str vf es) = some ((mget k es).map vf) := by
  induction es with
  | nil => rfl
  | cons p r ih =>
    rw [eM, List.map_cons, mfind, mget]
    simp only [keyEq]
    by_cases h : k = p.1
    · simp [h]
    · simp only [h, decide_false, if_false]; exact ih
theorem mput_str {β : Type} {vf : β → C} {k : Str} {v : β} {es : List (Str × β)} : mput (.str k) (vf v) (eM C.str vf es) = some (eM C.str vf (mset k v es)) := by
  induction es with
  | nil => rfl
  | cons p r ih =>
    rw [eM, List.map_cons, mput, mset]
    simp only [keyEq]
    by_cases h : k = p.1
    · simp [h, eM]
    · simp only [h, decide_false, if_false]
      rw [show (List.map (fun p => (C.str p.1, vf p.2)) r) = eM C.str vf r from rfl, ih]; rfl
theorem mfind_int {β : Type} {vf : β → C} {kd : IntKind} {k : Int} {es : List (Int × β)} : mfind (.int kd k) (eM (C.int kd) vf es) = some ((mget k es).map vf) := by
  induction es with
  | nil => rfl
  | cons p r ih =>
    rw [eM, List.map_cons, mfind, mget]
    simp only [keyEq, if_true]
    by_cases h : k = p.1
    · simp [h]
    · simp only [h, decide_false, if_false]; exact ih
theorem mput_int {β : Type} {vf : β → C} {kd : IntKind} {k : Int} {v : β} {es : List (Int × β)} : mput (.int kd k) (vf v) (eM (C.int kd) vf es) = some (eM (C.int kd) vf (mset k v es)) := by
  induction es with
  | nil => rfl
  | cons p r ih =>
    rw [eM, List.map_cons, mput, mset]
    simp only [keyEq, if_true]
    by_cases h : k = p.1
    · simp [h, eM]
    · simp only [h, decide_false, if_false]
      rw [show (List.map (fun p => (C.int kd p.1, vf p.2)) r) = eM (C.int kd) vf r from rfl, ih]; rfl
theorem mput_strB {k : Str} {v : Bool} {es : List (Str × Bool)} : mput (.str k) (.bool v) (eM C.str C.bool es) = some (eM C.str C.bool (mset k v es)) := mput_str
theorem mput_strI {k : Str} {v : Int} {kd : IntKind} {es : List (Str × Int)} : mput (.str k) (.int kd v) (eM C.str (C.int kd) es) = some (eM C.str (C.int kd) (mset k v es)) := mput_str
theorem mput_intB {k : Int} {kk : IntKind} {v : Bool} {es : List (Int × Bool)} : mput (.int kk k) (.bool v) (eM (C.int kk) C.bool es) = some (eM (C.int kk) C.bool (mset k v es)) := mput_int
theorem mput_intI {k : Int} {kk : IntKind} {v : Int} {kd : IntKind} {es : List (Int × Int)} : mput (.int kk k) (.int kd v) (eM (C.int kk) (C.int kd) es) = some (eM (C.int kk) (C.int kd) (mset k v es)) := mput_int
theorem lookR_B {H : List O} {x : Option Bool} : lookR (.bool false) false H (some (x.map C.bool)) = .ok (.one (.bool (x.getD false))) H := by cases x <;> rfl
theorem lookR_I {H : List O} {kd : IntKind} {x : Option Int} : lookR (.int kd 0) false H (some (x.map (C.int kd))) = .ok (.one (.int kd (x.getD 0))) H := by cases x <;> rfl
theorem lookR_Bk {H : List O} {x : Option Bool} : lookR (.bool false) true H (some (x.map C.bool)) = .ok (.tup [.one (.bool (x.getD false)), .one (.bool x.isSome)]) H := by cases x <;> rfl
theorem lookR_Ik {H : List O} {kd : IntKind} {x : Option Int} : lookR (.int kd 0) true H (some (x.map (C.int kd))) = .ok (.tup [.one (.int kd (x.getD 0)), .one (.bool x.isSome)]) H := by cases x <;> rfl
theorem eM_lt {α β : Type} {kf : α → C} {vf : β → C} {m : Nat} {es : List (α × β)} (hk : ∀ a, (kf a).lt m = true) (hv : ∀ b, (vf b).lt m = true) : ((eM kf vf es).all fun e => C.lt m e.fst && C.lt m e.snd) = true := by
  simp [eM, hk, hv]
theorem eM_ltSB {m : Nat} {es : List (Str × Bool)} : ((eM C.str C.bool es).all fun e => C.lt m e.fst && C.lt m e.snd) = true := eM_lt (fun _ => rfl) (fun _ => rfl)
theorem eM_ltSI {m : Nat} {kd : IntKind} {es : List (Str × Int)} : ((eM C.str (C.int kd) es).all fun e => C.lt m e.fst && C.lt m e.snd) = true := eM_lt (fun _ => rfl) (fun _ => rfl)
theorem eM_ltIB {m : Nat} {kd : IntKind} {es : List (Int × Bool)} : ((eM (C.int kd) C.bool es).all fun e => C.lt m e.fst && C.lt m e.snd) = true := eM_lt (fun _ => rfl) (fun _ => rfl)
theorem eM_ltII {m : Nat} {k kd : IntKind} {es : List (Int × Int)} : ((eM (C.int k) (C.int kd) es).all fun e => C.lt m e.fst && C.lt m e.snd) = true := eM_lt (fun _ => rfl) (fun _ => rfl)
attribute [go_sem] mfind_str mfind_int mput_strB mput_strI mput_intB mput_intI lookR_B lookR_I lookR_Bk lookR_Ik List.isEmpty_map eM_ltSB eM_ltSI eM_ltIB eM_ltII
theorem seedMS : (O.map [] : O) = .map (eM C.str C.bool []) := rfl

/-- A call walked through on the spot. -/
theorem inline_S {P : Program} {n : Cf} {F : List Fr} {Q : Ex → St → Prop} {f : FuncId} {fn : Func} {c : Code} {args : List V} {H : List O} {d : Option Nat} {all : Array Oper} {rest : List Oper} {t : List (Nat × V)}
    (hf : P.funcs[f]? = some fn) (hb : fn.body = some c) (hname : (fn.name == "runtime.NumGoroutine") = false) (hok : okC fn.ntmps c = true)
    (h : awpS P ⟨fn.ntmps, H.length⟩ [.code c] ⟨argsT 0 args, H⟩ (endK P fn.results.toList fun v H' => awpS P n (.ops all rest :: F) (St.put ⟨t, H'⟩ d v H') Q)) : CtS P n f args H d all rest F t Q :=
  ct_of_awp hf hb hname hok h
theorem put_some {t : List (Nat × V)} {H H' : List O} {d : Nat} {x : V} : St.put ⟨t, H⟩ (some d) x H' = ⟨(d, x) :: t, H'⟩ := rfl
theorem put_none {t : List (Nat × V)} {H H' : List O} {x : V} : St.put ⟨t, H⟩ none x H' = ⟨t, H'⟩ := rfl
attribute [go_sem] put_some put_none
end Go.Lz
namespace Go.Lz
theorem take_map_app {α β : Type} {f : α → β} {xs : List α} {ys : List β} {n : Nat} : List.take (xs.length + n) (List.map f xs ++ ys) = List.map f xs ++ List.take n ys := by
  rw [show xs.length + n = (List.map f xs).length + n by simp, List.take_length_add_append]
attribute [go_sem] take_map_app
end Go.Lz
namespace Go.Lz
theorem and_a {p q : Prop} (k : q) (h : p := by first | (with_reducible exact mo) | (with_reducible refine drawB_i (by kernel_rfl)) | (with_reducible refine tailB_i (by kernel_rfl)) | omega | (simp [go_sem]; done) | (simp [go_sem]; omega)) : p ∧ q := ⟨h, k⟩
end Go.Lz
