/- Lw2: short steps of walks. Facts lie in F, rewritings in R; both are found by name. -/
import Derived.Test.YtakkdadfikcpoaaDoorLw1
namespace Go.Lz
set_option linter.unusedVariables false
set_option linter.unusedSimpArgs false

attribute [go_sem] strConvF bytesConvF mslConvF makeIfF typeAssertF noIfF isIfF vn_ifc4 vn_ifc3 vn_ifc2 vn_ifc1
theorem ok_pre {v : V} {h : List O} : (R.ok v h).pre = True := rfl
theorem ok_v {v : V} {h : List O} : (R.ok v h).v = v := rfl
theorem ok_h {v : V} {h : List O} : (R.ok v h).h = h := rfl
attribute [go_sem] ok_pre ok_v ok_h
/-- A side goal. -/
theorem ss {p : Prop} (h : p := by first | (with_reducible exact mo) | (with_reducible refine drawB_i (by kernel_rfl)) | (with_reducible refine tailB_i (by kernel_rfl)) | omega | (simp [go_sem]; done) | (simp [go_sem, F]; done) | (simp [go_sem]; omega) | (simp [go_sem, F]; omega) | ((repeat' (with_reducible apply And.intro)) <;> first | omega | (intro r hr; obtain ⟨_, _, rfl⟩ := List.mem_map.1 hr; simp [go_sem]; done) | (simp [go_sem]; done) | (simp [go_sem, F]; done) | (simp [go_sem, F]; omega))) : p := h
/-- The same ahead of a check of late operations. -/
theorem sb {p : Prop} (h : p := by first | (with_reducible exact mo) | (with_reducible refine drawB_i (by kernel_rfl)) | omega | (simp [go_sem]; done) | (simp [go_sem, F]; done) | (simp [go_sem]; omega) | (simp [go_sem, F]; omega) | ((repeat' (with_reducible apply And.intro)) <;> first | omega | (intro r hr; obtain ⟨_, _, rfl⟩ := List.mem_map.1 hr; simp [go_sem]; done) | (simp [go_sem]; done) | (simp [go_sem, F]; done) | (simp [go_sem, F]; omega))) : p := h
/-- Quiet operations that may come late. -/
theorem lt_ (L : List Nat) {P : Program} {ops : Array Oper} {k : Nat} {t : List (Nat × V)} (h : (lateSet ops k == L && lateB ops k) = true := by kernel_rfl) (h2 : lateAll P ops t L := by
    (simp -implicitDefEqProofs only [lateAll, lateAt, rho_eq, go_sem, simprocAttr, F, R])
    (try (first | omega | (simp; done) | (simp; omega) | simp [go_sem, F]))) : tailP P ops k t := lateP_i L h h2
/-- The goal, reckoned as far as it goes. -/
theorem tt {p q : Prop} (k : q) (e : p = q := by ((try simp -implicitDefEqProofs only [go_sem, simprocAttr, F, R]); rfl)) : p := e.mpr k
/-- The end of a path. -/
theorem fin {p : Prop} (h : p := by
    (try simp -implicitDefEqProofs only [go_sem, simprocAttr, F, R])
    (all_goals (repeat (first | (with_reducible intro _) | (with_reducible refine and_i ?_ ?_; exact ss))))
    (all_goals (try (first | (with_reducible refine tailB_i (by kernel_rfl)) | (with_reducible refine drawB_i (by kernel_rfl)) | omega | (simp [go_sem]; omega) | simp [go_sem, F])))) : p := h
section
variable {α β γ P G : Prop}
theorem fi {α : Type} {c : Prop} [Decidable c] {a b r : α} (h : (if c then a else b) = r) (F : P) (t : a = r → c → (c = True) ∧ P → G) (f : b = r → ¬c → (c = False) ∧ P → G) : G := by
  by_cases hc : c
  · exact t (if_t hc h) hc ⟨eq_true hc, F⟩
  · exact f (if_f hc h) hc ⟨eq_false hc, F⟩
/-- The same; where the condition holds it is used as a rewriting. -/
theorem fe {α : Type} {c : Prop} [Decidable c] {a b r : α} (h : (if c then a else b) = r) (F : P) (t : a = r → c → c ∧ P → G) (f : b = r → ¬c → (c = False) ∧ P → G) : G := by
  by_cases hc : c
  · exact t (if_t hc h) hc ⟨hc, F⟩
  · exact f (if_f hc h) hc ⟨eq_false hc, F⟩
theorem fl {α : Type} {x y : Nat} {a b r : α} (h : (if (x : Int) < (y : Int) then a else b) = r) (F : P) (t : a = r → x < y → ((x : Int) < (y : Int)) ∧ x < y ∧ P → G) (f : b = r → ¬ x < y → (¬ (x : Int) < (y : Int)) ∧ (¬ x < y) ∧ P → G) : G := by
  by_cases hc : x < y
  · exact t (if_t (by omega) h) hc ⟨by omega, hc, F⟩
  · exact f (if_f (by omega) h) hc ⟨by omega, hc, F⟩
theorem fm {α : Type} {x y : Nat} {a b r : α} (h : (if (x : Int) ≤ (y : Int) then a else b) = r) (F : P) (t : a = r → x ≤ y → ((x : Int) ≤ (y : Int)) ∧ x ≤ y ∧ P → G) (f : b = r → ¬ x ≤ y → (¬ (x : Int) ≤ (y : Int)) ∧ (¬ x ≤ y) ∧ P → G) : G := by
  by_cases hc : x ≤ y
  · exact t (if_t (by omega) h) hc ⟨by omega, hc, F⟩
  · exact f (if_f (by omega) h) hc ⟨by omega, hc, F⟩
theorem fv {α : Type} {c : Bool} {a b r : α} (h : (if c = true then a else b) = r) (F : P) (t : a = r → c = true → c = true ∧ P → G) (f : b = r → c = false → c = false ∧ P → G) : G := by
  cases c with
  | true => exact t (by simpa using h) rfl ⟨rfl, F⟩
  | false => exact f (by simpa using h) rfl ⟨rfl, F⟩
theorem bi {α β : Type} {x : Option α} {f : α → Option β} {r : β} (h : x.bind f = some r) (k : ∀ a, f a = some r → x = some a → G) : G := by
  obtain ⟨a, h1, h2⟩ := bind_inv h
  exact k a h2 h1
theorem bx {α β : Type} {xs : List α} {i : Nat} {f : α → Option β} {r : β} (h : (xs[i]?).bind f = some r) (F : P) (k : ∀ a, f a = some r → xs[i]? = some a → (xs[i]? = some a ∧ 0 ≤ (i : Int) ∧ (i : Int) < (xs.length : Int) ∧ i < xs.length ∧ P) → G) : G := by
  obtain ⟨a, h1, h2⟩ := bind_inv h
  obtain ⟨f1, f2, f3, f4⟩ := nat_facts h1
  exact k a h2 f4 ⟨f4, f1, f2, f3, F⟩
theorem by_ {α β : Type} {xs : List α} {i : Int} {f : α → Option β} {r : β} (h : (idx xs i).bind f = some r) (F : P) (k : ∀ a, f a = some r → xs[i.toNat]? = some a → (xs[i.toNat]? = some a ∧ 0 ≤ i ∧ i < (xs.length : Int) ∧ i.toNat < xs.length ∧ P) → G) : G := by
  obtain ⟨a, h1, h2⟩ := bind_inv h
  obtain ⟨f1, f2, f3, f4⟩ := idx_facts h1
  exact k a h2 f4 ⟨f4, f1, f2, f3, F⟩
theorem ln {P P' : Prop} (F : P) (k : P' → G) (e : P = P' := by ((try simp only [List.length_replicate, List.length_set, List.length_append, List.length_cons, List.length_nil, List.length_map, List.length_take, List.length_drop, copyL_len, Nat.zero_add, Nat.reduceAdd, Int.cast_ofNat_Int] at F ⊢); rfl)) : G := k (e.mp F)
theorem nd {p : Prop} [Decidable p] {α : Type} {x : Option α} {r : α} (h : need p x = some r) (F : P) (k : x = some r → p ∧ P → G) : G := by
  obtain ⟨h1, h2⟩ := need_inv h
  exact k h2 ⟨h1, F⟩
theorem wn (k : Nat) (F : P) (c : IntKind.i64.wrap ((k : Int) + 1) = (k : Int) + 1 ∧ P → G) (h : (k : Int) + 1 ≤ 9223372036854775807 := by omega) : G := c ⟨wrap_nat h, F⟩
end
theorem Clo.all {c : List C} (h : Clo c) : (∀ (H : List O) (k : Nat), c.map (C.viewN H k) = c) ∧ (∀ m, ltRow m c = true) ∧ (∀ (H : List O), (c.map V.one).map (V.view H) = c.map V.one) ∧ ∀ m, ltVs m (c.map V.one) = true := ⟨h.vw, h.lt, h.vws, h.lts⟩
theorem clo {c : List C} (h : Clo c := by first | exact Clo.nil | exact ⟨by simp [go_sem, F], by simp [go_sem, F]⟩) : Clo c := h
theorem sr {σ ρ : Type} {f : σ → Option ρ} {x e : ρ} (h : Sum.elim f some (.inr x) = some e) : x = e := Option.some.inj h

section
variable {P : Program} {n : Cf} {Fs : List Fr} {Q : Ex → St → Prop}
theorem cS {f : FuncId} {args args' : List V} {H : List O} {d : Option Nat} {all : Array Oper} {rest : List Oper} {t : List (Nat × V)} {x : V} (h : Pu P f args' x) (hk : awpS P n (.ops all rest :: Fs) (St.put ⟨t, H⟩ d x H) Q)
    (ha : args.map (V.view H) = args' := by first | (simp [go_sem, F]; done) | rfl) (hl : ltVs 0 args' = true := by first | (simp [go_sem, F]; done) | rfl) (hx : x.lt 0 = true := by simp [go_sem, F]) (hb : args.all (fun a => !a.own) = true ∨ x.scalar = true := by first | (simp [go_sem, F]; done) | exact .inl rfl) : CtS P n f args H d all rest Fs t Q := call_pure h ha hl hx hb hk
theorem cD {f : FuncId} {args args' : List V} {H : List O} {d : Nat} {all : Array Oper} {rest : List Oper} {N : List Fo} {t : List (Nat × V)} {x : V} (h : Pu P f args' x) (hk : awpS P n (.draw all rest N :: Fs) ⟨(d, x) :: t, H⟩ Q)
    (ha : args.map (V.view H) = args' := by first | (simp [go_sem, F]; done) | rfl) (hl : ltVs 0 args' = true := by first | (simp [go_sem, F]; done) | rfl) (hx : x.lt 0 = true := by simp [go_sem, F]) (hb : args.all (fun a => !a.own) = true ∨ x.scalar = true := by first | (simp [go_sem, F]; done) | exact .inl rfl) : CtD P n f args H (some d) all rest N Fs t Q := call_D h ha hl hx hb hk
theorem cF {f : FuncId} {args args' : List V} {H : List O} {d : Option Nat} {all : Array Oper} {rest : List Oper} {t : List (Nat × V)} {x : V} (ids : List Nat) (h : Pu P f args' x) (hk : awpS P n (.ops all rest :: Fs) (St.put ⟨t, maskF false ids 0 H⟩ d x (maskF false ids 0 H)) Q)
    (ha : args.map (V.view (maskF true ids 0 H)) = args' := by simp [go_sem, F]) (hl : ltVs 0 args' = true := by first | (simp [go_sem, F]; done) | rfl) (hx : x.lt 0 = true := by simp [go_sem, F]) : CtS P n f args H d all rest Fs t Q := call_freeze ids h ha hl hx hk
/-- A call walked through on the spot. -/
theorem iS {f : FuncId} {fn : Func} {c : Code} {args : List V} {H : List O} {d : Option Nat} {all : Array Oper} {rest : List Oper} {t : List (Nat × V)}
    (hf : P.funcs[f]? = some fn) (h : awpS P ⟨fn.ntmps, H.length⟩ [.code c] ⟨argsT 0 args, H⟩ (endK P fn.results.toList fun v H' => awpS P n (.ops all rest :: Fs) (St.put ⟨t, H'⟩ d v H') Q))
    (hb : fn.body = some c := by rfl) (hname : (fn.name == "runtime.NumGoroutine") = false := by kernel_rfl) (hok : okC fn.ntmps c = true := by kernel_rfl) : CtS P n f args H d all rest Fs t Q := ct_of_awp hf hb hname hok h
theorem pA {f : FuncId} {fn : Func} {c : Code} {args : List V} {x : V} (hf : P.funcs[f]? = some fn) (h : awpS P ⟨fn.ntmps, 0⟩ [.code c] ⟨argsT 0 args, []⟩ (endK P fn.results.toList fun v H => v.view H = x ∧ x.lt 0 = true))
    (hb : fn.body = some c := by rfl) (hname : (fn.name == "runtime.NumGoroutine") = false := by kernel_rfl) (hok : okC fn.ntmps c = true := by kernel_rfl) : Pu P f args x := pu_of_awp hf hb hname hok (awp_of_S h)

/-- What is behind a loop; the loop from a state on. -/
def Aft (P : Program) (n : Cf) (Fs : List Fr) (Q : Ex → St → Prop) {ρ β : Type} (J : ρ → β → St) (id : ρ → Option Nat) (e : ρ) : Prop := ∀ i b, id e = some i → exitS P n i Fs (J e b) Q
def Bck (P : Program) (n : Cf) (body : Code) (Fs : List Fr) (Q : Ex → St → Prop) {σ ρ α : Type} (f : σ → Option (σ ⊕ ρ)) (m : Nat) (e : ρ) (ST : σ → α → St) : Prop := ∀ s' a', loopN f m s' = some e → LoopP P n body Fs (ST s' a') Q
theorem lE {body : Code} {σ ρ α β : Type} {f : σ → Option (σ ⊕ ρ)} (ST : σ → α → St) (J : ρ → β → St) (id : ρ → Option Nat) {s0 : σ} (a0 : α) {e : ρ} {st : St} (h : loop f s0 = some e)
    (aft : Aft P n Fs Q J id e)
    (step : Aft P n Fs Q J id e → ∀ (m : Nat) (s : σ) (a : α) (o : σ ⊕ ρ), f s = some o → Sum.elim (loopN f m) some o = some e → Bck P n body Fs Q f m e ST → awpS P n [.code body] (ST s a) (loopPQ P n body Fs Q))
    (g1 : n.m ≤ (ST s0 a0).H.length := by simp) (g2 : keepLt (ST s0 a0).H.length ((ST s0 a0).t.map Prod.fst) st.t = true := by simp [go_sem, F]) (g3 : (st.H.take (ST s0 a0).H.length).all (O.lt (ST s0 a0).H.length) = true := by simp [go_sem, F])
    (g4 : (⟨keepT ((ST s0 a0).t.map Prod.fst) st.t, st.H.take (ST s0 a0).H.length⟩ : St) = ST s0 a0 := by simp [go_sem, copyL, List.map_set, F] <;> omega) : LoopS P n body Fs st Q :=
  purge_to _ _ _ g1 g2 g3 g4 (loop_X ST J id a0 h aft step)
theorem bk {body : Code} {σ ρ α : Type} {f : σ → Option (σ ⊕ ρ)} {ST : σ → α → St} {m : Nat} {e : ρ} {st : St} (ih : Bck P n body Fs Q f m e ST) {s' : σ} (ho : Sum.elim (loopN f m) some (.inl s') = some e) (a' : α)
    (g1 : n.m ≤ (ST s' a').H.length := by simp) (g2 : keepLt (ST s' a').H.length ((ST s' a').t.map Prod.fst) st.t = true := by simp [go_sem, F]) (g3 : (st.H.take (ST s' a').H.length).all (O.lt (ST s' a').H.length) = true := by simp [go_sem, F])
    (g4 : (⟨keepT ((ST s' a').t.map Prod.fst) st.t, st.H.take (ST s' a').H.length⟩ : St) = ST s' a' := by simp [go_sem, copyL, List.map_set, F] <;> omega) : LoopP P n body Fs st Q := purge_P _ _ _ g1 g2 g3 g4 (ih s' a' ho)
theorem xt {σ ρ β : Type} {f : σ → Option ρ} {J : ρ → β → St} {id : ρ → Option Nat} {e x : ρ} {i : Nat} {st : St} (ho : Sum.elim f some (.inr x) = some e) (af : Aft P n Fs Q J id e) (b : β)
    (g1 : n.m ≤ (J x b).H.length := by simp) (g2 : keepLt (J x b).H.length ((J x b).t.map Prod.fst) st.t = true := by simp [go_sem, F]) (g3 : (st.H.take (J x b).H.length).all (O.lt (J x b).H.length) = true := by simp [go_sem, F])
    (g4 : (⟨keepT ((J x b).t.map Prod.fst) st.t, st.H.take (J x b).H.length⟩ : St) = J x b := by simp [go_sem, copyL, List.map_set, F] <;> omega) (hi : id x = some i := by rfl) : exitP P n i Fs st Q := by
  cases sr ho
  exact purge_E _ _ _ g1 g2 g3 g4 (af i b hi)
end
end Go.Lz
namespace Go.Lz
/-! Numbers of some bits. -/
theorem p8 : (2 : Int) ^ min 8 64 = 256 := by decide
theorem p48 : (2 : Int) ^ min 48 64 = 281474976710656 := by decide
theorem p32 : (2 : Int) ^ min 32 64 = 4294967296 := by decide
theorem p16_64 : (2 : Int) ^ min 16 64 = 65536 := by decide
theorem p24_64 : (2 : Int) ^ min 24 64 = 16777216 := by decide
theorem p8_32 : (2 : Int) ^ min 8 32 = 256 := by decide
theorem p16_32 : (2 : Int) ^ min 16 32 = 65536 := by decide
theorem p24_32 : (2 : Int) ^ min 24 32 = 16777216 := by decide
attribute [go_sem] p16_64 p24_64 p8_32 p16_32 p24_32
theorem beq_tl {b : Bool} : (true == b) = b := by cases b <;> rfl
theorem beq_fl {b : Bool} : (false == b) = !b := by cases b <;> rfl
theorem beq_tr {b : Bool} : (b == true) = b := by cases b <;> rfl
theorem beq_fr {b : Bool} : (b == false) = !b := by cases b <;> rfl
attribute [go_sem] p8 p48 p32 beq_tl beq_fl beq_tr beq_fr
theorem w16_eq (n : Int) : IntKind.i16.wrap n = (n + 32768) % 65536 - 32768 := by simp only [IntKind.wrap, IntKind.min, IntKind.signed, IntKind.bits]; simp; omega
theorem w32_eq (n : Int) : IntKind.i32.wrap n = (n + 2147483648) % 4294967296 - 2147483648 := by simp only [IntKind.wrap, IntKind.min, IntKind.signed, IntKind.bits]; simp; omega
/-- A number as one of a kind. -/
def wrapS (k n : Int) : Int := if k = 1 then (if n = 0 then 0 else 1) else if k = 2 then IntKind.i16.wrap n else if k = 3 ∨ k = 4 then IntKind.i32.wrap n else 0
theorem wrap_o {k n : Int} (h1 : ¬k = 1) (h2 : ¬k = 2) (h3 : ¬k = 3) (h4 : ¬k = 4) : wrapS k n = 0 := by simp [wrapS, h1, h2, h3, h4]
theorem wrap_1 {n : Int} : wrapS 1 n = if n = 0 then 0 else 1 := rfl
theorem wrap_2 {n : Int} : wrapS 2 n = (n + 32768) % 65536 - 32768 := by rw [← w16_eq]; rfl
theorem wrap_3 {n : Int} : wrapS 3 n = (n + 2147483648) % 4294967296 - 2147483648 := by rw [← w32_eq]; rfl
theorem wrap_4 {n : Int} : wrapS 4 n = (n + 2147483648) % 4294967296 - 2147483648 := by rw [← w32_eq]; rfl
theorem kinds (k : Int) : k = 1 ∨ k = 2 ∨ k = 3 ∨ k = 4 ∨ (¬k = 1 ∧ ¬k = 2 ∧ ¬k = 3 ∧ ¬k = 4) := by omega
end Go.Lz
namespace Go.Lz
theorem q_map {α β : Type} {f : α → β} {xs : List α} {i : Nat} {x : α} (h : xs[i]? = some x) : (xs.map f)[i]? = some (f x) := by rw [List.getElem?_map, h]; rfl
theorem take_map_set {α β : Type} (f : α → β) (xs : List α) (i : Nat) (x : α) : List.take xs.length (List.map f (xs.set i x)) = List.map f (xs.set i x) := List.take_of_length_le (by simp)
theorem take_set_map {α β : Type} (f : α → β) (xs : List α) (i : Nat) (x : β) : List.take xs.length ((List.map f xs).set i x) = (List.map f xs).set i x := List.take_of_length_le (by simp)
attribute [go_sem] take_map_set take_set_map
/-- The builtins min and max of two numbers. -/
def minI (a b : Int) : Int := if b < a then b else a
def maxI (a b : Int) : Int := if b > a then b else a
theorem min_i {a b : Int} : (if b < a then b else a) = minI a b := rfl
theorem max_i {a b : Int} : (if b > a then b else a) = maxI a b := rfl
attribute [go_sem] min_i max_i
theorem take5 {α : Type} {a b c d e : α} {n : Nat} : List.take (min n 5) (List.take n [a, b, c, d, e]) = List.take n [a, b, c, d, e] := by
  rw [List.take_of_length_le]
  rw [List.length_take]
  exact Nat.le_refl _
attribute [go_sem] take5
/-! Strings and bytes. -/
def iBytes (l : List Int) : Str := l.map fun n => UInt8.ofNat n.toNat
theorem strRows_eq {b : Str} : strRows b = (sBytes b).map (eK .u8) := of_eq_true (eq_self _)
theorem all_bytes {l : List Int} : (l.map (eK .u8)).all byteRow = true := by
  rw [List.all_eq_true]; intro r hr; obtain ⟨n, _, rfl⟩ := List.mem_map.1 hr; rfl
theorem map_bytes {l : List Int} : (l.map (eK .u8)).map rowByte = iBytes l := by
  rw [List.map_map]; rfl
attribute [go_sem] strRows_eq all_bytes map_bytes List.append_eq
end Go.Lz
