/- Lz6: the reckoning of each operation is what the model does (strings, truths, places, slices). -/
import Derived.Test.YtakkdadfikcpoaaDoorLz5
import Derived.Lib.ConvBytes
import Derived.Laws.BytesString
import Derived.Laws.Small
import Derived.Laws.Strings
import Derived.Laws.StructEq
import Derived.DeepKeys
namespace Go.Lz
set_option linter.unusedVariables false
set_option linter.unusedSimpArgs false

theorem beq_dec {α : Type} [BEq α] [LawfulBEq α] [DecidableEq α] (a b : α) : (a == b) = decide (a = b) := by
  cases h : (a == b) <;> simp_all

theorem strF_ok {P : Program} {E : Env} (hE : HRel E) {op : BinOp} {t : TypeId} {a b : List UInt8} {va vb : ByteArray} (ha : va.data.toList = a) (hb : vb.data.toList = b) :
    Good P E (binOp op t (.string va) (.string vb)) (strF op a b E.H) := by
  have la : va.toList = a := by rw [← ha]; exact ByteArray.toList_eq va
  have lb : vb.toList = b := by rw [← hb]; exact ByteArray.toList_eq vb
  cases op
  case add =>
    refine .same hE fun h => ⟨trivial, .string (va ++ vb), ?_, rfl, .one (.str (by simp [ha, hb]) (by rw [List.length_append]; exact h))⟩
    have h1 : va.size = a.length := by rw [← ha]; rfl
    have h2 : vb.size = b.length := by rw [← hb]; rfl
    have h3 : a.length + b.length ≤ 281474976710656 := h
    have : ¬ (((va.size + vb.size : Nat) : Int) > IntKind.i64.max) := by simp [IntKind.max, IntKind.signed, IntKind.bits]; omega
    simp only [binOp, Op.stringOp, Sem.run_ite, this, if_false, Sem.run_pure]
  case eql => exact .ok hE ⟨.bool (decide (a = b)), by simp only [binOp, Op.stringOp, Sem.run_pure, la, lb, beq_dec], .one .bool⟩
  case neq => exact .ok hE ⟨.bool (!decide (a = b)), by simp only [binOp, Op.stringOp, Sem.run_pure, la, lb, beq_dec], .one .bool⟩
  case lss => exact .ok hE ⟨.bool (Op.bytesLess a b), by simp only [binOp, Op.stringOp, Sem.run_pure, la, lb], .one .bool⟩
  all_goals exact .bad

theorem bool_inv {E : Env} {b : Bool} {v : Value} (h : CRel E (.bool b) v) : v = .bool b := by cases h; rfl
theorem int_inv {E : Env} {k : IntKind} {n : Int} {v : Value} (h : CRel E (.int k n) v) : v = .int k n ∧ k.min ≤ n ∧ n ≤ k.max := by cases h; rename_i h; exact ⟨rfl, h⟩
theorem str_inv {E : Env} {s : List UInt8} {v : Value} (h : CRel E (.str s) v) : ∃ b : ByteArray, v = .string b ∧ b.data.toList = s ∧ s.length ≤ lim := by cases h; rename_i b h1 h2; exact ⟨b, rfl, h1, h2⟩
theorem one_inv {E : Env} {c : C} {v : Value} (h : VRel E (.one c) v) : CRel E c v := by cases h; assumption
theorem agg_inv {E : Env} {cs : List C} {v : Value} (h : VRel E (.agg cs) v) : ∃ vs, v = .agg vs ∧ vs.size = cs.length ∧ ∀ (j : Nat) (c : C), cs[j]? = some c → CRel E c (vs.getD j undef) := by cases h; rename_i vs h1 h2; exact ⟨vs, rfl, h1, h2⟩

theorem tIsBool_spec {P : Program} {t : TypeId} (h : tIsBool P t = true) : P.underlying t = some .bool := by
  unfold tIsBool at h; split at h <;> simp_all
theorem tIsStr_spec {P : Program} {t : TypeId} (h : tIsStr P t = true) : P.underlying t = some .string := by
  unfold tIsStr at h; split at h <;> simp_all
theorem tK_spec {P : Program} {t : TypeId} {k : IntKind} (h : tK P t = some k) : P.underlying t = some (.int k) := by
  unfold tK at h; split at h <;> simp_all
theorem tSl_spec {P : Program} {t : TypeId} {e s b : Nat} (h : tSl P t = some (e, s, b)) : ∃ i, P.underlying t = some (.slice e) ∧ P.info? e = some i ∧ i.size = s ∧ i.bytes = b := by
  unfold tSl at h
  split at h
  · split at h
    · rename_i i hi; simp at h; obtain ⟨rfl, rfl, rfl⟩ := h; exact ⟨i, by assumption, hi, rfl, rfl⟩
    · simp at h
  · simp at h
theorem tAr_spec {P : Program} {t : TypeId} {n e s : Nat} (h : tAr P t = some (n, e, s)) : ∃ i, P.underlying t = some (.array n e) ∧ P.info? e = some i ∧ i.size = s := by
  unfold tAr at h
  split at h
  · split at h
    · rename_i i hi; simp at h; obtain ⟨rfl, rfl, rfl⟩ := h; exact ⟨i, by assumption, hi, rfl⟩
    · simp at h
  · simp at h
theorem tFd_spec {P : Program} {t : TypeId} {f o n : Nat} {g : Bool} (h : tFd P t f = some (o, g, n)) : ∃ fs fd, P.underlying t = some (.struct fs) ∧ fs[f]? = some fd ∧ fd.offset = o ∧ tAg P fd.type = some (g, n) := by
  unfold tFd at h
  split at h
  · rename_i fs hu
    split at h
    · rename_i fd hf
      split at h
      · rename_i g' n' hg; simp at h; obtain ⟨rfl, rfl, rfl⟩ := h; exact ⟨fs, fd, hu, hf, rfl, hg⟩
      · simp at h
    · simp at h
  · simp at h

def Lf.lit : Lf → Lit
  | .i k n => .int k n
  | .b x => .bool x
  | .s x => .string x
theorem Lf.lit_inj {a b : Lf} (h : a.lit = b.lit) : a = b := by
  cases a <;> cases b <;> simp_all [Lf.lit]
theorem lits_inj {a b : List Lf} : a.map Lf.lit = b.map Lf.lit ↔ a = b :=
  ⟨fun h => (List.map_inj_right (fun _ _ => Lf.lit_inj)).1 h, fun h => by rw [h]⟩
theorem mapM_lit {α : Type} {f : α → Option (List Lf)} {g : α → Option (List Lit)} : ∀ {l : List α} {as : List (List Lf)}, (∀ x ∈ l, ∀ la, f x = some la → g x = some (la.map Lf.lit)) → l.mapM f = some as → l.mapM g = some (as.map (·.map Lf.lit))
  | [], as, _, h => by simp at h; subst h; rfl
  | x :: l, as, hx, h => by
    rw [List.mapM_cons] at h ⊢
    simp only [bind, Option.bind_eq_some_iff, pure, Option.some.injEq] at h ⊢
    obtain ⟨la, h1, as', h2, rfl⟩ := h
    exact ⟨_, hx x (by simp) la h1, _, mapM_lit (fun y hy => hx y (by simp [hy])) h2, rfl⟩
/-- Cells that stand for values. -/
def CellsRel (E : Env) (cs : List C) (vs : List Value) : Prop := vs.length = cs.length ∧ ∀ (j : Nat) (c : C), cs[j]? = some c → ∃ v, vs[j]? = some v ∧ CRel E c v
theorem CellsRel.chunk {E : Env} {cs : List C} {vs : List Value} (h : CellsRel E cs vs) (off n : Nat) : CellsRel E ((cs.drop off).take n) ((vs.drop off).take n) := by
  refine ⟨by simp [h.1], fun j c hj => ?_⟩
  rw [List.getElem?_take] at hj ⊢
  split at hj
  · rename_i hlt
    rw [List.getElem?_drop] at hj
    obtain ⟨v, hv, hr⟩ := h.2 _ _ hj
    exact ⟨v, by rw [if_pos hlt, List.getElem?_drop]; exact hv, hr⟩
  · cases hj
theorem CellsRel.single {E : Env} {c : C} {vs : List Value} (h : CellsRel E [c] vs) : ∃ v, vs = [v] ∧ CRel E c v := by
  obtain ⟨h1, h2⟩ := h
  obtain ⟨v, hv, hr⟩ := h2 0 c rfl
  match vs, h1 with
  | [w], _ =>
    simp at hv; subst hv
    exact ⟨w, rfl, hr⟩
theorem lit_ok {P : Program} {E : Env} : ∀ (d : Nat) (t : TypeId) (cs : List C) (vs : List Value) (la : List Lf), litC P d t cs = some la → CellsRel E cs vs → P.keyLits d t vs = some (la.map Lf.lit)
  | 0, t, cs, vs, la, h, _ => by simp [litC] at h
  | d + 1, t, cs, vs, la, h, hr => by
    unfold litC at h
    split at h
    · rename_i b hu
      cases h
      obtain ⟨v, rfl, hv⟩ := hr.single
      have := bool_inv hv; subst this
      simp [Program.keyLits, hu, Lf.lit]
    · rename_i q q' n hu
      split at h
      · rename_i e
        cases h
        obtain ⟨v, rfl, hv⟩ := hr.single
        obtain ⟨rfl, h1, h2⟩ := int_inv hv
        subst e
        simp [Program.keyLits, hu, Lf.lit, Lit.wf, h1, h2]
      · cases h
    · rename_i st hu
      cases h
      obtain ⟨v, rfl, hv⟩ := hr.single
      obtain ⟨b, rfl, h1, h2⟩ := str_inv hv
      have h3 : b.size = st.length := by rw [← h1]; rfl
      have h4 : st.length ≤ 281474976710656 := h2
      have h5 : b.size ≤ maxLen := by rw [h3]; unfold maxLen; omega
      simp only [Program.keyLits, hu, h5, if_true, h1]
      rfl
    · rename_i n e hu
      split at h
      · rename_i hl
        simp only [Option.map_eq_some_iff] at h
        obtain ⟨as, ha, rfl⟩ := h
        have := mapM_lit (g := fun i => P.keyLits d e ((vs.drop (i * P.cellsOf e)).take (P.cellsOf e))) (fun i _ la hla => lit_ok d e _ _ la hla (hr.chunk _ _)) ha
        simp only [Program.keyLits, hu]
        rw [if_pos (by rw [hr.1]; exact hl), this]
        simp [List.map_flatten]
      · cases h
    · rename_i fs hu
      split at h
      · rename_i hl
        simp only [Option.map_eq_some_iff] at h
        obtain ⟨as, ha, rfl⟩ := h
        have := mapM_lit (g := fun f => P.keyLits d f.type ((vs.drop f.offset).take (P.cellsOf f.type))) (fun f _ la hla => lit_ok d f.type _ _ la hla (hr.chunk _ _)) ha
        simp only [Program.keyLits, hu]
        rw [if_pos (by rw [hr.1]; exact hl), this]
        simp [List.map_flatten]
      · cases h
    · cases h
theorem eqT_spec {P : Program} {t : TypeId} (h : eqT P t = true) : P.keyTypeAt 20 t = true ∧ P.eqGuardType P.depth t = false ∧ aggT P t = true := by
  simp only [eqT, Bool.and_eq_true, Bool.not_eq_true'] at h
  exact ⟨h.1.1, h.1.2, h.2⟩
theorem eq_run {P : Program} {E : Env} {t : TypeId} {xs ys : List C} {vx vy : Array Value} {a b : List Lf} (ha : litC P 20 t xs = some a) (hb : litC P 20 t ys = some b) (ht : eqT P t = true)
    (hx : CellsRel E xs vx.toList) (hy : CellsRel E ys vy.toList) : (Op.equalIn 10000 t (.agg vx) (.agg vy)).run P E.w = .ok (decide (a = b)) E.w := by
  obtain ⟨h1, _, h3⟩ := eqT_spec ht
  have hform : ∀ (zs : List C) (l : List Lf) (v : Array Value), litC P 20 t zs = some l → CellsRel E zs v.toList → (Value.agg v).formed P t = true := by
    intro zs l v hl hr
    have hsz : v.size = zs.length := by rw [← hr.1]; simp
    unfold aggT at h3
    unfold litC at hl
    cases hu : P.underlying t with
    | none => simp [hu] at h3
    | some k =>
      cases k <;> simp only [hu, Bool.false_eq_true] at h3 hl
      all_goals
        split at hl
        · rename_i hc
          simp only [Value.formed, hu, beq_iff_eq]
          first | (rw [hsz]; exact hc) | (rw [hsz]; exact hc.1)
        · cases hl
  obtain ⟨r, hr, hiff⟩ := run_equalIn_deep (P := P) 9980 20 t h1 E.w 20 20 (.agg vx) (.agg vy) _ _ (hform xs a vx ha hx) (hform ys b vy hb hy) (lit_ok 20 t xs _ a ha hx) (lit_ok 20 t ys _ b hb hy)
  rw [lits_inj] at hiff
  have : r = decide (a = b) := by
    rw [Bool.eq_iff_iff, hiff, decide_eq_true_eq]
  rw [← this]
  exact hr
theorem agg_cells {E : Env} {cs : List C} {v : Value} (h : VRel E (.agg cs) v) : ∃ vs : Array Value, v = .agg vs ∧ CellsRel E cs vs.toList := by
  obtain ⟨vs, rfl, h1, h2⟩ := agg_inv h
  refine ⟨vs, rfl, by simpa using h1, fun j c hj => ?_⟩
  have hlt : j < vs.size := by rw [h1]; exact (List.getElem?_eq_some_iff.1 hj).1
  refine ⟨vs[j], by simp [hlt], ?_⟩
  have := h2 j c hj
  rwa [Array.getD_eq_getD_getElem?, Array.getElem?_eq_getElem hlt] at this
theorem eqF_ok {P : Program} {E : Env} (hE : HRel E) {op : BinOp} {t : TypeId} {xs ys : List C} {vx vy : Value} (hx : VRel E (.agg xs) vx) (hy : VRel E (.agg ys) vy) : Good P E (binOp op t vx vy) (eqF P op t xs ys E.H) := by
  obtain ⟨vx, rfl, kx⟩ := agg_cells hx
  obtain ⟨vy, rfl, ky⟩ := agg_cells hy
  unfold eqF
  split
  · rename_i a b ha hb
    split
    · refine .same hE fun ht => ⟨trivial, _, ?_, rfl, .one .bool⟩
      rw [run_eql_struct, eq_run ha hb ht kx ky]; rfl
    · refine .same hE fun ht => ⟨trivial, _, ?_, rfl, .one .bool⟩
      rw [run_neq_struct, eq_run ha hb ht kx ky]; rfl
    · exact .bad
  · exact .bad
theorem tIsFn_spec {P : Program} {t : TypeId} (h : tIsFn P t = true) : ∃ a b c, P.underlying t = some (.func a b c) := by
  unfold tIsFn at h; split at h
  · rename_i hu; exact ⟨_, _, _, hu⟩
  · cases h
theorem fn_val {E : Env} {f : FuncId} {cap : List C} {v : Value} (h : CRel E (.fn f cap) v) : ∃ vs, v = .func (.func f) #[] vs := by cases h; exact ⟨_, rfl⟩
theorem nilfn_val {E : Env} {v : Value} (h : CRel E .nilfn v) : v = .nilFunc := by cases h; rfl
theorem nilF_ok {P : Program} {E : Env} (hE : HRel E) {op : BinOp} {t : TypeId} {b : Bool} {vx vy : Value} (h : ∀ w, tIsFn P t = true → (Op.equalIn 10000 t vx vy).run P w = .ok b w) (hb : ∀ op, (op = .eql → binOp op t vx vy = (do pure (.bool (← Op.equal t vx vy)))) ∧ (op = .neq → binOp op t vx vy = (do pure (.bool (!(← Op.equal t vx vy)))))) : Good P E (binOp op t vx vy) (nilF P op t b E.H) := by
  unfold nilF
  split
  · refine .same hE fun ht => ⟨trivial, _, ?_, rfl, .one .bool⟩
    rw [(hb .eql).1 rfl]
    simp [Op.equal, Op.maxDepth, h E.w ht]
  · refine .same hE fun ht => ⟨trivial, _, ?_, rfl, .one .bool⟩
    rw [(hb .neq).2 rfl]
    simp [Op.equal, Op.maxDepth, h E.w ht]
  · exact .bad

theorem binF_ok {P : Program} {E : Env} (hE : HRel E) {op : BinOp} {t : TypeId} {x y : V} {vx vy : Value} (hx : VRel E x vx) (hy : VRel E y vy) :
    Good P E (binOp op t vx vy) (binF P op t x y E.H) := by
  unfold binF
  split
  · exact eqF_ok hE hx hy
  · obtain ⟨vs, rfl⟩ := fn_val (one_inv hx)
    have := nilfn_val (one_inv hy); subst this
    refine nilF_ok hE (fun w ht => ?_) (fun op => ⟨fun h => by subst h; rfl, fun h => by subst h; rfl⟩)
    obtain ⟨a, b, c, hu⟩ := tIsFn_spec ht
    rw [show (10000 : Nat) = 9999 + 1 from rfl, Op.equalIn]
    simp [run_underlying hu]
  · have := nilfn_val (one_inv hx); subst this
    have := nilfn_val (one_inv hy); subst this
    refine nilF_ok hE (fun w ht => ?_) (fun op => ⟨fun h => by subst h; rfl, fun h => by subst h; rfl⟩)
    obtain ⟨a, b, c, hu⟩ := tIsFn_spec ht
    rw [show (10000 : Nat) = 9999 + 1 from rfl, Op.equalIn]
    simp [run_underlying hu]
  · obtain ⟨rfl, hk⟩ := int_inv (one_inv hx)
    obtain ⟨rfl, hk'⟩ := int_inv (one_inv hy)
    split
    · exact shF_ok hE hk
    · split
      · rename_i e; subst e; exact intF_ok hE hk hk'
      · exact .bad
  · obtain ⟨b, rfl, h1, _⟩ := str_inv (one_inv hx)
    obtain ⟨b', rfl, h1', _⟩ := str_inv (one_inv hy)
    exact strF_ok hE h1 h1'
  · have hx := bool_inv (one_inv hx)
    have hy := bool_inv (one_inv hy)
    subst hx; subst hy
    split
    · rename_i hb; exact .ok hE ⟨_, run_eql_bool E.w t _ _ (tIsBool_spec hb), .one .bool⟩
    · rename_i hb; exact .ok hE ⟨_, run_neq_bool E.w t _ _ (tIsBool_spec hb), .one .bool⟩
    · exact .bad
  · exact .bad

/-- What stands ahead of '==' on other than interfaces and structs does nothing. -/
theorem binF_guard {P : Program} {E : Env} {op : BinOp} {t : TypeId} {x y : V} {vx vy : Value} (hx : VRel E x vx) (hy : VRel E y vy) (hp : (binF P op t x y E.H).pre) (ox oy : Operand) :
    (eqGuard op t ox oy vx vy).run P E.w = .ok () E.w := by
  unfold binF at hp
  unfold eqGuard
  split at hp
  · obtain ⟨vx, rfl, hx⟩ := agg_cells hx
    obtain ⟨vy, rfl, hy⟩ := agg_cells hy
    have ht : eqT P t = true := by
      unfold eqF at hp
      split at hp
      · split at hp
        · exact hp
        · exact hp
        · exact hp.elim
      · exact hp.elim
    exact run_eqGuard_agg E.w op t ox oy vx vy (eqT_spec ht).2.1
  · obtain ⟨vs, rfl⟩ := fn_val (one_inv hx)
    have := nilfn_val (one_inv hy); subst this
    split <;> rfl
  · have := nilfn_val (one_inv hx); subst this
    have := nilfn_val (one_inv hy); subst this
    split <;> rfl
  · obtain ⟨rfl, _⟩ := int_inv (one_inv hx); obtain ⟨rfl, _⟩ := int_inv (one_inv hy); split <;> rfl
  · obtain ⟨b, rfl, _⟩ := str_inv (one_inv hx); obtain ⟨b', rfl, _⟩ := str_inv (one_inv hy); split <;> rfl
  · have hx := bool_inv (one_inv hx); have hy := bool_inv (one_inv hy); subst hx; subst hy; split <;> rfl
  · exact hp.elim

theorem unF_ok {P : Program} {E : Env} (hE : HRel E) {op : UnOp} {x : V} {vx : Value} (hx : VRel E x vx) : Good P E (Op.unary op vx) (unF op x E.H) := by
  unfold unF
  split
  · have hx := bool_inv (one_inv hx); subst hx
    exact .ok hE ⟨_, by simp [Op.unary], .one .bool⟩
  · obtain ⟨rfl, h⟩ := int_inv (one_inv hx)
    exact .ok hE ⟨_, by simp [Op.unary, Op.intArith], .one (.int (by simpa using wrap_in _ _))⟩
  · obtain ⟨rfl, h⟩ := int_inv (one_inv hx)
    exact .ok hE ⟨_, by simp only [Op.unary, Op.intBits]; rfl, .one (.int (wrap_in _ _))⟩
  · exact .bad

open Go.Lib in
theorem strConvF_ok {P : Program} {E : Env} (hE : HRel E) {s d : TypeId} {b : List UInt8} {v : Value} (hx : CRel E (.str b) v) : Good P E (convert s d v) (strConvF P s d b E.H) := by
  unfold strConvF
  cases hx with
  | @str _ ba hb hl =>
  split
  · rename_i u e hs hd
    split
    · rename_i he
      intro _
      have hsz : ba.size = b.length := by show ba.data.size = b.length; rw [← hb, Array.length_toList]
      have hcut : ba.size ≤ grownCap E.w ba.size 0 e := grownCap_ge E.w ba.size 0 e
      obtain ⟨t, hh⟩ := new_obj hE (bytesWorld E.w e ba) ⟨E.w.heap.size, 0, grownCap E.w ba.size 0 e⟩ (.cells 0 1 (strRows b)) (by rw [bytesWorld_size]; omega) rfl rfl rfl
        (fun i hi => bytesWorld_at_old E.w e ba i hi) _ rfl (fun _ => Nat.le_refl _)
      refine ⟨trivial, _, _, run_convert_string_bytes E.w s d e ba hs hd he, rfl, ?_, hh ?_, t⟩
      · refine .one (.msl (by simp) rfl fun cur sz rows' ho => ?_)
        simp at ho
        obtain ⟨rfl, rfl, rfl⟩ := ho
        exact ⟨Nat.le_refl _, fun _ => ⟨Nat.zero_le _, by simp [strRows], _, _, by rw [Nat.sub_zero, hsz, sBytes, List.length_map], by simp [hsz], fun _ => by simp⟩⟩
      · refine ⟨?_, ?_, ?_, fun _ => ⟨bytesCells E.w e ba, e, ?_, ?_, ?_⟩⟩
        · simp [strRows, sBytes]; omega
        · simpa [strRows, sBytes] using hl
        · intro r hr; obtain ⟨x, _, rfl⟩ := List.mem_map.1 hr; rfl
        · simp only [if_true]
          exact ⟨_, bytesWorld_at_new E.w e ba, .inr (Nat.le_refl _)⟩
        · simp [bytesCells]
          have : ba.data.size = ba.size := rfl
          omega
        · intro i j c hij
          obtain ⟨r, hr, hj⟩ := at2_some.1 hij
          simp only [strRows, sBytes, List.map_map, List.getElem?_map, Option.map_eq_some_iff, Function.comp_def] at hr
          obtain ⟨x, hx, rfl⟩ := hr
          have hj0 : j = 0 := by
            have := (List.getElem?_eq_some_iff.1 hj).1; simp at this; omega
          subst hj0
          simp at hj
          subst hj
          have hi := (List.getElem?_eq_some_iff.1 hx).1
          refine ⟨.int .u8 (x.toNat : Int), ?_, .int ?_⟩
          · have hd : ba.data[i]? = some x := by rw [← Array.getElem?_toList, hb]; exact hx
            have hlt : i < ba.data.size := (Array.getElem?_eq_some_iff.1 hd).1
            have hs' : i < ba.size := hlt
            simp [bytesCells, Array.getElem?_append, hs']
            have h2 := (Array.getElem?_eq_some_iff.1 hd).2
            exact congrArg (fun y : UInt8 => (y.toNat : Int)) h2
          · have := x.toNat_lt
            simp [IntKind.min, IntKind.max, IntKind.signed, IntKind.bits]; omega
    · exact fun hp => hp.elim
  · rename_i u hs hd
    exact .ok hE ⟨_, by simp [convert, run_underlying hs, run_underlying hd], .one (.str hb hl)⟩
  · exact fun hp => hp.elim
theorem ref_mk {E : Env} {id ver r off cur sz : Nat} {rows : List (List C)} {v : Value} (ho : E.H[id]? = some (.cells cur sz rows)) (hv : ver = cur)
    (h : v = .pointer (some ⟨(E.bd id).blk, (E.bd id).off + (r * sz + off), none⟩)) : VRel E (.one (.ref id ver r off)) v := by
  refine .one (.ref (List.getElem?_eq_some_iff.1 ho).1 (by rw [h]; rfl) fun cur' sz' rows' ho' => ?_)
  rw [ho] at ho'
  cases ho'
  exact ⟨by omega, fun _ => h⟩

theorem fieldAddrF_ok {P : Program} {E : Env} (hE : HRel E) {t : TypeId} {f : Nat} {x : V} {vx : Value} (hx : VRel E x vx) : Good P E (Instr.fieldAt t vx f) (fieldAddrF P t x f E.H) := by
  have run : ∀ {o n : Nat} {g : Bool} (b k : Nat), tFd P t f = some (o, g, n) → n ≠ 0 → (Instr.fieldAt t (.pointer (some ⟨b, k, none⟩)) f).run P E.w = .ok (.pointer (some ⟨b, k + o, none⟩)) E.w := by
    intro o n g b k h hn
    obtain ⟨fs, fd, hu, hf, rfl, hg⟩ := tFd_spec h
    obtain ⟨d, i, hu', hi, hin, _⟩ := tAg_spec hg
    simp [Instr.fieldAt, run_underlying hu, hf, Instr.sureAddr, fieldPlace, sizeOf_run hi, hin, hn, add_off]
  unfold fieldAddrF
  split
  · rename_i o g n id ver r off ht
    split
    · rename_i cur sz rows ho
      refine .same hE fun ⟨hver, hn⟩ => ⟨trivial, ?_⟩
      have hv := ref_addr (one_inv hx) ho hver
      subst hv
      exact ⟨_, run _ _ ht hn, rfl, ref_mk ho hver (by simp [Nat.add_assoc])⟩
    · exact .bad
  · rename_i o g n row off ht
    refine .same hE fun hn => ⟨trivial, ?_⟩
    cases (one_inv hx) with
    | iptr vals he hb hc hv =>
      subst he
      exact ⟨_, run _ _ ht hn, rfl, .one (.iptr vals (by simp [Nat.add_assoc]) hb hc hv)⟩
  · exact .bad


theorem part_ok {P : Program} {E : Env} {t : TypeId} {g : Bool} {n : Nat} (hg : tAg P t = some (g, n)) {cs : List C} {vs : Array Value} {o : Nat} (hn : vs.size = cs.length) (hr : ∀ (j : Nat) (c : C), cs[j]? = some c → CRel E c (vs.getD j undef)) (hl : o + wd g n ≤ cs.length) :
    ∃ v, (part t vs o).run P E.w = .ok v E.w ∧ VRel E (ldV g n cs o) v := by
  obtain ⟨d, i, hu, hi, hin, ha⟩ := tAg_spec hg
  cases g with
  | false =>
    have hlt : o < vs.size := by simp [wd] at hl; omega
    refine ⟨vs[o], by simp [part, ha, hlt], ?_⟩
    have hlt' : o < cs.length := by omega
    simp only [ldV, Bool.false_eq_true, if_false]
    have := hr o cs[o] (by simp [hlt'])
    simp only [Array.getD_eq_getD_getElem?, hlt, Array.getElem?_eq_getElem, Option.getD_some] at this
    exact .one (by simpa [List.getD_eq_getElem?_getD, hlt'] using this)
  | true =>
    simp only [wd, if_true] at hl
    refine ⟨.agg (vs.extract o (o + n)), by simp [part, ha, sizeOf_run hi, hin], ?_⟩
    simp only [ldV, if_true]
    refine .agg (by simp; omega) fun j c hj => ?_
    have hlt : j < n := by
      have := (List.getElem?_eq_some_iff.1 hj).1
      simp at this; omega
    have hc : cs[o + j]? = some c := by
      rw [List.getElem?_take] at hj
      simp [hlt] at hj
      exact hj
    have := hr (o + j) c hc
    simp only [Array.getD_eq_getD_getElem?] at this ⊢
    have e : (vs.extract o (o + n))[j]? = vs[o + j]? := by
      rw [Array.getElem?_extract, if_pos (by omega)]
    rw [e]; exact this

theorem fieldF_ok {P : Program} {E : Env} (hE : HRel E) {t : TypeId} {f : Nat} {x : V} {vx : Value} (hx : VRel E x vx) : Good P E (Instr.field t vx f) (fieldF P t x f E.H) := by
  unfold fieldF
  split
  · rename_i o g n cs ht
    refine .same hE fun hl => ⟨trivial, ?_⟩
    obtain ⟨vs, rfl, hn, hr⟩ := agg_inv hx
    obtain ⟨fs, fd, hu, hf, rfl, hg⟩ := tFd_spec ht
    obtain ⟨v, h1, h2⟩ := part_ok (P := P) hg hn hr hl
    exact ⟨v, by simp [Instr.field, run_underlying hu, hf, asAgg, h1], rfl, h2⟩
  · exact .bad

theorem sl_elem {E : Env} {rows : List (List C)} {a : Option Addr} {n cap : Nat} (h : CRel E (.sl rows) (.slice a n cap)) {i : Nat} (hi : i < rows.length) :
    n = rows.length ∧ ∃ b off, a = some ⟨b, off, none⟩ ∧ VRel E (.one (.iptr (rows.getD i []) 0)) (.pointer (some ⟨b, off + i * (rows.getD i []).length, none⟩)) := by
  cases h with
  | sl vals sz hn hcap hlim hsz hb hv =>
    refine ⟨hn, ?_⟩
    have hne : rows ≠ [] := by intro e; simp [e] at hi
    obtain ⟨b, off, ha, hf, hc⟩ := hb hne
    refine ⟨b, off, ha, ?_⟩
    have hg : rows.getD i [] = rows[i] := by simp [List.getD_eq_getElem?_getD, hi]
    have hl : (rows.getD i []).length = sz := by rw [hg]; exact hsz _ (List.getElem_mem hi)
    rw [hl]
    refine .one (.iptr (o := off + i * sz) (vals i) (by simp) hf (fun j c hj => ?_) fun j c hj => hv i j c (at2_row hj))
    rw [Nat.add_assoc]; exact hc i j c (at2_row hj)

theorem sl_inv {E : Env} {rows : List (List C)} {v : Value} (h : CRel E (.sl rows) v) : ∃ a cap, v = .slice a rows.length cap ∧ rows.length ≤ cap ∧ rows.length ≤ lim := by
  cases h with
  | sl vals sz hn hcap hlim hsz hb hv => subst hn; exact ⟨_, _, rfl, hcap, hlim⟩

theorem slf_inv {E : Env} {rows : List (List C)} {v : Value} (h : CRel E (.slf rows) v) : CRel E (.sl rows) v ∧ ∃ a, v = .slice a rows.length rows.length := by
  cases h with
  | slf h hf => exact ⟨h, hf⟩

theorem msl_inv {E : Env} {id ver lo hi cur sz : Nat} {rows : List (List C)} {v : Value} (h : CRel E (.msl id ver lo hi) v) (ho : E.H[id]? = some (.cells cur sz rows)) (hv : ver = cur) :
    lo ≤ hi ∧ hi ≤ rows.length ∧ ∃ (a : Option Addr) (cap : Nat), v = .slice a (hi - lo) cap ∧ lo + cap = (E.bd id).cap ∧ (0 < cap → a = some ⟨(E.bd id).blk, (E.bd id).off + lo * sz, none⟩) := by
  cases h with
  | msl hid hcell hh => exact (hh cur sz rows ho).2 hv

theorem indexAddrF_ok {P : Program} {E : Env} (hE : HRel E) {t : TypeId} {x i : V} {vx vi : Value} (hx : VRel E x vx) (hi : VRel E i vi) : Good P E (Instr.indexAt t vx vi) (indexAddrF P t x i E.H) := by
  unfold indexAddrF
  split
  · rename_i k i
    obtain ⟨rfl, _⟩ := int_inv (one_inv hi)
    split
    · rename_i n e s ht
      obtain ⟨ie, hu, hie, hs⟩ := tAr_spec ht
      have run : ∀ (b o : Nat), 0 ≤ i ∧ i < n → (Instr.indexAt t (.pointer (some ⟨b, o, none⟩)) (.int k i)).run P E.w = .ok (.pointer (some ⟨b, o + i.toNat * s, none⟩)) E.w := by
        intro b o h
        simp [Instr.indexAt, asIntOf, run_underlying hu, Instr.sureAddr, h, sizeOf_run hie, hs, add_off]
      split
      · split
        · rename_i cur sz rows ho
          refine .same hE fun ⟨hver, hb⟩ => ⟨trivial, ?_⟩
          have hv := ref_addr (one_inv hx) ho hver
          subst hv
          exact ⟨_, run _ _ hb, rfl, ref_mk ho hver (by simp [Nat.add_assoc])⟩
        · exact .bad
      · refine .same hE fun hb => ⟨trivial, ?_⟩
        cases (one_inv hx) with
        | iptr vals he hb' hc hv =>
          subst he
          exact ⟨_, run _ _ hb, rfl, .one (.iptr vals (by simp [Nat.add_assoc]) hb' hc hv)⟩
      · exact .bad
    · split
      · rename_i e s b ht
        obtain ⟨ie, hu, hie, hs, _⟩ := tSl_spec ht
        have slc : ∀ rows, CRel E (.sl rows) vx → 0 ≤ i ∧ i < rows.length ∧ (nth rows i).length = s → ∃ v, (Instr.indexAt t vx (.int k i)).run P E.w = .ok v E.w ∧ VRel E (.one (.iptr (nth rows i) 0)) v := by
          intro rows hr ⟨h0, h1, h2⟩
          obtain ⟨a, cap, rfl, _, _⟩ := sl_inv hr
          obtain ⟨_, b, off, rfl, hv⟩ := sl_elem hr (i := i.toNat) (by omega)
          refine ⟨_, ?_, hv⟩
          have h2' : (rows.getD i.toNat []).length = s := h2
          simp [Instr.indexAt, asIntOf, run_underlying hu, h0, h1, sizeOf_run hie, hs, add_off, -List.getD_eq_getElem?_getD, h2']
        split
        · exact .same hE fun hb => ⟨trivial, by obtain ⟨v, h1, h2⟩ := slc _ (one_inv hx) hb; exact ⟨v, h1, rfl, h2⟩⟩
        · exact .same hE fun hb => ⟨trivial, by obtain ⟨v, h1, h2⟩ := slc _ (slf_inv (one_inv hx)).1 hb; exact ⟨v, h1, rfl, h2⟩⟩
        · split
          · rename_i id ver lo hi' _ cur sz rows ho
            refine .same hE fun ⟨hver, hss, h0, h1⟩ => ⟨trivial, ?_⟩
            obtain ⟨hlo, hhi, a, cap, rfl, hcap, ha⟩ := msl_inv (one_inv hx) ho hver
            have hobj := hE.obj id _ ho
            obtain ⟨hrc, _⟩ := hobj
            have hc : 0 < cap := by omega
            have ha' := ha hc
            subst ha'
            refine ⟨_, by simp [Instr.indexAt, asIntOf, run_underlying hu, h0, h1, sizeOf_run hie, hs, add_off]; rfl, rfl, ref_mk ho hver ?_⟩
            simp [hss, Nat.add_mul, Nat.add_assoc]
          · exact .bad
        · exact .bad
      · exact .bad
  · exact .bad

theorem indexF_ok {P : Program} {E : Env} (hE : HRel E) {t : TypeId} {x i : V} {vx vi : Value} (hx : VRel E x vx) (hi : VRel E i vi) : Good P E (Instr.index t vx vi) (indexF P t x i E.H) := by
  unfold indexF
  split
  · rename_i s k i
    split
    · rename_i ht
      refine .same hE fun ⟨h0, h1⟩ => ⟨trivial, ?_⟩
      obtain ⟨rfl, _⟩ := int_inv (one_inv hi)
      obtain ⟨b, rfl, hb, _⟩ := str_inv (one_inv hx)
      have hlt : i.toNat < s.length := by omega
      have hbs : b[i.toNat]? = some s[i.toNat] := by
        subst hb
        have hlt' : i.toNat < b.size := hlt
        rw [getElem?_pos b i.toNat hlt']
        rfl
      refine ⟨.int .u8 (s[i.toNat]).toNat, by simp [Instr.index, asIntOf, run_underlying (tIsStr_spec ht), h0, hbs], rfl, ?_⟩
      simp only [List.getD_eq_getElem?_getD, hlt, List.getElem?_eq_getElem, Option.getD_some]
      refine .one (.int ?_)
      have := (s[i.toNat]).toNat_lt
      simp [IntKind.min, IntKind.max, IntKind.signed, IntKind.bits]; omega
    · exact .bad
  · rename_i cs k i
    split
    · rename_i n e s ht
      split
      · rename_i g m hg
        refine .same hE fun ⟨h0, h1, h2⟩ => ⟨trivial, ?_⟩
        obtain ⟨rfl, _⟩ := int_inv (one_inv hi)
        obtain ⟨vs, rfl, hn, hr⟩ := agg_inv hx
        obtain ⟨ie, hu, hie, hs⟩ := tAr_spec ht
        obtain ⟨v, hv1, hv2⟩ := part_ok (P := P) hg hn hr h2
        exact ⟨v, by simp [Instr.index, asIntOf, run_underlying hu, h0, h1, sizeOf_run hie, hs, hv1], rfl, hv2⟩
      · exact .bad
    · exact .bad
  · exact .bad

theorem lenF_ok {P : Program} {E : Env} (hE : HRel E) {t : TypeId} {x : V} {vx : Value} (hx : VRel E x vx) (ty : TypeId) (ts : Array TypeId) (hts : ts[0]? = some t) : Good P E (Builtin.len_ ts ty #[vx]) (lenF P t x E.H) := by
  have h64 : ∀ n : Nat, n ≤ lim → IntKind.i64.min ≤ (n : Int) ∧ (n : Int) ≤ IntKind.i64.max := by
    intro n h; simp [lim] at h; simp [IntKind.min, IntKind.max, IntKind.signed, IntKind.bits]; omega
  unfold lenF
  split
  · split
    · rename_i s ht
      obtain ⟨b, rfl, hb, hl⟩ := str_inv (one_inv hx)
      refine .same hE fun _ => ⟨hl, .int .i64 s.length, ?_, rfl, .one (.int (h64 _ hl))⟩
      have : b.size = s.length := by rw [← hb]; rfl
      simp [Builtin.len_, hts, run_underlying (tIsStr_spec ht), goInt, this]
    · exact .bad
  · split
    · rename_i rows _ p ht
      obtain ⟨e, s, b⟩ := p
      obtain ⟨ie, hu, _⟩ := tSl_spec ht
      obtain ⟨a, cap, rfl, hc, hl⟩ := sl_inv (one_inv hx)
      exact .same hE fun _ => ⟨hl, .int .i64 rows.length, by simp [Builtin.len_, hts, run_underlying hu, goInt], rfl, .one (.int (h64 _ hl))⟩
    · exact .bad
  · split
    · rename_i rows _ p ht
      obtain ⟨e, s, b⟩ := p
      obtain ⟨ie, hu, _⟩ := tSl_spec ht
      obtain ⟨a, cap, rfl, hc, hl⟩ := sl_inv (slf_inv (one_inv hx)).1
      exact .same hE fun _ => ⟨hl, .int .i64 rows.length, by simp [Builtin.len_, hts, run_underlying hu, goInt], rfl, .one (.int (h64 _ hl))⟩
    · exact .bad
  · split
    · rename_i id ver lo hi _ _ p cur sz rows ht ho
      obtain ⟨e, s, b⟩ := p
      obtain ⟨ie, hu, _⟩ := tSl_spec ht
      refine .same hE fun hver => ?_
      obtain ⟨hlo, hhi, a, cap, rfl, hcap, ha⟩ := msl_inv (one_inv hx) ho hver
      obtain ⟨hrc, hlim, _⟩ := hE.obj id _ ho
      exact ⟨⟨by omega, hhi, hlo⟩, .int .i64 ((hi - lo : Nat) : Int), by simp [Builtin.len_, hts, run_underlying hu, goInt], rfl, .one (.int (h64 _ (by omega)))⟩
    · exact .bad
  · split
    · rename_i n e s ht
      obtain ⟨ie, hu, _⟩ := tAr_spec ht
      refine .same hE fun hn => ⟨trivial, .int .i64 n, ?_, rfl, .one (.int (h64 _ hn))⟩
      simp [Builtin.len_, hts, run_underlying hu, goInt]
    · exact .bad

end Go.Lz
