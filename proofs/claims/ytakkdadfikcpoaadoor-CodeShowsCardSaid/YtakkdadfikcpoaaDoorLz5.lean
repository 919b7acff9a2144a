/- Lz5: the reckoning of each operation is what the model does (numbers, fields, indexes, stores, new variables). -/
import Derived.Test.YtakkdadfikcpoaaDoorLz4
namespace Go.Lz
set_option linter.unusedVariables false
set_option linter.unusedSimpArgs false

def GoodU (P : Program) (E : Env) (s : Sem Unit) (r : R) : Prop :=
  r.pre → r.fact ∧ r.v = .un ∧ ∃ E', s.run P E.w = .ok () E'.w ∧ E'.H = r.h ∧ HRel E' ∧ Trans E E'

theorem GoodU.bad {P : Program} {E : Env} {s : Sem Unit} : GoodU P E s .bad := fun h => h.elim

theorem at2_some {rows : List (List C)} {i j : Nat} {c : C} : at2 rows i j = some c ↔ ∃ r, rows[i]? = some r ∧ r[j]? = some c := by
  simp [at2, Option.bind_eq_some_iff]

theorem splice_get {α : Type} (row : List α) (off : Nat) (cs : List α) (h : off + cs.length ≤ row.length) (j : Nat) :
    (splice row off cs)[j]? = if off ≤ j ∧ j < off + cs.length then cs[j - off]? else row[j]? := by
  unfold splice
  rw [List.append_assoc, List.getElem?_append]
  have h1 : (row.take off).length = off := by simp; omega
  rw [h1]
  split
  · rename_i hj
    rw [if_neg (by omega), List.getElem?_take, if_pos hj]
  · rename_i hj
    rw [List.getElem?_append]
    split
    · rw [if_pos (by omega)]
    · rw [if_neg (by omega), List.getElem?_drop]
      congr 1; omega

theorem splice_len {α : Type} (row : List α) (off : Nat) (cs : List α) (h : off + cs.length ≤ row.length) : (splice row off cs).length = row.length := by
  simp [splice]; omega

theorem RowAt.setRow {w : World} {b : Nat} {arr cs : Array Value} {ty : TypeId} (h : RowAt w b arr ty) (hs : cs.size = arr.size) : RowAt (w.setRow b cs) b cs ty := by
  obtain ⟨fz, h, h2⟩ := h
  exact ⟨fz, setRow_heap w b arr cs ty fz h, by rw [hs]; exact h2⟩
theorem RowAt.store {P : Program} {g o : Nat} {t : TypeId} : ∀ (vs : List Value) (i : Nat) (cur : Array Value) (w : World), RowAt w g cur t → o + i + vs.length ≤ cur.size → (∀ v ∈ vs, v.oneCell' = true) →
    (storeCells ⟨g, o, none⟩ vs i).run P w = .ok () (w.setRow g (cur.toList.take (o + i) ++ vs ++ cur.toList.drop (o + i + vs.length)).toArray)
  | [], i, cur, w, hg, _, _ => by
    obtain ⟨fz, hg, _⟩ := hg
    simp only [storeCells, List.append_nil, List.length_nil, Nat.add_zero, List.take_append_drop, Array.toArray_toList]
    rw [setRow_self w g cur t fz hg]
    rfl
  | v :: rest, i, cur, w, hg, hl, h1 => by
    have hg0 := hg
    obtain ⟨fz, hg, hfz⟩ := hg
    have hi : o + i < cur.size := by simp at hl; omega
    have hadd : (⟨g, o, none⟩ : Addr).add i = ⟨g, o + i, none⟩ := by unfold Addr.add; split <;> simp_all
    have hcell : w.cell? ⟨g, o + i, none⟩ = some cur[o + i] := by simp [World.cell?, hg, hi]
    have hfro : w.frozen? ⟨g, o + i, none⟩ = false := by
      obtain ⟨lo, hi'⟩ := fz
      simp only [World.frozen?, hg, Bool.and_eq_false_iff, decide_eq_false_iff_not]
      rcases hfz with hfz | hfz
      · cases hfz; omega
      · simp only at hfz; omega
    have hst : (Go.store ((⟨g, o, none⟩ : Addr).add i) v).run P w = .ok () (w.setRow g (cur.setIfInBounds (o + i) v)) := by
      rw [hadd, run_store P w _ v _ (h1 v (by simp)), hcell]
      simp [hfro, setCell_eq_setRow w g (o + i) cur t fz v hg]
    have ih := RowAt.store (P := P) (o := o) rest (i + 1) (cur.setIfInBounds (o + i) v) (w.setRow g (cur.setIfInBounds (o + i) v)) (hg0.setRow (by simp)) (by simp at hl ⊢; omega) (fun x hx => h1 x (by simp [hx]))
    simp only [storeCells, Sem.run_bind, hst, Result.andThen_ok, ih, setRow_setRow]
    congr 3
    have e := list_seg_step cur.toList (o + i) v rest (by simp at hl ⊢; omega)
    simpa [Array.toList_setIfInBounds, Nat.add_assoc] using e
/-- A row of an own object is written in part. -/
theorem store_run {P : Program} {E : Env} (hE : HRel E) {id cur sz : Nat} {rows : List (List C)} (ho : E.H[id]? = some (.cells cur sz rows)) {r off : Nat} (hr : r < rows.length)
    {cs : List C} (hoff : off + cs.length ≤ (rows.getD r []).length) {vs : Array Value} (hn : vs.size = cs.length) (hrel : ∀ (j : Nat) (c : C), cs[j]? = some c → ∃ y, vs[j]? = some y ∧ CRel E c y) :
    ∃ E', (storeCells ⟨(E.bd id).blk, (E.bd id).off + (r * sz + off), none⟩ vs.toList).run P E.w = .ok () E'.w ∧ E'.H = E.H.set id (.cells cur sz (rows.set r (splice (rows.getD r []) off cs))) ∧ HRel E' ∧ Trans E E' := by
  obtain ⟨h3, h4, h5, h6⟩ := hE.obj id _ ho
  have hcap : (E.bd id).cap ≠ 0 := by omega
  obtain ⟨arr, ty, h1, h2, h6⟩ := h6 hcap
  have hlive : E.live id (.cells cur sz rows) := hcap
  have hrow : rows.getD r [] = rows[r] := by simp [List.getD_eq_getElem?_getD, hr]
  have hlen : (rows.getD r []).length = sz := by rw [hrow]; exact h5 _ (List.getElem_mem hr)
  rw [hlen] at hoff
  have hrs : r * sz + sz ≤ rows.length * sz := by have := Nat.mul_le_mul_right sz hr; rw [Nat.succ_mul] at this; exact this
  have hrs2 : rows.length * sz ≤ (E.bd id).cap * sz := Nat.mul_le_mul_right sz h3
  have hbound : (E.bd id).off + (r * sz + off) + vs.toList.length ≤ arr.size := by simp [hn]; omega
  have h1c : ∀ v ∈ vs.toList, v.oneCell' = true := by
    intro v hv
    obtain ⟨j, hj, hjv⟩ := List.mem_iff_getElem.1 hv
    have hjs : j < cs.length := by simp at hj; omega
    obtain ⟨y, hy, hc⟩ := hrel j cs[j] (by simp [hjs])
    have hjn : j < vs.size := by omega
    have : y = v := by
      simp only [Array.getElem?_eq_getElem hjn, Option.some.injEq] at hy
      rw [← hy, ← hjv, Array.getElem_toList]
    exact this ▸ hc.cell
  have hrun := RowAt.store (P := P) (o := (E.bd id).off + (r * sz + off)) vs.toList 0 arr E.w h1 (by simpa using hbound) h1c
  simp only [Nat.add_zero] at hrun
  let arr' : Array Value := (arr.toList.take ((E.bd id).off + (r * sz + off)) ++ vs.toList ++ arr.toList.drop ((E.bd id).off + (r * sz + off) + vs.toList.length)).toArray
  have harr' : ∀ k, arr'[k]? = if (E.bd id).off + (r * sz + off) ≤ k ∧ k < (E.bd id).off + (r * sz + off) + vs.toList.length then vs[k - ((E.bd id).off + (r * sz + off))]? else arr[k]? := by
    intro k
    have := splice_get arr.toList ((E.bd id).off + (r * sz + off)) vs.toList (by simpa using hbound) k
    simpa [arr', splice] using this
  have hsize : arr'.size = arr.size := by
    have := splice_len arr.toList ((E.bd id).off + (r * sz + off)) vs.toList (by simpa using hbound)
    simpa [arr', splice] using this
  obtain ⟨t, hh⟩ := upd_obj hE id (.cells cur sz rows) (.cells cur sz (rows.set r (splice (rows.getD r []) off cs))) (E.w.setRow (E.bd id).blk arr') (E.bd id) ho (by simp) rfl rfl rfl
    (fun b hb hne => setRow_other E.w _ b arr' (hne hlive))
    (fun ver' sz' rows' e => by cases e; exact ⟨cur, sz, rows, rfl, Nat.le_refl _, fun _ => ⟨rfl, by simp, rfl⟩⟩) (fun es' e => by cases e) _ rfl (fun _ => .inl ⟨hlive, rfl⟩)
  refine ⟨_, hrun, rfl, hh ?_, t⟩
  refine ⟨?_, by simpa using h4, ?_, fun _ => ⟨arr', ty, ?_, ?_, ?_⟩⟩
  · simp only [if_true]; simpa using h3
  rotate_left
  · simp only [if_true]; exact h1.setRow hsize
  · simp only [if_true]; rw [hsize]; exact h2
  rotate_left
  · intro x hx
    rcases List.mem_or_eq_of_mem_set hx with hx | rfl
    · exact h5 x hx
    · rw [splice_len _ _ _ (by rw [hlen]; exact hoff), hlen]
  · intro i j c hij
    simp only [if_true]
    obtain ⟨x, hx, hxj⟩ := at2_some.1 hij
    rw [List.getElem?_set] at hx
    by_cases hi : r = i
    · subst hi
      simp [hr] at hx
      subst hx
      rw [splice_get rows[r] off cs (by rw [h5 _ (List.getElem_mem hr)]; exact hoff) j] at hxj
      rw [harr']
      by_cases hj : off ≤ j ∧ j < off + cs.length
      · rw [if_pos hj] at hxj
        rw [if_pos (by simp [hn]; omega)]
        obtain ⟨y, hy, hc⟩ := hrel _ _ hxj
        refine ⟨y, ?_, hc.trans t⟩
        rw [← hy]; congr 1; omega
      · rw [if_neg hj] at hxj
        rw [if_neg (by simp [hn]; omega)]
        obtain ⟨v, hv, hc⟩ := h6 r j c (at2_some.2 ⟨rows[r], by simp [hr], hxj⟩)
        exact ⟨v, hv, hc.trans t⟩
    · simp only [hi, if_false] at hx
      obtain ⟨v, hv, hc⟩ := h6 i j c (at2_some.2 ⟨x, hx, hxj⟩)
      refine ⟨v, ?_, hc.trans t⟩
      rw [harr', if_neg ?_]
      · exact hv
      · have hjs : j < sz := by
          have := (List.getElem?_eq_some_iff.1 hxj).1
          rw [h5 x (List.mem_of_getElem? hx)] at this; exact this
        simp only [Array.length_toList, hn]
        rcases Nat.lt_or_gt_of_ne hi with hlt | hlt
        · have := Nat.mul_le_mul_right sz hlt; rw [Nat.succ_mul] at this; omega
        · have := Nat.mul_le_mul_right sz hlt; rw [Nat.succ_mul] at this; omega

theorem ref_addr {E : Env} {id ver r off cur sz : Nat} {rows : List (List C)} {v : Value} (hc : CRel E (.ref id ver r off) v) (ho : E.H[id]? = some (.cells cur sz rows)) (hv : ver = cur) :
    v = .pointer (some ⟨(E.bd id).blk, (E.bd id).off + (r * sz + off), none⟩) := by
  cases hc with
  | ref hid hcell hh => exact (hh cur sz rows ho).2 hv

theorem storeF_ok {P : Program} {E : Env} (hE : HRel E) {t : TypeId} {a x : V} {va vx : Value} (ha : VRel E a va) (hx : VRel E x vx) : GoodU P E (Instr.storeAt t va vx) (storeF P t a x E.H) := by
  unfold storeF
  split
  · rename_i id ver r off cs g n hcs hg
    split
    · rename_i cur sz rows ho
      rintro ⟨hver, hr, hoff, hn⟩
      refine ⟨trivial, rfl, ?_⟩
      cases ha with
      | one ha =>
        have hva := ref_addr ha ho hver
        subst hva
        obtain ⟨d, i, hu, hi, hin, hag⟩ := tAg_spec hg
        obtain ⟨h1, h2⟩ := hx.cells hcs
        obtain ⟨E', hrun, hH, hh, t⟩ := store_run (P := P) hE ho hr hoff h1 h2
        refine ⟨E', ?_, hH, hh, t⟩
        have : vx.cells.size = i.size := by rw [h1, hin, hn]
        simp [Instr.storeAt, Instr.sureAddr, storeVar, sizeOf_run hi, this, hrun]
    · exact .bad
  · exact .bad

theorem new_run {E : Env} (hE : HRel E) {cs : List C} {vs : Array Value} (hn : vs.size = cs.length) (hrel : ∀ (j : Nat) (c : C), cs[j]? = some c → ∃ y, vs[j]? = some y ∧ CRel E c y) (ty : TypeId) :
    ∃ E', E'.w = E.w.alloc (.cells vs ty) ∧ E'.H = E.H ++ [.cells 0 cs.length [cs]] ∧ VRel E' (.one (.ref E.H.length 0 0 0)) (.pointer (some ⟨E.w.heap.size, 0, none⟩)) ∧ HRel E' ∧ Trans E E' := by
  obtain ⟨t, hh⟩ := new_obj hE (E.w.alloc (.cells vs ty)) ⟨E.w.heap.size, 0, 1⟩ (.cells 0 cs.length [cs]) (by simp) rfl rfl rfl (fun b hb => heap_alloc_old E.w _ b hb) _ rfl (fun _ => by simp)
  refine ⟨_, rfl, rfl, ?_, hh ?_, t⟩
  · refine .one (.ref (by simp) rfl fun cur sz rows ho => ?_)
    simp at ho
    obtain ⟨rfl, rfl, rfl⟩ := ho
    exact ⟨Nat.le_refl _, fun _ => by simp⟩
  · refine ⟨?_, ?_, ?_, fun _ => ⟨vs, ty, ?_, ?_, ?_⟩⟩
    · simp
    · simp [lim]
    · simp
    · simp only [if_true]; exact RowAt.mk0 (heap_alloc_new E.w _)
    · simp [hn]
    · intro i j c hij
      obtain ⟨x, hx, hxj⟩ := at2_some.1 hij
      cases i with
      | zero =>
        simp at hx; subst hx
        obtain ⟨y, hy, hc⟩ := hrel j c hxj
        exact ⟨y, by simpa using hy, hc.trans t⟩
      | succ i => simp at hx

theorem box_ok {P : Program} {E : Env} (hE : HRel E) {t : TypeId} {x : V} {v : Value} (hx : VRel E x v) {cs : List C} (hcs : x.cs = some cs) : Good P E (Instr.box t v) (newF cs E.H) := by
  intro _
  obtain ⟨h1, h2⟩ := hx.cells hcs
  obtain ⟨E', hw, hH, hv, hh, t'⟩ := new_run hE h1 h2 t
  exact ⟨trivial, _, E', by simp [Instr.box, newVar, newRow, hw], hH, hv, hh, t'⟩

theorem tZ_spec {P : Program} {t : TypeId} {z : V} (h : tZ P t = some z) : ∃ i zv, P.info? t = some i ∧ i.zero = some zv ∧ z = V.ofV zv := by
  unfold tZ at h
  split at h
  · rename_i i hi
    split at h
    · rename_i zv hz; exact ⟨i, zv, hi, hz, by simpa using h.symm⟩
    · simp at h
  · simp at h

theorem alloc_ok {P : Program} {E : Env} (hE : HRel E) {t : TypeId} {z : V} (hz : tZ P t = some z) {cs : List C} (hcs : z.cs = some cs) (old : Value) : Good P E (Instr.alloc t true old) (newF cs E.H) := by
  intro _
  obtain ⟨i, zv, hi, hzv, rfl⟩ := tZ_spec hz
  obtain ⟨h1, h2⟩ := (V.ofV_rel E zv).cells hcs
  obtain ⟨E', hw, hH, hv, hh, t'⟩ := new_run hE h1 h2 t
  have hrun : (Instr.alloc t true old).run P E.w = .ok (.pointer (some ⟨E.w.heap.size, 0, none⟩)) (E.w.alloc (.cells zv.cells t)) := by
    simp only [Instr.alloc, zeroValue, typeInfo, Sem.run_bind, run_program, Result.andThen_ok, hi, Sem.run_pure, hzv]
    simp [newVar, newRow]
  exact ⟨trivial, _, E', by rw [hrun, hw], hH, hv, hh, t'⟩

theorem tmod_in (k : IntKind) (a b : Int) (h : k.min ≤ a ∧ a ≤ k.max) : k.min ≤ a.tmod b ∧ a.tmod b ≤ k.max := by
  have h0 : k.min ≤ 0 ∧ 0 ≤ k.max := by cases k <;> simp [IntKind.min, IntKind.max, IntKind.signed, IntKind.bits]
  rcases Int.le_total 0 a with ha | ha
  · have h1 := Int.tmod_nonneg b ha
    have h2 : a.tmod b ≤ a := by
      have : (a.tmod b).natAbs ≤ a.natAbs := by rw [Int.natAbs_tmod]; exact Nat.mod_le _ _
      omega
    omega
  · have h1 : a.tmod b ≤ 0 := by
      have := Int.tmod_nonneg b (show 0 ≤ -a by omega)
      rw [Int.neg_tmod] at this; omega
    have h2 : a ≤ a.tmod b := by
      have : (a.tmod b).natAbs ≤ a.natAbs := by rw [Int.natAbs_tmod]; exact Nat.mod_le _ _
      omega
    omega

theorem intF_ok {P : Program} {E : Env} (hE : HRel E) {op : BinOp} {t : TypeId} {k : IntKind} {a b : Int} (ha : k.min ≤ a ∧ a ≤ k.max) (hb : k.min ≤ b ∧ b ≤ k.max) :
    Good P E (binOp op t (.int k a) (.int k b)) (intF op k a b E.H) := by
  have cmp : ∀ (op' : BinOp) (x : Bool), (Op.intCmp op' a b).run P E.w = .ok (.bool x) E.w → (binOp op' t (.int k a) (.int k b)).run P E.w = (Op.intCmp op' a b).run P E.w →
      Good P E (binOp op' t (.int k a) (.int k b)) (.ok (.one (.bool x)) E.H) := fun op' x h1 h2 => .ok hE ⟨_, h2.trans h1, .one .bool⟩
  cases op
  case add => exact .ok hE ⟨_, by simp [binOp, Op.intArith], .one (.int (wrap_in _ _))⟩
  case sub => exact .ok hE ⟨_, by simp [binOp, Op.intArith], .one (.int (wrap_in _ _))⟩
  case mul => exact .ok hE ⟨_, by simp [binOp, Op.intArith], .one (.int (wrap_in _ _))⟩
  case quo => exact .same hE fun h => ⟨trivial, _, by simp [binOp, Op.intDiv, show ¬ b = 0 from h], rfl, .one (.int (wrap_in _ _))⟩
  case rem => exact .same hE fun h => ⟨trivial, _, by simp [binOp, Op.intDiv, show ¬ b = 0 from h], rfl, .one (.int (tmod_in _ _ _ ha))⟩
  case and => exact .ok hE ⟨_, by simp only [binOp, Op.intBits, ne_eq, not_true_eq_false, if_false]; rfl, .one (.int (wrap_in _ _))⟩
  case or => exact .ok hE ⟨_, by simp only [binOp, Op.intBits, ne_eq, not_true_eq_false, if_false]; rfl, .one (.int (wrap_in _ _))⟩
  case xor => exact .ok hE ⟨_, by simp only [binOp, Op.intBits, ne_eq, not_true_eq_false, if_false]; rfl, .one (.int (wrap_in _ _))⟩
  case andNot => exact .ok hE ⟨_, by simp only [binOp, Op.intBits, ne_eq, not_true_eq_false, if_false]; rfl, .one (.int (wrap_in _ _))⟩
  case eql => exact cmp .eql _ rfl (by simp [binOp])
  case neq => exact cmp .neq _ rfl (by simp [binOp])
  case lss => exact cmp .lss _ rfl (by simp [binOp])
  case leq => exact cmp .leq _ rfl (by simp [binOp])
  case gtr => exact cmp .gtr _ rfl (by simp [binOp])
  case geq => exact cmp .geq _ rfl (by simp [binOp])
  all_goals exact .bad

theorem fdiv_in {k : IntKind} {a : Int} {m : Nat} (ha : k.min ≤ a ∧ a ≤ k.max) : k.min ≤ a.fdiv (2 ^ m) ∧ a.fdiv (2 ^ m) ≤ k.max := by
  have hp : (0 : Int) < 2 ^ m := Int.pow_pos (by decide)
  have h0 : k.min ≤ 0 ∧ 0 ≤ k.max := by cases k <;> decide
  rw [Int.fdiv_eq_ediv_of_nonneg _ (Int.le_of_lt hp)]
  rcases Int.lt_or_le a 0 with h | h
  · have h1 : a / 2 ^ m < 0 := Int.ediv_neg_of_neg_of_pos h hp
    have h2 : a ≤ a / 2 ^ m := by
      refine Int.le_ediv_of_mul_le hp ?_
      have := Int.mul_le_mul_of_nonpos_left (Int.le_of_lt h) (show (1 : Int) ≤ 2 ^ m from hp)
      simpa using this
    omega
  · have h1 : 0 ≤ a / 2 ^ m := Int.ediv_nonneg h (Int.le_of_lt hp)
    have h2 : a / 2 ^ m ≤ a := Int.ediv_le_self _ h
    omega

theorem shF_ok {P : Program} {E : Env} (hE : HRel E) {op : BinOp} {t : TypeId} {k k' : IntKind} {a b : Int} (ha : k.min ≤ a ∧ a ≤ k.max) :
    Good P E (binOp op t (.int k a) (.int k' b)) (shF op k a b E.H) := by
  cases op
  case shl => exact .same hE fun h => ⟨trivial, _, by simp [binOp, Op.shift, Int.not_lt.2 h], rfl, .one (.int (wrap_in _ _))⟩
  case shr => exact .same hE fun h => ⟨trivial, _, by simp [binOp, Op.shift, Int.not_lt.2 h], rfl, .one (.int (fdiv_in ha))⟩
  all_goals exact .bad

end Go.Lz
