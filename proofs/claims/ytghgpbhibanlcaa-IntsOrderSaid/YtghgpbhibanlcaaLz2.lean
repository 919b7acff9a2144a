/- Lz2: how the heap of abstract objects turns as the world turns. -/
import Derived.Test.YtghgpbhibanlcaaLz1
import Derived.Laws.AppendOwn
import Derived.Laws.Tables
import Derived.Great.BuildSlice
import Derived.Laws.MakeOwn
import Derived.Laws.IdiomCopy
namespace Go.Lz
set_option linter.unusedVariables false
set_option linter.unusedSimpArgs false

theorem ORel.keep {E E' : Env} (t : Trans E E') {id : Nat} {o : O} (h : ORel E id o) (hbd : E'.bd id = E.bd id) (hb : o.live = true → E'.w.heap[(E.bd id).blk]? = E.w.heap[(E.bd id).blk]?) : ORel E' id o := by
  cases o with
  | cells ver sz rows =>
    obtain ⟨arr, ty, h1, h2, h3, h4, h5, h6⟩ := h
    refine ⟨arr, ty, ?_, ?_, ?_, h4, h5, ?_⟩
    · rw [hbd, hb rfl]; exact h1
    · rw [hbd]; exact h2
    · rw [hbd]; exact h3
    · intro i j c hij
      obtain ⟨v, hv, hr⟩ := h6 i j c hij
      exact ⟨v, by rw [hbd]; exact hv, hr.trans t⟩
  | map es =>
    obtain ⟨ents, clock, h1, h2, h3⟩ := h
    refine ⟨ents, clock, by rw [hbd, hb rfl]; exact h1, h2, fun i k x hi => ?_⟩
    obtain ⟨e, he, hk, hx⟩ := h3 i k x hi
    exact ⟨e, he, hk.trans t, hx.trans t⟩
  | dead => trivial

theorem HRel.lt {E : Env} (h : HRel E) {id : Nat} {o : O} (ho : E.H[id]? = some o) (hl : o.live = true) : (E.bd id).blk < E.w.heap.size :=
  h.own_lt ⟨id, o, ho, hl, rfl⟩

theorem HRel.own_of {E : Env} {id : Nat} {o : O} (ho : E.H[id]? = some o) (hl : o.live = true) : E.own (E.bd id).blk := ⟨id, o, ho, hl, rfl⟩

/-- The world moves on and no block that was there turns. -/
theorem grow_world {E : Env} (h : HRel E) (w' : World) (hs : E.w.heap.size ≤ w'.heap.size) (ho : w'.os = E.w.os) (ht : w'.tape = E.w.tape) (hu : w'.output = E.w.output)
    (hk : ∀ b, b < E.w.heap.size → w'.heap[b]? = E.w.heap[b]?) : Trans E { E with w := w' } ∧ HRel { E with w := w' } := by
  have t : Trans E { E with w := w' } := ⟨rfl, hs, ho, ht, hu, fun b hb _ => hk b hb, fun _ _ h => h, Nat.le_refl _, fun _ ver sz rows _ h => ⟨ver, sz, rows, h, Nat.le_refl _, fun _ => ⟨rfl, rfl, rfl⟩⟩, fun _ es _ h => ⟨es, h, rfl⟩⟩
  exact ⟨t, fun id o ho => (h.obj id o ho).keep t rfl (fun hl => hk _ (h.lt ho hl)), h.dist, h.nofr, fun b hb => Nat.lt_of_lt_of_le (h.frlt b hb) hs⟩

/-- A new object in a new block. -/
theorem new_obj {E : Env} (h : HRel E) (w' : World) (B : Bd) (o : O) (hl : o.live = true) (hs : E.w.heap.size ≤ w'.heap.size) (ho : w'.os = E.w.os) (ht : w'.tape = E.w.tape) (hu : w'.output = E.w.output)
    (hk : ∀ b, b < E.w.heap.size → w'.heap[b]? = E.w.heap[b]?) (hB : E.w.heap.size ≤ B.blk) (hB' : B.blk < w'.heap.size)
    (E' : Env) (hE : E' = ⟨w', E.Fr, fun i => if i = E.H.length then B else E.bd i, E.H ++ [o]⟩) :
    Trans E E' ∧ (ORel E' E.H.length o → HRel E') := by
  subst hE
  have t : Trans E ⟨w', E.Fr, fun i => if i = E.H.length then B else E.bd i, E.H ++ [o]⟩ := by
    refine ⟨rfl, hs, ho, ht, hu, fun b hb _ => hk b hb, ?_, by simp, ?_, ?_⟩
    · rintro b hb ⟨id, x, hx, hlx, hbx⟩
      by_cases hid : id = E.H.length
      · simp [hid] at hbx; omega
      · simp only [hid, if_false] at hbx
        refine ⟨id, x, ?_, hlx, hbx⟩
        have hlt : id < (E.H ++ [o]).length := (List.getElem?_eq_some_iff.1 hx).1
        simp at hlt
        simpa [List.getElem?_append_left (show id < E.H.length by omega)] using hx
    · intro id ver' sz' rows' hid hx
      simp only [List.getElem?_append_left hid] at hx
      exact ⟨ver', sz', rows', hx, Nat.le_refl _, fun _ => ⟨rfl, rfl, by simp [Nat.ne_of_lt hid]⟩⟩
    · intro id es' hid hx
      simp only [List.getElem?_append_left hid] at hx
      exact ⟨es', hx, by simp [Nat.ne_of_lt hid]⟩
  refine ⟨t, fun hn => ⟨?_, ?_, ?_, fun b hb => Nat.lt_of_lt_of_le (h.frlt b hb) hs⟩⟩
  · intro id x hx
    by_cases hid : id = E.H.length
    · subst hid
      simp at hx
      subst hx; exact hn
    · have hlt : id < (E.H ++ [o]).length := (List.getElem?_eq_some_iff.1 hx).1
      simp at hlt
      have hx' : E.H[id]? = some x := by simpa [List.getElem?_append_left (show id < E.H.length by omega)] using hx
      exact (h.obj id x hx').keep t (by simp [hid]) (fun hl => hk _ (h.lt hx' hl))
  · intro i j x y hx hy lx ly hij
    have old : ∀ (i : Nat) (x : O), (E.H ++ [o])[i]? = some x → i ≠ E.H.length → E.H[i]? = some x := by
      intro i x hx hi
      have hlt : i < (E.H ++ [o]).length := (List.getElem?_eq_some_iff.1 hx).1
      simp at hlt
      simpa [List.getElem?_append_left (show i < E.H.length by omega)] using hx
    by_cases hi : i = E.H.length <;> by_cases hj : j = E.H.length
    · omega
    · have := h.lt (old j y hy hj) ly
      simp [hi, hj]; omega
    · have := h.lt (old i x hx hi) lx
      simp [hi, hj]; omega
    · simp [hi, hj]; exact h.dist i j x y (old i x hx hi) (old j y hy hj) lx ly hij
  · intro i x hx lx hf
    by_cases hi : i = E.H.length
    · simp [hi] at hf
      have := h.frlt _ hf; omega
    · simp [hi] at hf
      have hlt : i < (E.H ++ [o]).length := (List.getElem?_eq_some_iff.1 hx).1
      simp at hlt
      exact h.nofr i x (by simpa [List.getElem?_append_left (show i < E.H.length by omega)] using hx) lx hf

/-- An own object turns, in its block or in a new one. -/
theorem upd_obj {E : Env} (h : HRel E) (id : Nat) (o o' : O) (w' : World) (B : Bd) (hid : E.H[id]? = some o) (hl : o.live = true) (hl' : o'.live = true)
    (hs : E.w.heap.size ≤ w'.heap.size) (ho : w'.os = E.w.os) (ht : w'.tape = E.w.tape) (hu : w'.output = E.w.output)
    (hk : ∀ b, b < E.w.heap.size → b ≠ (E.bd id).blk → w'.heap[b]? = E.w.heap[b]?) (hB : B.blk = (E.bd id).blk ∨ E.w.heap.size ≤ B.blk) (hB' : B.blk < w'.heap.size)
    (hC : ∀ ver' sz' rows', o' = .cells ver' sz' rows' → ∃ ver sz rows, o = .cells ver sz rows ∧ ver ≤ ver' ∧ (ver = ver' → sz = sz' ∧ rows.length = rows'.length ∧ B = E.bd id))
    (hM : ∀ es', o' = .map es' → ∃ es, o = .map es ∧ B.blk = (E.bd id).blk)
    (E' : Env) (hE : E' = ⟨w', E.Fr, fun i => if i = id then B else E.bd i, E.H.set id o'⟩) :
    Trans E E' ∧ (ORel E' id o' → HRel E') := by
  subst hE
  have hlen : id < E.H.length := (List.getElem?_eq_some_iff.1 hid).1
  have blt := h.lt hid hl
  have t : Trans E ⟨w', E.Fr, fun i => if i = id then B else E.bd i, E.H.set id o'⟩ := by
    refine ⟨rfl, hs, ho, ht, hu, fun b hb hno => hk b hb (fun e => hno (e ▸ HRel.own_of hid hl)), ?_, by simp, ?_, ?_⟩
    · rintro b hb ⟨j, x, hx, hlx, hbx⟩
      by_cases hj : j = id
      · subst hj
        simp at hbx
        rcases hB with e | e
        · rw [← hbx, e]; exact HRel.own_of hid hl
        · omega
      · simp only [hj, if_false] at hbx
        rw [List.getElem?_set_ne (Ne.symm hj)] at hx
        exact ⟨j, x, hx, hlx, hbx⟩
    · intro j ver' sz' rows' hj hx
      by_cases e : j = id
      · subst e
        rw [List.getElem?_set_self hlen] at hx
        simp only [Option.some.injEq] at hx
        obtain ⟨ver, sz, rows, h1, h2, h3⟩ := hC ver' sz' rows' hx
        exact ⟨ver, sz, rows, by rw [hid, h1], h2, fun e => by obtain ⟨a, b, c⟩ := h3 e; exact ⟨a, b, by simp [c]⟩⟩
      · rw [List.getElem?_set_ne (Ne.symm e)] at hx
        exact ⟨ver', sz', rows', hx, Nat.le_refl _, fun _ => ⟨rfl, rfl, by simp [e]⟩⟩
    · intro j es' hj hx
      by_cases e : j = id
      · subst e
        rw [List.getElem?_set_self hlen] at hx
        simp only [Option.some.injEq] at hx
        obtain ⟨es, h1, h2⟩ := hM es' hx
        exact ⟨es, by rw [hid, h1], by simp [h2]⟩
      · rw [List.getElem?_set_ne (Ne.symm e)] at hx
        exact ⟨es', hx, by simp [e]⟩
  refine ⟨t, fun hn => ⟨?_, ?_, ?_, fun b hb => Nat.lt_of_lt_of_le (h.frlt b hb) hs⟩⟩
  · intro j x hx
    by_cases e : j = id
    · subst e
      rw [List.getElem?_set_self hlen] at hx
      simp only [Option.some.injEq] at hx
      subst hx; exact hn
    · rw [List.getElem?_set_ne (Ne.symm e)] at hx
      exact (h.obj j x hx).keep t (by simp [e]) (fun hl2 => hk _ (h.lt hx hl2) (h.dist j id x o hx hid hl2 hl e))
  · intro i j x y hx hy lx ly hij
    by_cases hi : i = id <;> by_cases hj : j = id
    · omega
    · rw [List.getElem?_set_ne (Ne.symm hj)] at hy
      have h1 := h.lt hy ly
      have h2 := h.dist id j o y hid hy hl ly (Ne.symm hj)
      simp only [hi, hj, if_true, if_false]
      rcases hB with e | e
      · rw [e]; exact h2
      · omega
    · rw [List.getElem?_set_ne (Ne.symm hi)] at hx
      have h1 := h.lt hx lx
      have h2 := h.dist i id x o hx hid lx hl hi
      simp only [hi, hj, if_true, if_false]
      rcases hB with e | e
      · rw [e]; exact h2
      · omega
    · rw [List.getElem?_set_ne (Ne.symm hi)] at hx
      rw [List.getElem?_set_ne (Ne.symm hj)] at hy
      simp only [hi, hj, if_false]
      exact h.dist i j x y hx hy lx ly hij
  · intro i x hx lx hf
    by_cases hi : i = id
    · simp only [hi, if_true] at hf
      rcases hB with e | e
      · rw [e] at hf; exact h.nofr id o hid hl hf
      · have := h.frlt _ hf; omega
    · rw [List.getElem?_set_ne (Ne.symm hi)] at hx
      simp only [hi, if_false] at hf
      exact h.nofr i x hx lx hf

/-- An own object is given up. -/
theorem kill_obj {E : Env} (h : HRel E) (id : Nat) (E' : Env) (hE : E' = { E with H := E.H.set id .dead }) : Trans E E' ∧ HRel E' := by
  subst hE
  have get : ∀ (j : Nat) (x : O), (E.H.set id .dead)[j]? = some x → x.live = true → E.H[j]? = some x := by
    intro j x hx hl
    rw [List.getElem?_set] at hx
    split at hx
    · split at hx
      · simp at hx; subst hx; simp [O.live] at hl
      · simp at hx
    · exact hx
  have t : Trans E { E with H := E.H.set id .dead } := by
    refine ⟨rfl, Nat.le_refl _, rfl, rfl, rfl, fun _ _ _ => rfl, ?_, by simp, ?_, ?_⟩
    · rintro b hb ⟨j, x, hx, hl, hbx⟩
      exact ⟨j, x, get j x hx hl, hl, hbx⟩
    · intro j ver sz rows hj hx
      exact ⟨ver, sz, rows, get j _ hx rfl, Nat.le_refl _, fun _ => ⟨rfl, rfl, rfl⟩⟩
    · intro j es hj hx
      exact ⟨es, get j _ hx rfl, rfl⟩
  refine ⟨t, ?_, ?_, ?_, h.frlt⟩
  · intro j x hx
    cases x with
    | dead => trivial
    | cells ver sz rows => exact (h.obj j _ (get j _ hx rfl)).keep t rfl (fun _ => rfl)
    | map es => exact (h.obj j _ (get j _ hx rfl)).keep t rfl (fun _ => rfl)
  · intro i j x y hx hy lx ly hij
    exact h.dist i j x y (get i x hx lx) (get j y hy ly) lx ly hij
  · intro i x hx lx
    exact h.nofr i x (get i x hx lx) lx

end Go.Lz
