/- Lz2: how the heap of abstract objects turns as the world turns. -/
import Derived.Test.YtakkdadfikcpoaaDoorLz1
import Derived.Laws.AppendOwn
import Derived.Laws.Tables
import Derived.Great.BuildSlice
import Derived.Laws.MakeOwn
import Derived.Laws.IdiomCopy
namespace Go.Lz
set_option linter.unusedVariables false
set_option linter.unusedSimpArgs false

theorem ORel.keep {E E' : Env} (t : Trans E E') {id : Nat} {o : O} (h : ORel E id o) (hbd : E'.bd id = E.bd id) (hb : E.live id o → E'.w.heap[(E.bd id).blk]? = E.w.heap[(E.bd id).blk]?) : ORel E' id o := by
  cases o with
  | cells ver sz rows =>
    obtain ⟨h3, h4, h5, h6⟩ := h
    refine ⟨by rw [hbd]; exact h3, h4, h5, fun hc => ?_⟩
    rw [hbd] at hc
    obtain ⟨arr, ty, h1, h2, h6⟩ := h6 hc
    refine ⟨arr, ty, ?_, ?_, ?_⟩
    · rw [hbd]; exact h1.congr (hb hc)
    · rw [hbd]; exact h2
    · intro i j c hij
      obtain ⟨v, hv, hr⟩ := h6 i j c hij
      exact ⟨v, by rw [hbd]; exact hv, hr.trans t⟩
  | map es =>
    obtain ⟨ents, clock, h1, h2, h3⟩ := h
    refine ⟨ents, clock, by rw [hbd, hb trivial]; exact h1, h2, fun i k x hi => ?_⟩
    obtain ⟨e, he, hk, hx⟩ := h3 i k x hi
    exact ⟨e, he, hk.trans t, hx.trans t⟩
  | dead => trivial

theorem HRel.lt {E : Env} (h : HRel E) {id : Nat} {o : O} (ho : E.H[id]? = some o) (hl : E.live id o) : (E.bd id).blk < E.w.heap.size :=
  h.own_lt ⟨id, o, ho, hl, rfl⟩

theorem HRel.own_of {E : Env} {id : Nat} {o : O} (ho : E.H[id]? = some o) (hl : E.live id o) : E.own (E.bd id).blk := ⟨id, o, ho, hl, rfl⟩

theorem live_bd {E E' : Env} {id : Nat} {o : O} (h : E'.bd id = E.bd id) : E'.live id o ↔ E.live id o := by
  cases o <;> simp [Env.live, h]

/-- The world moves on and no block that was there turns. -/
theorem grow_world {E : Env} (h : HRel E) (w' : World) (hs : E.w.heap.size ≤ w'.heap.size) (ho : w'.os = E.w.os) (ht : w'.tape = E.w.tape) (hu : w'.output = E.w.output)
    (hk : ∀ b, b < E.w.heap.size → w'.heap[b]? = E.w.heap[b]?) : Trans E { E with w := w' } ∧ HRel { E with w := w' } := by
  have own : ∀ b, ({ E with w := w' } : Env).own b → E.own b := by
    rintro b ⟨id, o, h1, h2, h3⟩
    exact ⟨id, o, h1, (live_bd (E := E) (E' := { E with w := w' }) rfl).1 h2, h3⟩
  have t : Trans E { E with w := w' } := ⟨rfl, hs, ho, ht, hu, fun b hb _ => hk b hb, fun b _ h => own b h, Nat.le_refl _, fun _ ver sz rows _ h => ⟨ver, sz, rows, h, Nat.le_refl _, fun _ => ⟨rfl, rfl, rfl⟩⟩, fun _ es _ h => ⟨es, h, rfl⟩⟩
  have lv : ∀ {id : Nat} {o : O}, ({ E with w := w' } : Env).live id o → E.live id o := fun {id o} h => (live_bd (E := E) (E' := { E with w := w' }) rfl).1 h
  exact ⟨t, fun id o ho => (h.obj id o ho).keep t rfl (fun hl => hk _ (h.lt ho hl)), fun i j x y hx hy lx ly => h.dist i j x y hx hy (lv lx) (lv ly), fun i x hx lx => h.nofr i x hx (lv lx), fun b hb => Nat.lt_of_lt_of_le (h.frlt b hb) hs, h.gl t⟩

theorem old_get {H : List O} {o : O} {i : Nat} {x : O} (hx : (H ++ [o])[i]? = some x) (hi : i ≠ H.length) : i < H.length ∧ H[i]? = some x := by
  have hlt : i < (H ++ [o]).length := (List.getElem?_eq_some_iff.1 hx).1
  simp at hlt
  refine ⟨by omega, ?_⟩
  simpa [List.getElem?_append_left (show i < H.length by omega)] using hx

/-- A new object, in a new block or without memory. -/
theorem new_obj {E : Env} (h : HRel E) (w' : World) (B : Bd) (o : O) (hs : E.w.heap.size ≤ w'.heap.size) (ho : w'.os = E.w.os) (ht : w'.tape = E.w.tape) (hu : w'.output = E.w.output)
    (hk : ∀ b, b < E.w.heap.size → w'.heap[b]? = E.w.heap[b]?)
    (E' : Env) (hE : E' = ⟨w', E.Fr, fun i => if i = E.H.length then B else E.bd i, E.H ++ [o]⟩) (hB : E'.live E.H.length o → E.w.heap.size ≤ B.blk) :
    Trans E E' ∧ (ORel E' E.H.length o → HRel E') := by
  subst hE
  have bd_old : ∀ {i : Nat}, i ≠ E.H.length → (⟨w', E.Fr, fun i => if i = E.H.length then B else E.bd i, E.H ++ [o]⟩ : Env).bd i = E.bd i := fun {i} hi => by simp [hi]
  have t : Trans E ⟨w', E.Fr, fun i => if i = E.H.length then B else E.bd i, E.H ++ [o]⟩ := by
    refine ⟨rfl, hs, ho, ht, hu, fun b hb _ => hk b hb, ?_, by simp, ?_, ?_⟩
    · rintro b hb ⟨id, x, hx, hlx, hbx⟩
      by_cases hid : id = E.H.length
      · subst hid
        simp at hx
        subst hx
        have := hB hlx
        simp at hbx; omega
      · obtain ⟨_, hx'⟩ := old_get hx hid
        rw [bd_old hid] at hbx
        exact ⟨id, x, hx', (live_bd (bd_old hid)).1 hlx, hbx⟩
    · intro id ver' sz' rows' hid hx
      simp only [List.getElem?_append_left hid] at hx
      exact ⟨ver', sz', rows', hx, Nat.le_refl _, fun _ => ⟨rfl, rfl, by simp [Nat.ne_of_lt hid]⟩⟩
    · intro id es' hid hx
      simp only [List.getElem?_append_left hid] at hx
      exact ⟨es', hx, by simp [Nat.ne_of_lt hid]⟩
  refine ⟨t, fun hn => ⟨?_, ?_, ?_, fun b hb => Nat.lt_of_lt_of_le (h.frlt b hb) hs, h.gl t⟩⟩
  · intro id x hx
    by_cases hid : id = E.H.length
    · subst hid
      simp at hx
      subst hx; exact hn
    · obtain ⟨_, hx'⟩ := old_get hx hid
      exact (h.obj id x hx').keep t (bd_old hid) (fun hl => hk _ (h.lt hx' hl))
  · intro i j x y hx hy lx ly hij
    by_cases hi : i = E.H.length <;> by_cases hj : j = E.H.length
    · omega
    · obtain ⟨_, hy'⟩ := old_get hy hj
      have h1 := h.lt hy' ((live_bd (bd_old hj)).1 ly)
      subst hi
      simp at hx
      subst hx
      have h2 := hB lx
      simp only [if_true, hj, if_false]; omega
    · obtain ⟨_, hx'⟩ := old_get hx hi
      have h1 := h.lt hx' ((live_bd (bd_old hi)).1 lx)
      subst hj
      simp at hy
      subst hy
      have h2 := hB ly
      simp only [if_true, hi, if_false]; omega
    · obtain ⟨_, hx'⟩ := old_get hx hi
      obtain ⟨_, hy'⟩ := old_get hy hj
      rw [bd_old hi, bd_old hj]
      exact h.dist i j x y hx' hy' ((live_bd (bd_old hi)).1 lx) ((live_bd (bd_old hj)).1 ly) hij
  · intro i x hx lx hf
    by_cases hi : i = E.H.length
    · subst hi
      simp at hx
      subst hx
      have h2 := hB lx
      simp at hf
      have := h.frlt _ hf; omega
    · obtain ⟨_, hx'⟩ := old_get hx hi
      rw [bd_old hi] at hf
      exact h.nofr i x hx' ((live_bd (bd_old hi)).1 lx) hf

/-- An own object turns, in its block or in a new one. -/
theorem upd_obj {E : Env} (h : HRel E) (id : Nat) (o o' : O) (w' : World) (B : Bd) (hid : E.H[id]? = some o)
    (hs : E.w.heap.size ≤ w'.heap.size) (ho : w'.os = E.w.os) (ht : w'.tape = E.w.tape) (hu : w'.output = E.w.output)
    (hk : ∀ b, b < E.w.heap.size → (E.live id o → b ≠ (E.bd id).blk) → w'.heap[b]? = E.w.heap[b]?)
    (hC : ∀ ver' sz' rows', o' = .cells ver' sz' rows' → ∃ ver sz rows, o = .cells ver sz rows ∧ ver ≤ ver' ∧ (ver = ver' → sz = sz' ∧ rows.length = rows'.length ∧ B = E.bd id))
    (hM : ∀ es', o' = .map es' → ∃ es, o = .map es ∧ B.blk = (E.bd id).blk)
    (E' : Env) (hE : E' = ⟨w', E.Fr, fun i => if i = id then B else E.bd i, E.H.set id o'⟩) (hB : E'.live id o' → E.live id o ∧ B.blk = (E.bd id).blk ∨ E.w.heap.size ≤ B.blk) :
    Trans E E' ∧ (ORel E' id o' → HRel E') := by
  subst hE
  have hlen : id < E.H.length := (List.getElem?_eq_some_iff.1 hid).1
  have bd_old : ∀ {i : Nat}, i ≠ id → (⟨w', E.Fr, fun i => if i = id then B else E.bd i, E.H.set id o'⟩ : Env).bd i = E.bd i := fun {i} hi => by simp [hi]
  have get : ∀ {i : Nat} {x : O}, (E.H.set id o')[i]? = some x → i ≠ id → E.H[i]? = some x := fun {i x} hx hi => by rwa [List.getElem?_set_ne (Ne.symm hi)] at hx
  have self : ∀ {x : O}, (E.H.set id o')[id]? = some x → x = o' := fun {x} hx => by rw [List.getElem?_set_self hlen] at hx; exact (Option.some.inj hx).symm
  have t : Trans E ⟨w', E.Fr, fun i => if i = id then B else E.bd i, E.H.set id o'⟩ := by
    refine ⟨rfl, hs, ho, ht, hu, fun b hb hno => hk b hb (fun hl e => hno (e ▸ HRel.own_of hid hl)), ?_, by simp, ?_, ?_⟩
    · rintro b hb ⟨j, x, hx, hlx, hbx⟩
      by_cases hj : j = id
      · subst hj
        have := self hx; subst this
        simp at hbx
        rcases hB hlx with ⟨l, e⟩ | e
        · rw [← hbx, e]; exact HRel.own_of hid l
        · omega
      · rw [bd_old hj] at hbx
        exact ⟨j, x, get hx hj, (live_bd (bd_old hj)).1 hlx, hbx⟩
    · intro j ver' sz' rows' hj hx
      by_cases e : j = id
      · subst e
        have := self hx
        obtain ⟨ver, sz, rows, h1, h2, h3⟩ := hC ver' sz' rows' this.symm
        exact ⟨ver, sz, rows, by rw [hid, h1], h2, fun e => by obtain ⟨a, b, c⟩ := h3 e; exact ⟨a, b, by simp [c]⟩⟩
      · exact ⟨ver', sz', rows', get hx e, Nat.le_refl _, fun _ => ⟨rfl, rfl, by simp [e]⟩⟩
    · intro j es' hj hx
      by_cases e : j = id
      · subst e
        have := self hx
        obtain ⟨es, h1, h2⟩ := hM es' this.symm
        exact ⟨es, by rw [hid, h1], by simp [h2]⟩
      · exact ⟨es', get hx e, by simp [e]⟩
  refine ⟨t, fun hn => ⟨?_, ?_, ?_, fun b hb => Nat.lt_of_lt_of_le (h.frlt b hb) hs, h.gl t⟩⟩
  · intro j x hx
    by_cases e : j = id
    · subst e
      have := self hx; subst this
      exact hn
    · have hx' := get hx e
      exact (h.obj j x hx').keep t (bd_old e) (fun hl2 => hk _ (h.lt hx' hl2) (fun hl => h.dist j id x o hx' hid hl2 hl e))
  · intro i j x y hx hy lx ly hij
    by_cases hi : i = id <;> by_cases hj : j = id
    · omega
    · have hy' := get hy hj
      have ly' := (live_bd (bd_old hj)).1 ly
      have h1 := h.lt hy' ly'
      subst hi
      have := self hx; subst this
      rw [bd_old hj]
      simp only [if_true]
      rcases hB lx with ⟨l, e⟩ | e
      · rw [e]; exact h.dist i j o y hid hy' l ly' hij
      · omega
    · have hx' := get hx hi
      have lx' := (live_bd (bd_old hi)).1 lx
      have h1 := h.lt hx' lx'
      subst hj
      have := self hy; subst this
      rw [bd_old hi]
      simp only [if_true]
      rcases hB ly with ⟨l, e⟩ | e
      · rw [e]; exact h.dist i j x o hx' hid lx' l hij
      · omega
    · rw [bd_old hi, bd_old hj]
      exact h.dist i j x y (get hx hi) (get hy hj) ((live_bd (bd_old hi)).1 lx) ((live_bd (bd_old hj)).1 ly) hij
  · intro i x hx lx hf
    by_cases hi : i = id
    · subst hi
      have := self hx; subst this
      simp only [if_true] at hf
      rcases hB lx with ⟨l, e⟩ | e
      · rw [e] at hf; exact h.nofr i o hid l hf
      · have := h.frlt _ hf; omega
    · rw [bd_old hi] at hf
      exact h.nofr i x (get hx hi) ((live_bd (bd_old hi)).1 lx) hf

/-- An own object is given up. -/
theorem kill_obj {E : Env} (h : HRel E) (id : Nat) (E' : Env) (hE : E' = { E with H := E.H.set id .dead }) : Trans E E' ∧ HRel E' := by
  subst hE
  have lv : ∀ {j : Nat} {x : O}, ({ E with H := E.H.set id .dead } : Env).live j x → E.live j x := fun {j x} h => (live_bd (E := E) (E' := { E with H := E.H.set id .dead }) rfl).1 h
  have get : ∀ (j : Nat) (x : O), (E.H.set id .dead)[j]? = some x → E.live j x → E.H[j]? = some x := by
    intro j x hx hl
    rw [List.getElem?_set] at hx
    split at hx
    · split at hx
      · simp at hx; subst hx; exact hl.elim
      · simp at hx
    · exact hx
  have get2 : ∀ (j : Nat) (x : O), (E.H.set id .dead)[j]? = some x → x = .dead ∨ E.H[j]? = some x := by
    intro j x hx
    rw [List.getElem?_set] at hx
    split at hx
    · split at hx
      · simp at hx; exact .inl hx.symm
      · simp at hx
    · exact .inr hx
  have t : Trans E { E with H := E.H.set id .dead } := by
    refine ⟨rfl, Nat.le_refl _, rfl, rfl, rfl, fun _ _ _ => rfl, ?_, by simp, ?_, ?_⟩
    · rintro b hb ⟨j, x, hx, hl, hbx⟩
      exact ⟨j, x, get j x hx (lv hl), lv hl, hbx⟩
    · intro j ver sz rows hj hx
      rcases get2 j _ hx with e | e
      · cases e
      · exact ⟨ver, sz, rows, e, Nat.le_refl _, fun _ => ⟨rfl, rfl, rfl⟩⟩
    · intro j es hj hx
      rcases get2 j _ hx with e | e
      · cases e
      · exact ⟨es, e, rfl⟩
  refine ⟨t, ?_, ?_, ?_, h.frlt, h.gl t⟩
  · intro j x hx
    rcases get2 j x hx with e | e
    · subst e; trivial
    · exact (h.obj j _ e).keep t rfl (fun _ => rfl)
  · intro i j x y hx hy lx ly hij
    exact h.dist i j x y (get i x hx (lv lx)) (get j y hy (lv ly)) (lv lx) (lv ly) hij
  · intro i x hx lx
    exact h.nofr i x (get i x hx (lv lx)) (lv lx)

/-- An empty slice that holds no memory, as an object. -/
theorem seed_obj {E : Env} (h : HRel E) (sz : Nat) (E' : Env) (hE : E' = ⟨E.w, E.Fr, fun i => if i = E.H.length then ⟨0, 0, 0⟩ else E.bd i, E.H ++ [.cells 0 sz []]⟩) :
    Trans E E' ∧ HRel E' ∧ ∀ a, CRel E' (.msl E.H.length 0 0 0) (.slice a 0 0) := by
  obtain ⟨t, hh⟩ := new_obj h E.w ⟨0, 0, 0⟩ (.cells 0 sz []) (Nat.le_refl _) rfl rfl rfl (fun _ _ => rfl) E' hE (by subst hE; simp [Env.live])
  refine ⟨t, hh (by subst hE; exact ⟨Nat.zero_le _, Nat.zero_le _, by simp, fun hc => (hc (by simp)).elim⟩), ?_⟩
  subst hE
  intro a
  refine .msl (by simp) rfl fun cur sz' rows ho => ?_
  simp at ho
  obtain ⟨rfl, rfl, rfl⟩ := ho
  exact ⟨Nat.le_refl _, fun _ => ⟨Nat.le_refl _, Nat.zero_le _, a, 0, rfl, by simp, fun hc => by omega⟩⟩

end Go.Lz
