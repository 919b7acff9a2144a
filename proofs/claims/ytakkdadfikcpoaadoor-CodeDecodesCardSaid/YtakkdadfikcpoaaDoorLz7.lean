/- Lz7: the reckoning of each operation is what the model does (slices made, appended to, copied, cut). -/
import Derived.Test.YtakkdadfikcpoaaDoorLz6
import Derived.Deep.AppendSrc
import Derived.Laws.BytesArg
namespace Go.Lz
set_option linter.unusedVariables false
set_option linter.unusedSimpArgs false

/-- Rows that lie in memory, read cell by cell. -/
theorem rows_fn {E : Env} {rows : List (List C)} {b off s : Nat} (hs : ∀ r ∈ rows, r.length = s)
    (hc : ∀ i j c, at2 rows i j = some c → ∃ v, E.w.cell? ⟨b, off + (i * s + j), none⟩ = some v ∧ CRel E c v) (n : Nat) (hn : n ≤ rows.length) :
    ∃ f : Nat → Value, (∀ m, m < n * s → E.w.cell? ⟨b, off + m, none⟩ = some (f m)) ∧ (∀ i j c, i < n → at2 rows i j = some c → CRel E c (f (i * s + j))) ∧ ∀ m, m < n * s → (f m).oneCell' = true := by
  have key : ∀ m, ∃ v, m < n * s → (E.w.cell? ⟨b, off + m, none⟩ = some v ∧ (∃ c, at2 rows (m / s) (m % s) = some c ∧ CRel E c v)) := by
    intro m
    by_cases hm : m < n * s
    · have hs0 : 0 < s := Nat.pos_of_ne_zero (fun h => by simp [h] at hm)
      have hi : m / s < n := Nat.div_lt_of_lt_mul (by rw [Nat.mul_comm]; exact hm)
      have hj : m % s < s := Nat.mod_lt _ hs0
      have hil : m / s < rows.length := by omega
      have hrl : (rows[m / s]).length = s := hs _ (List.getElem_mem hil)
      have ha : at2 rows (m / s) (m % s) = some (rows[m / s][m % s]'(by rw [hrl]; exact hj)) := at2_some.2 ⟨rows[m / s], by simp [hil], by simp [hrl, hj]⟩
      obtain ⟨v, h1, h2⟩ := hc _ _ _ ha
      refine ⟨v, fun _ => ⟨?_, _, ha, h2⟩⟩
      have : m / s * s + m % s = m := by rw [Nat.mul_comm]; exact Nat.div_add_mod m s
      rw [this] at h1; exact h1
    · exact ⟨undef, fun h => (hm h).elim⟩
  refine ⟨fun m => Classical.choose (key m), fun m hm => (Classical.choose_spec (key m) hm).1, fun i j c hi hij => ?_, fun m hm => ?_⟩
  · obtain ⟨r, hr, hj⟩ := at2_some.1 hij
    have hjs : j < s := by
      have := (List.getElem?_eq_some_iff.1 hj).1
      rw [hs r (List.mem_of_getElem? hr)] at this; exact this
    have hm : i * s + j < n * s := by have := Nat.mul_le_mul_right s hi; rw [Nat.succ_mul] at this; omega
    obtain ⟨_, c', hc', hrel⟩ := Classical.choose_spec (key (i * s + j)) hm
    have h1 : (i * s + j) / s = i := by rw [Nat.mul_comm, Nat.mul_add_div (by omega), Nat.div_eq_of_lt hjs]; rfl
    have h2 : (i * s + j) % s = j := by rw [Nat.mul_comm, Nat.mul_add_mod, Nat.mod_eq_of_lt hjs]
    rw [h1, h2, hij] at hc'
    cases hc'
    exact hrel
  · obtain ⟨_, c', _, hrel⟩ := Classical.choose_spec (key m) hm
    exact hrel.cell

/-- What a source of rows yields. -/
structure SrcOk (P : Program) (E : Env) (s : Nat) (v : Value) (rows : List (List C)) : Prop where
  len : ∀ w', (Builtin.lenOf v).run P w' = .ok rows.length w'
  cells : ∀ n, n ≤ rows.length → ∃ f : Nat → Value, (∀ w', (∀ a, w'.cell? a = E.w.cell? a) → (Builtin.firstCells s n v).run P w' = .ok ((List.range (n * s)).map f).toArray w') ∧
    (∀ i j c, i < n → at2 rows i j = some c → CRel E c (f (i * s + j))) ∧ ∀ m, m < n * s → (f m).oneCell' = true

theorem SrcOk.mem {P : Program} {E : Env} {s : Nat} {rows : List (List C)} {b off cap : Nat} (hs : ∀ r ∈ rows, r.length = s)
    (hc : ∀ i j c, at2 rows i j = some c → ∃ v, E.w.cell? ⟨b, off + (i * s + j), none⟩ = some v ∧ CRel E c v) : SrcOk P E s (.slice (some ⟨b, off, none⟩) rows.length cap) rows := by
  refine ⟨fun _ => rfl, fun n hn => ?_⟩
  obtain ⟨f, h1, h2, h3⟩ := rows_fn hs hc n hn
  refine ⟨f, fun w' hw => ?_, h2, h3⟩
  simp only [Builtin.firstCells]
  exact run_loadCells w' ⟨b, off, none⟩ (n * s) f (fun j hj => by rw [add_off, hw]; exact h1 j hj)

theorem rowsOf_ok {P : Program} {E : Env} (hE : HRel E) {c : C} {v : Value} {rows : List (List C)} {p : Prop} (hc : CRel E c v) (h : rowsOf E.H c = some (rows, p)) (hp : p) {s : Nat} (hs : ∀ r ∈ rows, r.length = s) (hs0 : 0 < s) :
    SrcOk P E s v rows := by
  have imm : CRel E (.sl rows) v → SrcOk P E s v rows := by
    intro hc
    cases hc with
    | @sl _ a n cap vals sz hn hcap hlim hsz hb hv =>
      subst hn
      cases rows with
      | nil =>
        refine ⟨fun _ => rfl, fun n hn => ⟨fun _ => undef, fun w' _ => ?_, by simp [at2], by simp at hn; simp [hn]⟩⟩
        simp at hn; subst hn
        cases a <;> simp [Builtin.firstCells, loadCells, loadCellsFrom]
      | cons r0 rest =>
        obtain ⟨b, off, rfl, hf, hcell⟩ := hb (by simp)
        have e : sz = s := by rw [← hsz r0 (by simp), hs r0 (by simp)]
        subst e
        exact SrcOk.mem hs fun i j c hij => ⟨_, hcell i j c hij, hv i j c hij⟩
  cases c <;> simp only [rowsOf] at h <;> try (cases h; done)
  case sl r => cases h; exact imm hc
  case slf r => cases h; exact imm (slf_inv hc).1
  case str st =>
    cases h
    obtain ⟨b, rfl, hb, hl⟩ := str_inv hc
    have hsz : b.size = st.length := by rw [← hb]; rfl
    refine ⟨fun _ => by simp [Builtin.lenOf, hsz], fun n hn => ?_⟩
    have hn' : n ≤ st.length := by simpa using hn
    rcases Nat.eq_zero_or_pos n with hz | hz
    · subst hz
      refine ⟨fun _ => undef, fun w' _ => ?_, by simp, by simp⟩
      simp [Builtin.firstCells]
    · have hne : st ≠ [] := by intro e; simp [e] at hn'; omega
      have e1 : s = 1 := by
        cases st with
        | nil => exact (hne rfl).elim
        | cons x r => have := hs [.int .u8 x.toNat] (by simp); simp at this; omega
      subst e1
      refine ⟨fun m => .int .u8 (st.getD m 0).toNat, fun w' _ => ?_, ?_, fun m _ => rfl⟩
      · simp only [Builtin.firstCells, Sem.run_pure, Nat.mul_one]
        congr 1
        apply Array.ext'
        apply List.ext_getElem?
        intro m
        have hd : (b.extract 0 n).data.toList = st.take n := by rw [← hb]; simp [ByteArray.data_extract]
        simp only [Array.toList_map, List.getElem?_map, hd, List.getElem?_take, List.getElem?_range]
        by_cases hm : m < n
        · have hml : m < st.length := by omega
          simp [hm, hml]
        · simp [hm]
      · intro i j c hi hij
        obtain ⟨r, hr, hj⟩ := at2_some.1 hij
        simp only [List.getElem?_map, Option.map_eq_some_iff] at hr
        obtain ⟨x, hx, rfl⟩ := hr
        cases j with
        | zero =>
          simp at hj; subst hj
          simp [hx]
          refine .int ?_
          have := x.toNat_lt
          simp [IntKind.min, IntKind.max, IntKind.signed, IntKind.bits]; omega
        | succ j => simp at hj
  case msl id ver lo hi =>
    split at h
    · rename_i cur sz rws ho
      cases h
      obtain ⟨hlo, hhi, a, cap, rfl, hcap, ha⟩ := msl_inv hc ho hp
      obtain ⟨h3, h4, h5, h6⟩ := hE.obj id _ ho
      have hlen : ((rws.take hi).drop lo).length = hi - lo := by simp; omega
      by_cases hz : hi - lo = 0
      · have hnil : (rws.take hi).drop lo = [] := List.eq_nil_of_length_eq_zero (by omega)
        rw [hnil, hz]
        refine ⟨fun _ => rfl, fun n hn => ⟨fun _ => undef, fun w' _ => ?_, by simp [at2], by simp at hn; simp [hn]⟩⟩
        simp at hn; subst hn
        cases a <;> simp [Builtin.firstCells, loadCells, loadCellsFrom]
      · have hc0 : 0 < cap := by omega
        have ha' := ha hc0
        subst ha'
        obtain ⟨arr, ty, h1, h2, h6⟩ := h6 (by omega)
        have hmem : ∀ r ∈ (rws.take hi).drop lo, r ∈ rws := fun r hr => List.mem_of_mem_take (List.mem_of_mem_drop hr)
        have e : sz = s := by
          have hne : (rws.take hi).drop lo ≠ [] := by intro e; simp [e] at hlen; omega
          obtain ⟨r, hr⟩ := List.exists_mem_of_ne_nil _ hne
          rw [← h5 r (hmem r hr), hs r hr]
        subst e
        have key : ∀ i j c, at2 ((rws.take hi).drop lo) i j = some c → at2 rws (lo + i) j = some c := by
          intro i j c hij
          obtain ⟨r, hr, hj⟩ := at2_some.1 hij
          rw [List.getElem?_drop, List.getElem?_take] at hr
          split at hr
          · exact at2_some.2 ⟨r, hr, hj⟩
          · cases hr
        have := SrcOk.mem (P := P) (E := E) (s := sz) (rows := (rws.take hi).drop lo) (b := (E.bd id).blk) (off := (E.bd id).off + lo * sz) (cap := cap) hs
          (fun i j c hij => by
            obtain ⟨v, hv, hr⟩ := h6 _ _ _ (key i j c hij)
            refine ⟨v, ?_, hr⟩
            rw [h1.cell?]
            rw [Nat.add_mul] at hv
            simpa [Nat.add_assoc] using hv)
        rw [hlen] at this
        exact this
    · cases h

theorem rowsOf_lim {E : Env} (hE : HRel E) {c : C} {v : Value} {rows : List (List C)} {p : Prop} (hc : CRel E c v) (h : rowsOf E.H c = some (rows, p)) (hp : p) : rows.length ≤ lim := by
  cases c <;> simp only [rowsOf] at h <;> try (cases h; done)
  case sl r => cases h; obtain ⟨_, _, _, _, h⟩ := sl_inv hc; exact h
  case slf r => cases h; obtain ⟨_, _, _, _, h⟩ := sl_inv (slf_inv hc).1; exact h
  case str st => cases h; obtain ⟨_, _, _, h⟩ := str_inv hc; simpa using h
  case msl id ver lo hi =>
    split at h
    · rename_i cur sz rws ho
      cases h
      have hl := (hE.obj id _ ho).2.1
      simp only [List.length_drop, List.length_take]
      omega
    · cases h

def rowNum : List C → Int
  | [.int .u8 n] => n
  | _ => 0
theorem byteRow_spec {r : List C} (h : byteRow r = true) : r = [.int .u8 (rowNum r)] ∧ rowByte r = UInt8.ofNat (rowNum r).toNat := by
  unfold byteRow at h
  split at h
  · exact ⟨rfl, rfl⟩
  · cases h

theorem bytesConvF_ok {P : Program} {E : Env} (hE : HRel E) {s d : TypeId} {c : C} {v : Value} (hx : CRel E c v) (hv : (∃ a l cap, v = .slice a l cap) ∨ ∃ id ver lo hi, c = .msl id ver lo hi) : Good P E (convert s d v) (bytesConvF P s d c E.H) := by
  unfold bytesConvF
  split
  · rename_i e rows p hs hd hr
    split
    · rename_i he
      rintro ⟨hp, hb⟩
      have hb' : ∀ r ∈ rows, byteRow r = true := List.all_eq_true.1 hb
      have hlen1 : ∀ r ∈ rows, r.length = 1 := fun r hr => by rw [(byteRow_spec (hb' r hr)).1]; rfl
      have src := rowsOf_ok (P := P) hE hx hr hp hlen1 (by omega)
      have hl := rowsOf_lim hE hx hr hp
      have hsl : ∃ a l cap, v = .slice a l cap := by
        rcases hv with h | ⟨id, ver, lo, hi, rfl⟩
        · exact h
        · simp only [rowsOf] at hr
          split at hr
          · rename_i cur sz rws ho
            cases hr
            obtain ⟨_, _, a, cap, h, _⟩ := msl_inv hx ho hp; exact ⟨_, _, _, h⟩
          · cases hr
      obtain ⟨a, l, cap, rfl⟩ := hsl
      obtain ⟨f, h1, h2, h3⟩ := src.cells rows.length (Nat.le_refl _)
      have hf : (List.range (rows.length * 1)).map f = (rows.map rowNum).map (Value.int .u8) := by
        apply List.ext_getElem?
        intro i
        simp only [List.getElem?_map, Nat.mul_one]
        rcases Nat.lt_or_ge i rows.length with hi | hi
        · have hr : rows[i]? = some rows[i] := by simp [hi]
          have hrow := (byteRow_spec (hb' rows[i] (List.getElem_mem hi))).1
          have h2' := h2 i 0 (.int .u8 (rowNum rows[i])) hi (at2_some.2 ⟨rows[i], hr, by rw [hrow]; rfl⟩)
          have e := (int_inv h2').1
          simp only [Nat.mul_one, Nat.add_zero] at e
          rw [hr]
          simp [List.getElem?_range hi, e]
        · simp [List.getElem?_eq_none, hi]
      have hstr : (List.map rowByte rows) = (rows.map rowNum).map fun n => UInt8.ofNat n.toNat := by
        rw [List.map_map]
        exact List.map_congr_left fun r hr => (byteRow_spec (hb' r hr)).2
      have hcells := h1 E.w (fun _ => rfl)
      rw [hf] at hcells
      have hll : l = rows.length := by
        have := src.len E.w
        simp only [Builtin.lenOf] at this
        have e := (Result.ok.inj this).1
        omega
      refine ⟨trivial, .string (strOfNums (rows.map rowNum)), E, ?_, rfl, ?_, hE, Trans.refl E⟩
      · cases a with
        | none =>
          rw [run_convert_bytes_nil E.w s e hs he l cap d hd]
          simp only [Builtin.firstCells, Sem.run_pure] at hcells
          have e2 := (Result.ok.inj hcells).1
          have e3 : (rows.map rowNum) = [] := by
            have := congrArg Array.size e2
            simp at this
            simp [List.eq_nil_of_length_eq_zero this.symm]
          rw [e3]; rfl
        | some ad =>
          simp only [Builtin.firstCells, Nat.mul_one] at hcells
          rw [hll, run_convert_bytes_string E.w s d e _ rows.length cap hs he hd, run_bytesToString E.w ad rows.length cap _ hcells, foldl_push_bytes]
          simp [strOfNums, ByteArray.empty, ByteArray.emptyWithCapacity]
          rfl
      · refine .one (.str ?_ (by simpa using hl))
        rw [strOfNums_data, hstr]
    · exact fun hp => hp.elim
  · exact fun hp => hp.elim

theorem freeze_at (w : World) (b k : Nat) {arr : Array Value} {ty : TypeId} {fz : Nat × Nat} (h : w.heap[b]? = some (.cells arr ty fz)) : (w.freeze ⟨b, k, none⟩ 1).heap[b]? = some (.cells arr ty (if fz.1 == fz.2 then (k, k + 1) else (min fz.1 k, max fz.2 (k + 1)))) := by
  unfold World.freeze
  rw [if_neg (by decide)]
  simp only [Array.getElem?_modify, if_true, h, Option.map_some]
theorem freeze_other (w : World) (b k i : Nat) (h : i ≠ b) : (w.freeze ⟨b, k, none⟩ 1).heap[i]? = w.heap[i]? := by
  unfold World.freeze
  rw [if_neg (by decide)]
  simp [Array.getElem?_modify, Ne.symm h]
theorem set_same {α : Type} {l : List α} {i : Nat} {x : α} (h : l[i]? = some x) : l.set i x = l := by
  apply List.ext_getElem?
  intro j
  rw [List.getElem?_set]
  split
  · rename_i e; subst e
    have := (List.getElem?_eq_some_iff.1 h).1
    simp [this]
    exact ((List.getElem?_eq_some_iff.1 h).2).symm
  · rfl
theorem mslConvF_ok {P : Program} {E : Env} (hE : HRel E) {s d : TypeId} {id ver lo hi : Nat} {v : Value} (hx : CRel E (.msl id ver lo hi) v) : Good P E (convert s d v) (mslConvF P s d id ver lo hi E.H) := by
  unfold mslConvF
  split
  · exact bytesConvF_ok hE hx (.inr ⟨_, _, _, _, rfl⟩)
  · rename_i e hd
    split
    · rename_i cur sz rows he ho hs
      have hsd : s = d := by simpa using hs
      subst hsd
      rintro ⟨hv, hlo, hr⟩
      subst hlo
      obtain ⟨_, h2, a, cap, rfl, hcap, ha⟩ := msl_inv hx ho hv
      obtain ⟨h3, h4, h5, h6⟩ := hE.obj id _ ho
      have hc0 : (E.bd id).cap ≠ 0 := by omega
      have hlive : E.live id (.cells cur sz rows) := hc0
      obtain ⟨arr, ty, g1, g2, g3⟩ := h6 hc0
      obtain ⟨fz, gh, gf⟩ := g1
      have haa := ha (by omega)
      subst haa
      let w' := E.w.freeze ⟨(E.bd id).blk, arr.size, none⟩ 1
      have hsz : w'.heap.size = E.w.heap.size := by
        show (E.w.freeze _ 1).heap.size = _
        unfold World.freeze
        rw [if_neg (by decide)]
        simp
      have hw : ∀ f : World → Type, True := fun _ => trivial
      have hos : w'.os = E.w.os ∧ w'.tape = E.w.tape ∧ w'.output = E.w.output := by
        show (E.w.freeze _ 1).os = _ ∧ (E.w.freeze _ 1).tape = _ ∧ (E.w.freeze _ 1).output = _
        unfold World.freeze
        rw [if_neg (by decide)]
        exact ⟨rfl, rfl, rfl⟩
      obtain ⟨t, hh⟩ := upd_obj hE id (.cells cur sz rows) (.cells cur sz rows) w' (E.bd id) ho (by omega) hos.1 hos.2.1 hos.2.2
        (fun b hb hne => freeze_other E.w _ _ b (hne hlive))
        (fun ver' sz' rows' e => by cases e; exact ⟨cur, sz, rows, rfl, Nat.le_refl _, fun _ => ⟨rfl, rfl, rfl⟩⟩) (fun es' e => by cases e) _ rfl (fun _ => .inl ⟨hlive, rfl⟩)
      have hrow : RowAt w' (E.bd id).blk arr ty := by
        refine ⟨_, freeze_at E.w _ arr.size gh, .inr ?_⟩
        rcases gf with rfl | gf
        · simp
        · split
          · simp
          · simp only [Nat.le_min]; omega
      have hH : E.H.set id (.cells cur sz rows) = E.H := set_same ho
      have hE' := hh ⟨by simpa using h3, h4, h5, fun _ => ⟨arr, ty, by simp only [if_true]; exact hrow, by simp only [if_true]; exact g2, fun i j c hij => by
        obtain ⟨v, hv, hc⟩ := g3 i j c hij
        simp only [if_true]
        exact ⟨v, hv, hc.trans t⟩⟩⟩
      refine ⟨trivial, _, _, ?_, hH, (VRel.one hx).trans t, hE', t⟩
      have hsh : E.w.shape? (E.bd id).blk = some (ty, arr.size) := by unfold World.shape?; rw [gh]
      simp [convert, run_underlying hd, run_underlying he, markStringish, hsh]
      rfl
    · exact fun hp => hp.elim
  · exact fun hp => hp.elim
theorem convF_ok {P : Program} {E : Env} (hE : HRel E) {s d : TypeId} {x : V} {vx : Value} (hx : VRel E x vx) : Good P E (convert s d vx) (convF P s d x E.H) := by
  unfold convF
  split
  · obtain ⟨rfl, h⟩ := int_inv (one_inv hx)
    split
    · rename_i k hk
      split
      · rename_i hs
        obtain ⟨u, hu⟩ := Option.isSome_iff_exists.1 hs
        refine .ok hE ⟨_, ?_, .one (.int (wrap_in k _))⟩
        simp [convert, run_underlying hu, run_underlying (tK_spec hk), Conv.intToInt]
      · exact .bad
    · exact .bad
  · exact strConvF_ok hE (one_inv hx)
  · obtain ⟨a, cap, h, _⟩ := sl_inv (one_inv hx)
    exact bytesConvF_ok hE (one_inv hx) (.inl ⟨_, _, _, h⟩)
  · obtain ⟨a, cap, h, _⟩ := sl_inv (slf_inv (one_inv hx)).1
    exact bytesConvF_ok hE (one_inv hx) (.inl ⟨_, _, _, h⟩)
  · exact mslConvF_ok hE (one_inv hx)
  · exact .bad

theorem vs_zero {P : Program} {E : Env} {e : TypeId} {z : V} {zs : List C} (hz : tZ P e = some z) (hcs : z.cs = some zs) :
    ∃ i zv, P.info? e = some i ∧ i.zero = some zv ∧ zv.cells.size = zs.length ∧ ∀ (E : Env) (j : Nat) (c : C), zs[j]? = some c → ∃ y, zv.cells[j]? = some y ∧ CRel E c y := by
  obtain ⟨i, zv, hi, hzv, rfl⟩ := tZ_spec hz
  exact ⟨i, zv, hi, hzv, ((V.ofV_rel E zv).cells hcs).1, fun E => ((V.ofV_rel E zv).cells hcs).2⟩

/-- A new object of many rows. -/
theorem new_rows {E : Env} (hE : HRel E) {w1 : World} (hs : E.w.heap.size = w1.heap.size) (ho : w1.os = E.w.os) (ht : w1.tape = E.w.tape) (hu : w1.output = E.w.output) (hk : ∀ b, b < E.w.heap.size → w1.heap[b]? = E.w.heap[b]?)
    {arr : Array Value} {ty : TypeId} {s n cap : Nat} {rows : List (List C)} (hrl : rows.length = n) (hcap : n ≤ cap) (harr : cap * s ≤ arr.size) (hlim : n ≤ lim) (hrs : ∀ r ∈ rows, r.length = s)
    (hrel : ∀ i j c, at2 rows i j = some c → ∃ v, arr[i * s + j]? = some v ∧ CRel E c v) :
    ∃ E', E'.w = w1.alloc (.cells arr ty) ∧ E'.H = E.H ++ [.cells 0 s rows] ∧ VRel E' (.one (.msl E.H.length 0 0 n)) (.slice (some ⟨E.w.heap.size, 0, none⟩) n cap) ∧ HRel E' ∧ Trans E E' := by
  obtain ⟨t, hh⟩ := new_obj hE (w1.alloc (.cells arr ty)) ⟨E.w.heap.size, 0, cap⟩ (.cells 0 s rows) (by simp [hs]) ho ht hu
    (fun b hb => (heap_alloc_old w1 _ b (by omega)).trans (hk b hb)) _ rfl (fun _ => Nat.le_refl _)
  refine ⟨_, rfl, rfl, ?_, hh ?_, t⟩
  · refine .one (.msl (by simp) rfl fun cur sz rows' ho => ?_)
    simp at ho
    obtain ⟨rfl, rfl, rfl⟩ := ho
    exact ⟨Nat.le_refl _, fun _ => ⟨Nat.zero_le _, by omega, _, cap, rfl, by simp, fun _ => by simp⟩⟩
  · refine ⟨?_, ?_, hrs, fun _ => ⟨arr, ty, ?_, ?_, ?_⟩⟩
    · simpa [hrl] using hcap
    · omega
    · simp only [if_true, hs]; exact RowAt.mk0 (heap_alloc_new w1 _)
    · simpa using harr
    · intro i j c hij
      obtain ⟨v, hv, hr⟩ := hrel i j c hij
      exact ⟨v, by simpa using hv, hr.trans t⟩

theorem made_get (z : Array Value) (n m : Nat) (h : m < n) (hz : 0 < z.size) : (madeCells z n)[m]? = z[m % z.size]? := by
  have hlt : m % z.size < z.size := Nat.mod_lt _ hz
  simp [madeCells, h, hlt]

theorem repl_rel {E : Env} {zs : List C} {zc : Array Value} (hz : zc.size = zs.length) (hrel : ∀ (j : Nat) (c : C), zs[j]? = some c → ∃ y, zc[j]? = some y ∧ CRel E c y) (n k : Nat) (hnk : n ≤ k) :
    ∀ i j c, at2 (List.replicate n zs) i j = some c → ∃ v, (madeCells zc (k * zs.length))[i * zs.length + j]? = some v ∧ CRel E c v := by
  intro i j c hij
  obtain ⟨r, hr, hj⟩ := at2_some.1 hij
  rw [List.getElem?_replicate] at hr
  split at hr
  · rename_i hi
    simp at hr; subst hr
    have hjs : j < zs.length := (List.getElem?_eq_some_iff.1 hj).1
    have hlt : i * zs.length + j < k * zs.length := by
      have := Nat.mul_le_mul_right zs.length (show i + 1 ≤ k by omega); rw [Nat.succ_mul] at this; omega
    rw [made_get _ _ _ hlt (by omega), hz, Nat.mul_comm i, Nat.mul_add_mod, Nat.mod_eq_of_lt hjs]
    exact hrel j c hj
  · cases hr

theorem makeSliceF_ok {P : Program} {E : Env} (hE : HRel E) {t : TypeId} {l c : V} {vl vc : Value} (hl : VRel E l vl) (hc : VRel E c vc) : Good P E (Instr.makeSlice t vl vc) (makeSliceF P t l c E.H) := by
  unfold makeSliceF
  split
  · rename_i kl l kc c e s b ht
    obtain ⟨rfl, _⟩ := int_inv (one_inv hl)
    obtain ⟨rfl, _⟩ := int_inv (one_inv hc)
    obtain ⟨ie, hu, hie, hs, hb⟩ := tSl_spec ht
    split
    · rename_i z hz
      split
      · rename_i zs hzs
        rintro ⟨h0, h1, h2, h3, h4⟩
        refine ⟨trivial, ?_⟩
        obtain ⟨i, zv, hi, hzv, hsz, hrel⟩ := vs_zero (P := P) (E := E) hz hzs
        rw [hie] at hi; cases hi
        have hlim : c ≤ 281474976710656 := by simpa [lim] using h3
        have hrun := run_make (P := P) E.w t e ie zv hu hie hzv kl kc l c h0 h1 (by rw [hb]; exact h2) (by omega)
        have hcl : l.toNat ≤ c.toNat := by omega
        obtain ⟨E', hw, hH, hv, hh, tr⟩ := new_rows hE (w1 := E.w) rfl rfl rfl rfl (fun _ _ => rfl) (arr := madeCells zv.cells (c.toNat * ie.size)) (ty := e) (s := s) (n := l.toNat) (cap := c.toNat)
          (rows := List.replicate l.toNat zs) (by simp) hcl (by simp [size_madeCells, hs]) (by simp [lim]; omega) (fun r hr => by rw [List.eq_of_mem_replicate hr, h4])
          (fun i j c' hij => by
            have := repl_rel (E := E) hsz (hrel E) l.toNat c.toNat hcl i j c' hij
            rw [h4] at this
            rw [hs]; exact this)
        exact ⟨_, E', by rw [hw]; exact hrun, hH, hv, hh, tr⟩
      · exact .bad
    · exact .bad
  · exact .bad

open Go.Lib in
theorem convZ_ok {P : Program} {E : Env} (hE : HRel E) {z : Bool} {s d : TypeId} {x : V} {vx : Value} (hx : VRel E x vx) : Good P E (convert s d vx) (convZ P z s d x E.H) := by
  unfold convZ
  cases z with
  | false => exact convF_ok hE hx
  | true =>
    simp only
    split
    case h_2 => exact .bad
    rename_i b
    have hx := one_inv hx
    cases hx with
    | @str _ ba hb hl =>
    split
    case h_2 => exact .bad
    rename_i u e hs hd
    split
    case h_2 => exact .bad
    rename_i he
    intro _
    have hsz : ba.size = b.length := by show ba.data.size = b.length; rw [← hb, Array.length_toList]
    have hcut : ba.size ≤ grownCap E.w ba.size 0 e := grownCap_ge E.w ba.size 0 e
    obtain ⟨t, hh⟩ := grow_world hE (bytesWorld E.w e ba) (by rw [bytesWorld_size]; omega) rfl rfl rfl (fun i hi => bytesWorld_at_old E.w e ba i hi)
    have hrow : ∀ i j c, at2 (strRows b) i j = some c → ∃ x : UInt8, b[i]? = some x ∧ j = 0 ∧ c = .int .u8 (x.toNat : Int) := by
      intro i j c hij
      obtain ⟨r, hr, hj⟩ := at2_some.1 hij
      simp only [strRows, sBytes, List.map_map, List.getElem?_map, Option.map_eq_some_iff, Function.comp_def] at hr
      obtain ⟨x, hx, rfl⟩ := hr
      have hj0 : j = 0 := by
        have := (List.getElem?_eq_some_iff.1 hj).1; simp at this; omega
      subst hj0
      simp at hj
      exact ⟨x, hx, rfl, hj.symm⟩
    have hlen : (strRows b).length = b.length := by simp [strRows, sBytes]
    refine ⟨trivial, _, { E with w := bytesWorld E.w e ba }, run_convert_string_bytes E.w s d e ba hs hd he, rfl, .one (.sl (fun i _ => .int .u8 ((b.getD i 0).toNat : Int)) 1 (by rw [hlen, hsz]) (by rw [hlen, ← hsz]; exact hcut) (by rw [hlen]; exact hl) ?_ ?_ ?_), hh, t⟩
    · intro r hr; obtain ⟨x, _, rfl⟩ := List.mem_map.1 hr; rfl
    · intro _
      refine ⟨E.w.heap.size, 0, rfl, ⟨?_, ?_, ?_⟩, ?_⟩
      · show _ < (bytesWorld E.w e ba).heap.size
        rw [bytesWorld_size]; omega
      · intro h; have := hE.frlt _ h; omega
      · rintro ⟨i, o, h1, h2, h3⟩
        have := hE.own_lt ⟨i, o, h1, (live_bd (E := E) (E' := { E with w := bytesWorld E.w e ba }) rfl).1 h2, h3⟩
        omega
      · intro i j c hij
        obtain ⟨x, hx, rfl, rfl⟩ := hrow i j c hij
        have hR : RowAt (bytesWorld E.w e ba) E.w.heap.size (bytesCells E.w e ba) e := ⟨_, bytesWorld_at_new E.w e ba, .inr (Nat.le_refl _)⟩
        show (bytesWorld E.w e ba).cell? _ = _
        rw [hR.cell?]
        have hd : ba.data[i]? = some x := by rw [← Array.getElem?_toList, hb]; exact hx
        have hlt : i < ba.data.size := (Array.getElem?_eq_some_iff.1 hd).1
        have hs' : i < ba.size := hlt
        have h2 := (Array.getElem?_eq_some_iff.1 hd).2
        have h3 : b.getD i 0 = x := by simp [List.getD_eq_getElem?_getD, hx]
        rw [h3]
        simp [bytesCells, Array.getElem?_append, hs']
        exact congrArg (fun y : UInt8 => (y.toNat : Int)) h2
    · intro i j c hij
      obtain ⟨x, hx, rfl, rfl⟩ := hrow i j c hij
      have h3 : b.getD i 0 = x := by simp [List.getD_eq_getElem?_getD, hx]
      simp only [h3]
      refine .int ?_
      have := x.toNat_lt
      simp [IntKind.min, IntKind.max, IntKind.signed, IntKind.bits]; omega
end Go.Lz
