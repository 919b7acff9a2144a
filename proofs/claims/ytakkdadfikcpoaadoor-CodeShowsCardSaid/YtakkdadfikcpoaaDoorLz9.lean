/- Lz9: the reckoning of each operation is what the model does (append, copy, literals). -/
import Derived.Test.YtakkdadfikcpoaaDoorLz8
namespace Go.Lz
set_option linter.unusedVariables false
set_option linter.unusedSimpArgs false

theorem nat_in (n : Nat) (h : n ≤ 281474976710656) : IntKind.i64.min ≤ (n : Int) ∧ (n : Int) ≤ IntKind.i64.max := by
  simp [IntKind.min, IntKind.max, IntKind.signed, IntKind.bits]; omega

theorem txKind {P : Program} {tx : TypeId} (h : ((tSl P tx).isSome || tIsStr P tx) = true) : (∃ e', P.underlying tx = some (.slice e')) ∨ P.underlying tx = some .string := by
  rw [Bool.or_eq_true] at h
  rcases h with h | h
  · obtain ⟨⟨e, s, b⟩, hp⟩ := Option.isSome_iff_exists.1 h
    obtain ⟨i, hu, _⟩ := tSl_spec hp
    exact .inl ⟨e, hu⟩
  · exact .inr (tIsStr_spec h)

/-- The cells of a row, then of another, then zeros. -/
theorem grown_rel {E : Env} {old new : List (List C)} {olds news : List Value} {s : Nat} {z : Array Value} (k : Nat) (ho : olds.length = old.length * s) (hso : ∀ r ∈ old, r.length = s) (hsn : ∀ r ∈ new, r.length = s) (hn : news.length = new.length * s)
    (h1 : ∀ i j c, at2 old i j = some c → ∃ y, olds[i * s + j]? = some y ∧ CRel E c y) (h2 : ∀ i j c, at2 new i j = some c → j < s → ∃ y, news[i * s + j]? = some y ∧ CRel E c y) :
    ∀ i j c, at2 (old ++ new) i j = some c → ∃ v, ((olds ++ news).toArray ++ z)[i * s + j]? = some v ∧ CRel E c v := by
  intro i j c hij
  rcases at2_append hij with ⟨hi, h⟩ | ⟨hi, h⟩
  · obtain ⟨_, hj⟩ := at2_lt h hso
    obtain ⟨y, hy, hr⟩ := h1 i j c h
    have hlt := mul_lt_of hi hj
    refine ⟨y, ?_, hr⟩
    rw [Array.getElem?_append_left (by simp; omega)]
    simpa [List.getElem?_append_left (show i * s + j < olds.length by omega)] using hy
  · obtain ⟨hi2, hj⟩ := at2_lt h hsn
    obtain ⟨y, hy, hr⟩ := h2 _ j c h hj
    have hlt := mul_lt_of hi2 hj
    have e : i * s + j = old.length * s + ((i - old.length) * s + j) := by
      have : i = old.length + (i - old.length) := by omega
      rw [← Nat.add_assoc, ← Nat.add_mul, ← this]
    refine ⟨y, ?_, hr⟩
    rw [Array.getElem?_append_left (by simp; omega), e]
    simp only [List.getElem?_toArray]
    rw [List.getElem?_append_right (by omega), ho, Nat.add_sub_cancel_left]
    exact hy

theorem appendF_ok {P : Program} {E : Env} (hE : HRel E) {ts : Array TypeId} {ty : TypeId} {sx x : V} {vs vx : Value} (hs : VRel E sx vs) (hx : VRel E x vx) : Good P E (Builtin.append_ ts ty #[vs, vx]) (appendF P ts sx x E.H) := by
  unfold appendF
  split
  case h_2 => exact .bad
  rename_i t tx h0 h1
  split
  case h_2 => exact .bad
  rename_i e sz b xc ht hk
  split
  case h_2 => exact .bad
  rename_i z new p hz hrow
  split
  case h_2 => exact .bad
  rename_i zs hzs
  obtain ⟨ie, hu, hie, hsz, hby⟩ := tSl_spec ht
  obtain ⟨i, zv, hi, hzv, hzsz, hzrel⟩ := vs_zero (P := P) (E := E) hz hzs
  rw [hie] at hi; cases hi
  have hkind := txKind hk
  have hts : Builtin.append_ ts ty #[vs, vx] = Builtin.append_ #[t, tx] ty #[vs, vx] := by simp only [Builtin.append_, h0, h1]; rfl
  rw [hts]
  have hxr := one_inv hx
  split
  · -- onto a slice without spare room
    rename_i old
    split
    · -- nothing is appended
      rename_i hem
      have hnew : new = [] := List.isEmpty_iff.1 hem
      rintro ⟨hp, hzl, hs0⟩
      refine ⟨trivial, ?_⟩
      have src := rowsOf_ok (P := P) hE hxr hrow hp (by subst hnew; simp) hs0
      obtain ⟨news, hsrc, hnews⟩ := srcOf src hkind
      obtain ⟨hsl, a, rfl⟩ := slf_inv (one_inv hs)
      have hnn : news = [] := List.eq_nil_of_length_eq_zero (by rw [hsrc.newsLen, hnew]; simp)
      subst hnn
      subst hsz
      have hm : new.length = 0 := by simp [hnew]
      have hcc := hsrc.cells
      have hcl := hsrc.len
      rw [hm] at hcc hcl
      have hrun : (Builtin.append_ #[t, tx] ty #[.slice a old.length old.length, vx]).run P E.w = .ok (.slice a old.length old.length) E.w := by
        rcases hkind with ⟨e', hk'⟩ | hk' <;> cases a <;> simp [Builtin.append_, run_underlying hu, run_underlying hk', sizeOf, typeInfo, hie, hcl, hcc, storeCells]
      exact ⟨_, E, hrun, rfl, hs, hE, Trans.refl E⟩
    rename_i hem
    have hne : new ≠ [] := fun h => by rw [h] at hem; simp at hem
    rintro ⟨hp, hbytes, hlim, hzl, hs0, hsn, hso⟩
    refine ⟨trivial, ?_⟩
    have src := rowsOf_ok (P := P) hE hxr hrow hp hsn hs0
    obtain ⟨news, hsrc, hnews⟩ := srcOf src hkind
    obtain ⟨hsl, a, rfl⟩ := slf_inv (one_inv hs)
    have osrc := rowsOf_ok (P := P) hE (one_inv hs) (show rowsOf E.H (.slf old) = some (old, True) from rfl) trivial hso hs0
    obtain ⟨f, hf1, hf2, hf3⟩ := osrc.cells old.length (Nat.le_refl _)
    have hnl : 0 < new.length := List.length_pos_iff.2 hne
    subst hsz
    subst hby
    have hlim' : old.length + new.length ≤ 281474976710656 := hlim
    have hrun := run_append_grow_src (P := P) E.w t tx ty e ie zv hu hie hzv a old.length old.length ((List.range (old.length * ie.size)).map f)
      (hf1 E.w.drew (fun _ => rfl)) vx new.length news hsrc (by omega) (by omega) (growslice_fits (by omega) hbytes)
    have hcap := grownCap_ge E.w (old.length + new.length) old.length e
    obtain ⟨E', hw, hH, hv, hh, tr⟩ := new_rows hE (w1 := E.w.drew) rfl rfl rfl rfl (fun _ _ => rfl)
      (arr := (((List.range (old.length * ie.size)).map f) ++ news).toArray ++ Builtin.zeroCells zv.cells (grownCap E.w (old.length + new.length) old.length e - (old.length + new.length))) (ty := e) (s := ie.size)
      (n := old.length + new.length) (cap := grownCap E.w (old.length + new.length) old.length e) (rows := old ++ new) (by simp) hcap
      (by
        simp only [Array.size_append, List.size_toArray, List.length_append, List.length_map, List.length_range, size_zeroCells, hzsz, hzl, hsrc.newsLen]
        rw [← Nat.add_mul, ← Nat.add_mul]
        exact Nat.mul_le_mul_right _ (by omega))
      hlim (by intro r hr; rcases List.mem_append.1 hr with h | h; exact hso r h; exact hsn r h)
      (grown_rel 0 (by simp) hso hsn hsrc.newsLen
        (fun i j c hij => by
          obtain ⟨hi, hj⟩ := at2_lt hij hso
          exact ⟨f (i * ie.size + j), by simp [mul_lt_of hi hj], hf2 i j c hi hij⟩) hnews)
    exact ⟨_, E', by rw [hw]; exact hrun, hH, hv, hh, tr⟩
  · -- onto an own slice
    rename_i id ver lo hi
    split
    case h_2 => exact .bad
    rename_i cur sz' rows ho
    rintro ⟨hp, hver, hhi, hsz', hbytes, hlim, hzl, hs0, hsn⟩
    subst hsz'
    have src := rowsOf_ok (P := P) hE hxr hrow hp hsn hs0
    obtain ⟨news, hsrc, hnews⟩ := srcOf src hkind
    obtain ⟨hlo, _, a, cap, rfl, hcap, ha⟩ := msl_inv (one_inv hs) ho hver
    obtain ⟨g3, g4, g5, g7⟩ := hE.obj id _ ho
    refine ⟨hlo, ?_⟩
    subst hsz
    subst hby
    subst hhi
    have hlim' : rows.length - lo + new.length ≤ 281474976710656 := hlim
    have hdl : (rows.drop lo).length = rows.length - lo := by simp
    have hdrop : ∀ i j c, at2 (rows.drop lo) i j = some c → at2 rows (lo + i) j = some c := by
      intro i j c hij
      obtain ⟨r, hr, hj⟩ := at2_some.1 hij
      rw [List.getElem?_drop] at hr
      exact at2_some.2 ⟨r, hr, hj⟩
    have hso : ∀ r ∈ rows.drop lo, r.length = ie.size := fun r hr => g5 r (List.mem_of_mem_drop hr)
    have hall : ∀ r ∈ rows.drop lo ++ new, r.length = ie.size := by intro r hr; rcases List.mem_append.1 hr with h | h; exact hso r h; exact hsn r h
    by_cases hroom : rows.length - lo + new.length ≤ cap
    · by_cases hm : new.length = 0
      · -- nothing is appended
        have hnn : news = [] := List.eq_nil_of_length_eq_zero (by rw [hsrc.newsLen, hm]; simp)
        have hnew : new = [] := List.eq_nil_of_length_eq_zero hm
        subst hnn
        have hrun : (Builtin.append_ #[t, tx] ty #[.slice a (rows.length - lo) cap, vx]).run P E.w = .ok (.slice a (rows.length - lo + new.length) cap) E.w := by
          rcases hkind with ⟨e', hk'⟩ | hk' <;> cases a <;> simp [Builtin.append_, run_underlying hu, run_underlying hk', sizeOf, typeInfo, hie, hsrc.len, hroom, hsrc.cells, storeCells]
        obtain ⟨tr, hh⟩ := upd_obj hE id _ (.cells (cur + 1) ie.size (rows.drop lo ++ new)) E.w ⟨(E.bd id).blk, (E.bd id).off + lo * ie.size, cap⟩ ho (Nat.le_refl _) rfl rfl rfl (fun _ _ _ => rfl)
          (fun ver' sz' rows' e => by cases e; exact ⟨cur, ie.size, rows, rfl, by omega, fun h => by omega⟩) (fun es' e => by cases e) _ rfl
          (fun hl => .inl ⟨by simp only [Env.live, if_true] at hl; show (E.bd id).cap ≠ 0; omega, rfl⟩)
        refine ⟨_, ⟨E.w, E.Fr, fun i => if i = id then ⟨(E.bd id).blk, (E.bd id).off + lo * ie.size, cap⟩ else E.bd i, E.H.set id (.cells (cur + 1) ie.size (rows.drop lo ++ new))⟩, hrun, rfl, ?_, hh ?_, tr⟩
        · refine .one (.msl (by simp; exact (List.getElem?_eq_some_iff.1 ho).1) rfl fun cur' sz' rows' ho' => ?_)
          rw [List.getElem?_set_self (List.getElem?_eq_some_iff.1 ho).1] at ho'
          cases ho'
          refine ⟨Nat.le_refl _, fun _ => ⟨Nat.zero_le _, by simp, a, cap, rfl, by simp, fun hpos => ?_⟩⟩
          simp [ha hpos]
        · refine ⟨?_, ?_, hall, fun hcz => ?_⟩
          · simp only [if_true]; simp [hnew]; omega
          · simp [hnew]; omega
          simp only [if_true] at hcz
          obtain ⟨arr, ty0, g1, g2, g6⟩ := g7 (by omega)
          refine ⟨arr, ty0, ?_, ?_, ?_⟩
          · simp only [if_true]; exact g1
          · simp only [if_true]; rw [Nat.add_assoc, ← Nat.add_mul, hcap]; exact g2
          · intro i j c hij
            simp only [if_true]
            rw [hnew, List.append_nil] at hij
            obtain ⟨v, hv, hr⟩ := g6 _ _ _ (hdrop i j c hij)
            refine ⟨v, ?_, hr.trans tr⟩
            rw [Nat.add_mul] at hv
            simpa [Nat.add_assoc] using hv
      · -- there is room
        have hc0 : 0 < cap := by omega
        have ha' := ha hc0
        subst ha'
        have hcz : (E.bd id).cap ≠ 0 := by omega
        obtain ⟨arr, ty0, g1, g2, g6⟩ := g7 hcz
        have hbound : (E.bd id).off + rows.length * ie.size + news.length ≤ arr.size := by
          rw [hsrc.newsLen, Nat.add_assoc, ← Nat.add_mul]
          have : (rows.length + new.length) * ie.size ≤ (E.bd id).cap * ie.size := Nat.mul_le_mul_right _ (by omega)
          omega
        have hst := RowAt.store (P := P) (o := ((E.bd id).off + rows.length * ie.size)) news 0 arr E.w g1 (by simpa using hbound) hsrc.one
        simp only [Nat.add_zero] at hst
        let arr' : Array Value := (arr.toList.take ((E.bd id).off + rows.length * ie.size) ++ news ++ arr.toList.drop ((E.bd id).off + rows.length * ie.size + news.length)).toArray
        have harr' : ∀ k, arr'[k]? = if (E.bd id).off + rows.length * ie.size ≤ k ∧ k < (E.bd id).off + rows.length * ie.size + news.length then news[k - ((E.bd id).off + rows.length * ie.size)]? else arr[k]? := by
          intro k
          have := splice_get arr.toList ((E.bd id).off + rows.length * ie.size) news (by simpa using hbound) k
          simpa [arr', splice] using this
        have hsize : arr'.size = arr.size := by
          have := splice_len arr.toList ((E.bd id).off + rows.length * ie.size) news (by simpa using hbound)
          simpa [arr', splice] using this
        have hoff : (E.bd id).off + lo * ie.size + (rows.length - lo) * ie.size = (E.bd id).off + rows.length * ie.size := by
          rw [Nat.add_assoc, ← Nat.add_mul]; congr 2; omega
        have hrun : (Builtin.append_ #[t, tx] ty #[.slice (some ⟨(E.bd id).blk, (E.bd id).off + lo * ie.size, none⟩) (rows.length - lo) cap, vx]).run P E.w =
            .ok (.slice (some ⟨(E.bd id).blk, (E.bd id).off + lo * ie.size, none⟩) (rows.length - lo + new.length) cap) (E.w.setRow (E.bd id).blk arr') := by
          rcases hkind with ⟨e', hk'⟩ | hk' <;> simp [Builtin.append_, run_underlying hu, run_underlying hk', sizeOf, typeInfo, hie, hsrc.len, hroom, hsrc.cells, add_off, hoff, hst, arr']
        obtain ⟨tr, hh⟩ := upd_obj hE id _ (.cells (cur + 1) ie.size (rows.drop lo ++ new)) (E.w.setRow (E.bd id).blk arr') ⟨(E.bd id).blk, (E.bd id).off + lo * ie.size, cap⟩ ho (by simp) rfl rfl rfl
          (fun b hb hne => setRow_other E.w _ b arr' (hne hcz))
          (fun ver' sz' rows' e => by cases e; exact ⟨cur, ie.size, rows, rfl, by omega, fun h => by omega⟩) (fun es' e => by cases e) _ rfl (fun _ => .inl ⟨hcz, rfl⟩)
        refine ⟨_, _, hrun, rfl, ?_, hh ?_, tr⟩
        · refine .one (.msl (by simp; exact (List.getElem?_eq_some_iff.1 ho).1) rfl fun cur' sz' rows' ho' => ?_)
          rw [List.getElem?_set_self (List.getElem?_eq_some_iff.1 ho).1] at ho'
          cases ho'
          exact ⟨Nat.le_refl _, fun _ => ⟨Nat.zero_le _, by simp, _, cap, rfl, by simp, fun hpos => by simp⟩⟩
        · refine ⟨?_, ?_, hall, fun _ => ⟨arr', ty0, ?_, ?_, ?_⟩⟩
          · simp only [if_true]; simp; omega
          · simp [lim]; omega
          · simp only [if_true]; exact g1.setRow (by assumption)
          · simp only [if_true]; rw [hsize, Nat.add_assoc, ← Nat.add_mul, hcap]; exact g2
          · intro i j c hij
            simp only [if_true]
            rcases at2_append hij with ⟨hi, h⟩ | ⟨hi, h⟩
            · obtain ⟨_, hj⟩ := at2_lt h hso
              obtain ⟨v, hv, hr⟩ := g6 _ _ _ (hdrop i j c h)
              refine ⟨v, ?_, hr.trans tr⟩
              have e1 : (E.bd id).off + lo * ie.size + (i * ie.size + j) = (E.bd id).off + ((lo + i) * ie.size + j) := by rw [Nat.add_mul]; omega
              have hlt := mul_lt_of (show lo + i < rows.length by omega) hj
              rw [harr', e1, if_neg (by omega)]
              exact hv
            · obtain ⟨hi2, hj⟩ := at2_lt h hsn
              obtain ⟨y, hy, hr⟩ := hnews _ j c h hj
              refine ⟨y, ?_, hr.trans tr⟩
              have hlt := mul_lt_of hi2 hj
              have e1 : (E.bd id).off + lo * ie.size + (i * ie.size + j) = (E.bd id).off + rows.length * ie.size + ((i - (rows.drop lo).length) * ie.size + j) := by
                have h1 : i = (rows.length - lo) + (i - (rows.drop lo).length) := by rw [hdl] at hi ⊢; omega
                have h2 : lo * ie.size + i * ie.size = rows.length * ie.size + (i - (rows.drop lo).length) * ie.size := by
                  rw [← Nat.add_mul, ← Nat.add_mul]; congr 1; omega
                omega
              rw [harr', e1, if_pos (by rw [hsrc.newsLen]; omega), Nat.add_sub_cancel_left]
              exact hy
    · -- there is none
      have osrc := rowsOf_ok (P := P) hE (one_inv hs) (show rowsOf E.H (.msl id ver lo rows.length) = some ((rows.take rows.length).drop lo, ver = cur) by simp [rowsOf, ho]) hver (by simpa using hso) hs0
      rw [List.take_length] at osrc
      obtain ⟨f, hf1, hf2, hf3⟩ := osrc.cells (rows.length - lo) (by simp)
      have hrun := run_append_grow_src (P := P) E.w t tx ty e ie zv hu hie hzv a (rows.length - lo) cap ((List.range ((rows.length - lo) * ie.size)).map f)
        (hf1 E.w.drew (fun _ => rfl)) vx new.length news hsrc (by omega) (by omega) (growslice_fits (by omega) hbytes)
      have hgc := grownCap_ge E.w (rows.length - lo + new.length) cap e
      let arr' : Array Value := (((List.range ((rows.length - lo) * ie.size)).map f) ++ news).toArray ++ Builtin.zeroCells zv.cells (grownCap E.w (rows.length - lo + new.length) cap e - (rows.length - lo + new.length))
      obtain ⟨tr, hh⟩ := upd_obj hE id _ (.cells (cur + 1) ie.size (rows.drop lo ++ new)) (E.w.drew.alloc (.cells arr' e)) ⟨E.w.heap.size, 0, grownCap E.w (rows.length - lo + new.length) cap e⟩ ho (by simp) rfl rfl rfl
        (fun b hb hne => heap_alloc_old E.w.drew _ b (by simpa using hb))
        (fun ver' sz' rows' e => by cases e; exact ⟨cur, ie.size, rows, rfl, by omega, fun h => by omega⟩) (fun es' e => by cases e) _ rfl (fun _ => .inr (Nat.le_refl _))
      refine ⟨_, _, hrun, rfl, ?_, hh ?_, tr⟩
      · refine .one (.msl (by simp; exact (List.getElem?_eq_some_iff.1 ho).1) rfl fun cur' sz' rows' ho' => ?_)
        rw [List.getElem?_set_self (List.getElem?_eq_some_iff.1 ho).1] at ho'
        cases ho'
        exact ⟨Nat.le_refl _, fun _ => ⟨Nat.zero_le _, by simp, _, _, rfl, by simp, fun hpos => by simp⟩⟩
      · refine ⟨?_, ?_, hall, fun _ => ⟨arr', e, ?_, ?_, ?_⟩⟩
        · simp only [if_true]; simp; omega
        · simp [lim]; omega
        · simp only [if_true]; exact RowAt.mk0 (heap_alloc_new E.w.drew _)
        · simp only [if_true, arr', Array.size_append, List.size_toArray, List.length_append, List.length_map, List.length_range, size_zeroCells, hzsz, hzl, hsrc.newsLen]
          rw [← Nat.add_mul, ← Nat.add_mul, Nat.zero_add]
          exact Nat.mul_le_mul_right _ (by omega)
        · intro i j c hij
          simp only [if_true, Nat.zero_add]
          obtain ⟨v, hv, hr⟩ := grown_rel (E := E) (old := rows.drop lo) (new := new) (olds := (List.range ((rows.length - lo) * ie.size)).map f) (news := news) (s := ie.size)
            (z := Builtin.zeroCells zv.cells (grownCap E.w (rows.length - lo + new.length) cap e - (rows.length - lo + new.length))) 0 (by simp) hso hsn hsrc.newsLen
            (fun i j c hij => by
              obtain ⟨hi, hj⟩ := at2_lt hij hso
              rw [hdl] at hi
              exact ⟨f (i * ie.size + j), by simp [mul_lt_of hi hj], hf2 i j c hi hij⟩) hnews i j c hij
          exact ⟨v, hv, hr.trans tr⟩
  · exact .bad


theorem copyF_ok {P : Program} {E : Env} (hE : HRel E) {ts : Array TypeId} {ty : TypeId} {d x : V} {vd vx : Value} (hd : VRel E d vd) (hx : VRel E x vx) : Good P E (Builtin.copy_ ts ty #[vd, vx]) (copyF P ts d x E.H) := by
  unfold copyF
  split
  case h_2 => exact .bad
  rename_i t id ver lo hi xc h0
  split
  case h_2 => exact .bad
  rename_i e s b cur sz rows src p ht ho hrow
  rintro ⟨hp, hver, hsz, hs0, hsn⟩
  subst hsz
  obtain ⟨ie, hu, hie, hs, _⟩ := tSl_spec ht
  subst hs
  obtain ⟨hlo, hhi, a, cap, rfl, hcap, ha⟩ := msl_inv (one_inv hd) ho hver
  obtain ⟨g3, g4, g5, g7⟩ := hE.obj id _ ho
  have hlim4 : rows.length ≤ 281474976710656 := g4
  refine ⟨trivial, ?_⟩
  have hres : ∀ E, VRel E (.one (.int .i64 (min src.length (hi - lo) : Nat))) (.int .i64 (min src.length (hi - lo) : Nat)) := fun E => .one (.int (nat_in _ (by omega)))
  have src' := rowsOf_ok (P := P) hE (one_inv hx) hrow hp hsn hs0
  obtain ⟨f, hf1, hf2, hf3⟩ := src'.cells (min src.length (hi - lo)) (by omega)
  have hts : Builtin.copy_ ts ty #[.slice a (hi - lo) cap, vx] = Builtin.copy_ #[t] ty #[.slice a (hi - lo) cap, vx] := by simp only [Builtin.copy_, h0]; rfl
  have hnmin : Nat.min src.length (hi - lo) = min src.length (hi - lo) := rfl
  have hread := hf1 E.w (fun _ => rfl)
  rw [hts]
  by_cases hz : min src.length (hi - lo) = 0
  · have hspl : splice rows lo (src.take (hi - lo)) = rows := by
      have : src.take (hi - lo) = [] := List.eq_nil_of_length_eq_zero (by rw [List.length_take]; omega)
      simp [this, splice]
    refine ⟨_, E, ?_, ?_, hres E, hE, Trans.refl E⟩
    · rw [hz] at hread
      simp only [Builtin.copy_, List.getElem?_toArray, List.getElem?_cons_zero, List.getElem?_cons_succ, Sem.run_bind, run_underlying hu, Result.andThen_ok, src'.len, sizeOf_run hie, hnmin, hz, hread]
      cases a <;> simp [storeCells, goInt]
    · show E.H = E.H.set id _
      rw [hspl]
      have hlt := (List.getElem?_eq_some_iff.1 ho).1
      have hget := (List.getElem?_eq_some_iff.1 ho).2
      apply List.ext_getElem?
      intro k
      rw [List.getElem?_set]
      split
      · rename_i e; subst e; simp [hlt, hget]
      · rfl
  · have ha' := ha (by omega)
    subst ha'
    have hcz : (E.bd id).cap ≠ 0 := by omega
    obtain ⟨arr, ty0, g1, g2, g6⟩ := g7 hcz
    let news : List Value := (List.range (min src.length (hi - lo) * ie.size)).map f
    have hnl : news.length = min src.length (hi - lo) * ie.size := by simp [news]
    have hbound : (E.bd id).off + lo * ie.size + news.length ≤ arr.size := by
      rw [hnl, Nat.add_assoc, ← Nat.add_mul]
      have : (lo + min src.length (hi - lo)) * ie.size ≤ (E.bd id).cap * ie.size := Nat.mul_le_mul_right _ (by omega)
      omega
    have hone : ∀ v ∈ news, v.oneCell' = true := by
      intro v hv
      simp only [news, List.mem_map, List.mem_range] at hv
      obtain ⟨m, hm, rfl⟩ := hv
      exact hf3 m hm
    have hst := RowAt.store (P := P) (o := ((E.bd id).off + lo * ie.size)) news 0 arr E.w g1 (by simpa using hbound) hone
    simp only [Nat.add_zero] at hst
    let arr' : Array Value := (arr.toList.take ((E.bd id).off + lo * ie.size) ++ news ++ arr.toList.drop ((E.bd id).off + lo * ie.size + news.length)).toArray
    have harr' : ∀ k, arr'[k]? = if (E.bd id).off + lo * ie.size ≤ k ∧ k < (E.bd id).off + lo * ie.size + news.length then news[k - ((E.bd id).off + lo * ie.size)]? else arr[k]? := by
      intro k
      have := splice_get arr.toList ((E.bd id).off + lo * ie.size) news (by simpa using hbound) k
      simpa [arr', splice] using this
    have hsize : arr'.size = arr.size := by
      have := splice_len arr.toList ((E.bd id).off + lo * ie.size) news (by simpa using hbound)
      simpa [arr', splice] using this
    have hrun : (Builtin.copy_ #[t] ty #[.slice (some ⟨(E.bd id).blk, (E.bd id).off + lo * ie.size, none⟩) (hi - lo) cap, vx]).run P E.w = .ok (.int .i64 (min src.length (hi - lo) : Nat)) (E.w.setRow (E.bd id).blk arr') := by
      simp only [Builtin.copy_, List.getElem?_toArray, List.getElem?_cons_zero, List.getElem?_cons_succ, Sem.run_bind, run_underlying hu, Result.andThen_ok, src'.len, sizeOf_run hie, hnmin, hread]
      show (Result.andThen ((storeCells _ news).run P E.w) _) = _
      rw [hst]
      simp [goInt, arr']
    have htl : (src.take (hi - lo)).length = min src.length (hi - lo) := by rw [List.length_take]; omega
    have hsl : lo + (src.take (hi - lo)).length ≤ rows.length := by rw [htl]; omega
    obtain ⟨tr, hh⟩ := upd_obj hE id _ (.cells cur ie.size (splice rows lo (src.take (hi - lo)))) (E.w.setRow (E.bd id).blk arr') (E.bd id) ho (by simp) rfl rfl rfl
      (fun b hb hne => setRow_other E.w _ b arr' (hne hcz))
      (fun ver' sz' rows' e => by cases e; exact ⟨cur, ie.size, rows, rfl, Nat.le_refl _, fun _ => ⟨rfl, (splice_len _ _ _ hsl).symm, rfl⟩⟩) (fun es' e => by cases e) _ rfl (fun _ => .inl ⟨hcz, rfl⟩)
    refine ⟨_, _, hrun, rfl, hres _, hh ?_, tr⟩
    refine ⟨?_, ?_, ?_, fun _ => ⟨arr', ty0, ?_, ?_, ?_⟩⟩
    · simp only [if_true]; rw [splice_len _ _ _ hsl]; exact g3
    · rw [splice_len _ _ _ hsl]; exact g4
    rotate_left
    · simp only [if_true]; exact g1.setRow (by assumption)
    · simp only [if_true]; rw [hsize]; exact g2
    rotate_left
    · intro r hr
      obtain ⟨k, hk, e⟩ := List.mem_iff_getElem.1 hr
      have h1 : (splice rows lo (src.take (hi - lo)))[k]? = some r := by rw [List.getElem?_eq_getElem hk, e]
      rw [splice_get _ _ _ hsl] at h1
      split at h1
      · exact hsn r (List.mem_of_mem_take (List.mem_of_getElem? h1))
      · exact g5 r (List.mem_of_getElem? h1)
    · intro i j c hij
      simp only [if_true]
      obtain ⟨r, hr, hj⟩ := at2_some.1 hij
      rw [splice_get _ _ _ hsl] at hr
      split at hr
      · rename_i hi1
        rw [List.getElem?_take] at hr
        split at hr
        · have hij' : at2 src (i - lo) j = some c := at2_some.2 ⟨r, hr, hj⟩
          obtain ⟨hi2, hjs⟩ := at2_lt hij' hsn
          have hlt := mul_lt_of (show i - lo < min src.length (hi - lo) by omega) hjs
          refine ⟨f ((i - lo) * ie.size + j), ?_, (hf2 _ _ _ (by omega) hij').trans tr⟩
          have e1 : (E.bd id).off + (i * ie.size + j) = (E.bd id).off + lo * ie.size + ((i - lo) * ie.size + j) := by
            have : i * ie.size = lo * ie.size + (i - lo) * ie.size := by rw [← Nat.add_mul]; congr 1; omega
            omega
          rw [harr', e1, if_pos (by rw [hnl]; omega), Nat.add_sub_cancel_left]
          simp [news, hlt]
        · cases hr
      · rename_i hi1
        have hjs : j < ie.size := by have := (List.getElem?_eq_some_iff.1 hj).1; rw [g5 r (List.mem_of_getElem? hr)] at this; exact this
        obtain ⟨v, hv, hrel⟩ := g6 i j c (at2_some.2 ⟨r, hr, hj⟩)
        refine ⟨v, ?_, hrel.trans tr⟩
        rw [harr', if_neg ?_]
        · exact hv
        · rw [htl] at hi1
          rw [hnl]
          rcases Nat.lt_or_ge i lo with h | h
          · have := mul_lt_of h hjs; omega
          · have : lo + min src.length (hi - lo) ≤ i := by omega
            have h2 := Nat.mul_le_mul_right ie.size this
            rw [Nat.add_mul] at h2; omega

theorem clearF_ok {P : Program} {E : Env} (hE : HRel E) {ts : Array TypeId} {ty : TypeId} {d : V} {vd : Value} (hd : VRel E d vd) : Good P E (Builtin.clear_ ts ty #[vd]) (clearF P ts d E.H) := by
  unfold clearF
  split
  case h_2 => exact .bad
  rename_i t id ver lo hi h0
  split
  case h_2 => exact .bad
  rename_i e s b cur sz rows ht ho
  split
  case h_2 => exact .bad
  rename_i z hz
  split
  case h_2 => exact .bad
  rename_i zs hzs
  rintro ⟨hver, hsz, hs0, hzl⟩
  subst hsz
  obtain ⟨ie, hu, hie, hs, _⟩ := tSl_spec ht
  subst hs
  obtain ⟨i, zv, hi', hzv, hzsz, hzrel⟩ := vs_zero (P := P) (E := E) hz hzs
  rw [hie] at hi'; cases hi'
  obtain ⟨hlo, hhi, a, cap, rfl, hcap, ha⟩ := msl_inv (one_inv hd) ho hver
  obtain ⟨g3, g4, g5, g7⟩ := hE.obj id _ ho
  have hlim4 : rows.length ≤ 281474976710656 := g4
  refine ⟨trivial, ?_⟩
  have hres : ∀ E, VRel E (.tup []) (.tuple #[]) := fun E => .tup rfl (by simp)
  have hts : Builtin.clear_ ts ty #[.slice a (hi - lo) cap] = Builtin.clear_ #[t] ty #[.slice a (hi - lo) cap] := by simp only [Builtin.clear_, h0]; rfl
  have hzero : (zeroValue e).run P E.w = .ok zv E.w := by simp [zeroValue, typeInfo, hie, hzv]
  rw [hts]
  by_cases hn0 : hi - lo = 0
  · have hspl : splice rows lo (List.replicate (hi - lo) zs) = rows := by simp [hn0, splice]
    refine ⟨_, E, ?_, ?_, hres E, hE, Trans.refl E⟩
    · rw [hn0]
      cases a <;> simp [Builtin.clear_, run_underlying hu]
    · show E.H = E.H.set id _
      rw [hspl]
      have hlt := (List.getElem?_eq_some_iff.1 ho).1
      have hget := (List.getElem?_eq_some_iff.1 ho).2
      apply List.ext_getElem?
      intro k
      rw [List.getElem?_set]
      split
      · rename_i e; subst e; simp [hlt, hget]
      · rfl
  · have ha' := ha (by omega)
    subst ha'
    have hcz : (E.bd id).cap ≠ 0 := by omega
    obtain ⟨arr, ty0, g1, g2, g6⟩ := g7 hcz
    let f : Nat → Value := fun k => zv.cells[k % zv.cells.size]!
    let news : List Value := (List.range ((hi - lo) * ie.size)).map f
    have hzc : (Builtin.zeroCells zv.cells (hi - lo)).toList = news := by
      simp only [Builtin.zeroCells, news, f, Array.toList_map, Array.toList_range, hzsz, hzl]
    have hnl : news.length = (hi - lo) * ie.size := by simp [news]
    have hbound : (E.bd id).off + lo * ie.size + news.length ≤ arr.size := by
      rw [hnl, Nat.add_assoc, ← Nat.add_mul]
      have : (lo + (hi - lo)) * ie.size ≤ (E.bd id).cap * ie.size := Nat.mul_le_mul_right _ (by omega)
      omega
    have hf : ∀ j, j < ie.size → ∀ k, ∃ c y, zs[j]? = some c ∧ zv.cells[j]? = some y ∧ f (k * ie.size + j) = y ∧ ∀ E', CRel E' c y := by
      intro j hj k
      have hjz : j < zs.length := by omega
      obtain ⟨c, hc⟩ : ∃ c, zs[j]? = some c := ⟨zs[j], by simp [hjz]⟩
      obtain ⟨y, hy, _⟩ := hzrel E j c hc
      refine ⟨c, y, hc, hy, ?_, fun E' => ?_⟩
      · have hm : (k * ie.size + j) % zv.cells.size = j := by
          rw [hzsz, hzl, Nat.add_comm, Nat.add_mul_mod_self_right, Nat.mod_eq_of_lt hj]
        show zv.cells[(k * ie.size + j) % zv.cells.size]! = y
        rw [hm, Array.getElem!_eq_getD, Array.getD_eq_getD_getElem?, hy]; rfl
      · obtain ⟨y', hy', hr⟩ := hzrel E' j c hc
        rw [hy] at hy'; cases hy'
        exact hr
    have hone : ∀ v ∈ news, v.oneCell' = true := by
      intro v hv
      simp only [news, List.mem_map, List.mem_range] at hv
      obtain ⟨m, hm, rfl⟩ := hv
      obtain ⟨c, y, _, _, h3, h4⟩ := hf (m % ie.size) (Nat.mod_lt _ hs0) (m / ie.size)
      have hme : m / ie.size * ie.size + m % ie.size = m := by rw [Nat.mul_comm]; exact Nat.div_add_mod m ie.size
      rw [hme] at h3
      rw [h3]
      exact (h4 E).cell
    have hst := RowAt.store (P := P) (o := ((E.bd id).off + lo * ie.size)) news 0 arr E.w g1 (by simpa using hbound) hone
    simp only [Nat.add_zero] at hst
    let arr' : Array Value := (arr.toList.take ((E.bd id).off + lo * ie.size) ++ news ++ arr.toList.drop ((E.bd id).off + lo * ie.size + news.length)).toArray
    have harr' : ∀ k, arr'[k]? = if (E.bd id).off + lo * ie.size ≤ k ∧ k < (E.bd id).off + lo * ie.size + news.length then news[k - ((E.bd id).off + lo * ie.size)]? else arr[k]? := by
      intro k
      have := splice_get arr.toList ((E.bd id).off + lo * ie.size) news (by simpa using hbound) k
      simpa [arr', splice] using this
    have hsize : arr'.size = arr.size := by
      have := splice_len arr.toList ((E.bd id).off + lo * ie.size) news (by simpa using hbound)
      simpa [arr', splice] using this
    have hrun : (Builtin.clear_ #[t] ty #[.slice (some ⟨(E.bd id).blk, (E.bd id).off + lo * ie.size, none⟩) (hi - lo) cap]).run P E.w = .ok (.tuple #[]) (E.w.setRow (E.bd id).blk arr') := by
      obtain ⟨m, hm⟩ : ∃ m, hi - lo = m + 1 := ⟨hi - lo - 1, by omega⟩
      rw [← hzc] at hst
      rw [hm] at hst ⊢
      simp only [Builtin.clear_, List.getElem?_toArray, List.getElem?_cons_zero, Sem.run_bind, run_underlying hu, Result.andThen_ok, hzero]
      rw [hst]
      simp only [arr', ← hzc, hm, Result.andThen_ok, Sem.run_pure]
    have htl : (List.replicate (hi - lo) zs).length = hi - lo := by simp
    have hsl : lo + (List.replicate (hi - lo) zs).length ≤ rows.length := by rw [htl]; omega
    have hsn : ∀ r ∈ List.replicate (hi - lo) zs, r.length = ie.size := fun r hr => by rw [List.eq_of_mem_replicate hr]; exact hzl
    obtain ⟨tr, hh⟩ := upd_obj hE id _ (.cells cur ie.size (splice rows lo (List.replicate (hi - lo) zs))) (E.w.setRow (E.bd id).blk arr') (E.bd id) ho (by simp) rfl rfl rfl
      (fun b hb hne => setRow_other E.w _ b arr' (hne hcz))
      (fun ver' sz' rows' e => by cases e; exact ⟨cur, ie.size, rows, rfl, Nat.le_refl _, fun _ => ⟨rfl, (splice_len _ _ _ hsl).symm, rfl⟩⟩) (fun es' e => by cases e) _ rfl (fun _ => .inl ⟨hcz, rfl⟩)
    refine ⟨_, _, hrun, rfl, hres _, hh ?_, tr⟩
    refine ⟨?_, ?_, ?_, fun _ => ⟨arr', ty0, ?_, ?_, ?_⟩⟩
    · simp only [if_true]; rw [splice_len _ _ _ hsl]; exact g3
    · rw [splice_len _ _ _ hsl]; exact g4
    rotate_left
    · simp only [if_true]; exact g1.setRow (by assumption)
    · simp only [if_true]; rw [hsize]; exact g2
    rotate_left
    · intro r hr
      obtain ⟨k, hk, e⟩ := List.mem_iff_getElem.1 hr
      have h1 : (splice rows lo (List.replicate (hi - lo) zs))[k]? = some r := by rw [List.getElem?_eq_getElem hk, e]
      rw [splice_get _ _ _ hsl] at h1
      split at h1
      · exact hsn r (List.mem_of_getElem? h1)
      · exact g5 r (List.mem_of_getElem? h1)
    · intro i j c hij
      simp only [if_true]
      obtain ⟨r, hr, hj⟩ := at2_some.1 hij
      rw [splice_get _ _ _ hsl] at hr
      split at hr
      · rename_i hi1
        rw [htl] at hi1
        have hrz : r = zs := List.eq_of_mem_replicate (List.mem_of_getElem? hr)
        subst hrz
        have hjs : j < ie.size := by have := (List.getElem?_eq_some_iff.1 hj).1; omega
        obtain ⟨c', y, k1, k2, k3, k4⟩ := hf j hjs (i - lo)
        rw [hj] at k1; cases k1
        have hlt := mul_lt_of (show i - lo < hi - lo by omega) hjs
        refine ⟨f ((i - lo) * ie.size + j), ?_, by rw [k3]; exact k4 _⟩
        have e1 : (E.bd id).off + (i * ie.size + j) = (E.bd id).off + lo * ie.size + ((i - lo) * ie.size + j) := by
          have : i * ie.size = lo * ie.size + (i - lo) * ie.size := by rw [← Nat.add_mul]; congr 1; omega
          omega
        rw [harr', e1, if_pos (by rw [hnl]; omega), Nat.add_sub_cancel_left]
        simp [news, hlt]
      · rename_i hi1
        have hjs : j < ie.size := by have := (List.getElem?_eq_some_iff.1 hj).1; rw [g5 r (List.mem_of_getElem? hr)] at this; exact this
        obtain ⟨v, hv, hrel⟩ := g6 i j c (at2_some.2 ⟨r, hr, hj⟩)
        refine ⟨v, ?_, hrel.trans tr⟩
        rw [harr', if_neg ?_]
        · exact hv
        · rw [htl] at hi1
          rw [hnl]
          rcases Nat.lt_or_ge i lo with h | h
          · have := mul_lt_of h hjs; omega
          · have : lo + (hi - lo) ≤ i := by omega
            have h2 := Nat.mul_le_mul_right ie.size this
            rw [Nat.add_mul] at h2; omega

theorem maskF_get (keep : Bool) (ids : List Nat) : ∀ (H : List O) (i j : Nat), (maskF keep ids i H)[j]? = (H[j]?).map fun o => if ids.contains (i + j) = keep then o else .dead
  | [], i, j => by simp [maskF]
  | o :: r, i, 0 => by simp [maskF]
  | o :: r, i, j + 1 => by simp only [maskF, List.getElem?_cons_succ]; rw [maskF_get keep ids r (i + 1) j, show i + 1 + j = i + (j + 1) by omega]
theorem maskF_len (keep : Bool) (ids : List Nat) : ∀ (H : List O) (i : Nat), (maskF keep ids i H).length = H.length
  | [], _ => rfl
  | _ :: r, i => by simp [maskF, maskF_len keep ids r (i + 1)]
theorem mask_get {keep : Bool} {ids : List Nat} {H : List O} {j : Nat} {o : O} (h : (maskF keep ids 0 H)[j]? = some o) : o = .dead ∨ (H[j]? = some o ∧ ids.contains j = keep) := by
  rw [maskF_get, Option.map_eq_some_iff] at h
  obtain ⟨x, hx, rfl⟩ := h
  rw [Nat.zero_add]
  split
  · rename_i e; exact .inr ⟨hx, e⟩
  · exact .inl rfl
/-- Objects are given up. -/
theorem mask_env {E : Env} (hE : HRel E) (keep : Bool) (ids : List Nat) : Trans E { E with H := maskF keep ids 0 E.H } ∧ HRel { E with H := maskF keep ids 0 E.H } := by
  have lv : ∀ {j : Nat} {x : O}, ({ E with H := maskF keep ids 0 E.H } : Env).live j x → E.live j x := fun {j x} h => (live_bd (E := E) (E' := { E with H := maskF keep ids 0 E.H }) rfl).1 h
  have get : ∀ {j : Nat} {x : O}, (maskF keep ids 0 E.H)[j]? = some x → E.live j x → E.H[j]? = some x := fun {j x} h hl => by
    rcases mask_get h with rfl | h
    · exact hl.elim
    · exact h.1
  have t : Trans E { E with H := maskF keep ids 0 E.H } := by
    refine ⟨rfl, Nat.le_refl _, rfl, rfl, rfl, fun _ _ _ => rfl, ?_, by simp [maskF_len], ?_, ?_⟩
    · rintro b hb ⟨j, x, hx, hl, hbx⟩
      exact ⟨j, x, get hx (lv hl), lv hl, hbx⟩
    · intro j ver sz rows hj hx
      rcases mask_get hx with e | e
      · cases e
      · exact ⟨ver, sz, rows, e.1, Nat.le_refl _, fun _ => ⟨rfl, rfl, rfl⟩⟩
    · intro j es hj hx
      rcases mask_get hx with e | e
      · cases e
      · exact ⟨es, e.1, rfl⟩
  refine ⟨t, ?_, ?_, ?_, hE.frlt, hE.gl t⟩
  · intro j x hx
    rcases mask_get hx with e | e
    · subst e; trivial
    · exact (hE.obj j _ e.1).keep t rfl (fun _ => rfl)
  · intro i j x y hx hy lx ly hij
    exact hE.dist i j x y (get hx (lv lx)) (get hy (lv ly)) (lv lx) (lv ly) hij
  · intro i x hx lx
    exact hE.nofr i x (get hx (lv lx)) (lv lx)


theorem fzP_mem {H : List O} : ∀ {row : List C}, fzP H row → ∀ c ∈ row, fzPc H c
  | [], _, c, hc => by simp at hc
  | a :: r, h, c, hc => by
    rcases List.mem_cons.1 hc with rfl | hc
    · exact h.1
    · exact fzP_mem h.2 c hc
theorem mslIds_mem : ∀ {row : List C} {id ver lo hi : Nat}, .msl id ver lo hi ∈ row → id ∈ mslIds row
  | [], _, _, _, _, hc => by simp at hc
  | a :: r, id, ver, lo, hi, hc => by
    unfold mslIds
    rcases List.mem_cons.1 hc with rfl | hc
    · simp
    · have := mslIds_mem hc
      cases a <;> simp [this]
theorem fz_rel {E E2 : Env} (hE : HRel E) (t : Trans E E2) (hw : E2.w = E.w) {c : C} {v : Value} (h : CRel E c v) (hp : fzPc E.H c)
    (hf : ∀ id ver lo hi cur sz rows, c = .msl id ver lo hi → E.H[id]? = some (.cells cur sz rows) → (E.bd id).cap ≠ 0 → E2.free (E.bd id).blk) : CRel E2 (fzC E.H c) v := by
  cases c with
  | msl id ver lo hi =>
    simp only [fzPc] at hp
    split at hp
    case h_2 => exact hp.elim
    rename_i cur sz rows ho
    subst hp
    simp only [fzC, ho]
    obtain ⟨h1, h2, a, cap, rfl, h3, h4⟩ := msl_inv h ho rfl
    obtain ⟨g3, g4, g5, g7⟩ := hE.obj id _ ho
    have hlen : ((rows.take hi).drop lo).length = hi - lo := by simp; omega
    by_cases hz : hi - lo = 0
    · have hnil : (rows.take hi).drop lo = [] := List.eq_nil_of_length_eq_zero (by omega)
      rw [hnil, hz]
      exact .sl (fun _ _ => undef) 0 rfl (Nat.zero_le _) (Nat.zero_le _) (by simp) (by simp) (by simp [at2])
    have hcz : (E.bd id).cap ≠ 0 := by omega
    obtain ⟨arr, ty, g1, g2, g6⟩ := g7 hcz
    have key : ∀ i j c, at2 ((rows.take hi).drop lo) i j = some c → at2 rows (lo + i) j = some c := by
      intro i j c hij
      obtain ⟨r, hr, hj⟩ := at2_some.1 hij
      rw [List.getElem?_drop, List.getElem?_take] at hr
      split at hr
      · exact at2_some.2 ⟨r, hr, hj⟩
      · simp at hr
    have val : ∀ i j c, at2 ((rows.take hi).drop lo) i j = some c → arr[(E.bd id).off + lo * sz + (i * sz + j)]? = some (arr.getD ((E.bd id).off + lo * sz + (i * sz + j)) undef) ∧ CRel E c (arr.getD ((E.bd id).off + lo * sz + (i * sz + j)) undef) := by
      intro i j c hij
      obtain ⟨y, hy, hr⟩ := g6 _ _ _ (key i j c hij)
      have e : (E.bd id).off + ((lo + i) * sz + j) = (E.bd id).off + lo * sz + (i * sz + j) := by rw [Nat.add_mul]; omega
      rw [e] at hy
      have : arr.getD ((E.bd id).off + lo * sz + (i * sz + j)) undef = y := by simp [Array.getD_eq_getD_getElem?, hy]
      rw [this]
      exact ⟨hy, hr⟩
    refine .sl (fun i j => arr.getD ((E.bd id).off + lo * sz + (i * sz + j)) undef) sz hlen.symm (by omega) (by omega) (fun r hr => g5 r (List.mem_of_mem_take (List.mem_of_mem_drop hr))) (fun hne => ?_) (fun i j c hij => (val i j c hij).2.trans t)
    refine ⟨(E.bd id).blk, (E.bd id).off + lo * sz, by rw [h4 (by omega)], hf _ _ _ _ _ _ _ rfl ho hcz, fun i j c hij => ?_⟩
    rw [hw, g1.cell?]
    exact (val i j c hij).1
  | slf rows => exact (slf_inv h).1.trans t
  | _ => exact h.trans t
theorem Good.via {P : Program} {E E1 : Env} {s : Sem Value} {r : R} {p : Prop} (hw : E1.w = E.w) (t : p → Trans E E1) (h : p → Good P E1 s r) : Good P E s (andR p r) := by
  obtain ⟨q, f, v, hh⟩ := r
  rintro ⟨hp, hq⟩
  obtain ⟨h1, v', E', h2, h3, h4, h5, h6⟩ := h hp hq
  exact ⟨h1, v', E', by rw [← hw]; exact h2, h3, h4, h5, (t hp).trans h6⟩
theorem appendZ_ok {P : Program} {E : Env} (hE : HRel E) {ts : Array TypeId} {ty : TypeId} {sx x : V} {vs vx : Value} (hs : VRel E sx vs) (hx : VRel E x vx) : Good P E (Builtin.append_ ts ty #[vs, vx]) (appendZ P ts sx x E.H) := by
  unfold appendZ
  split
  case h_2 => exact .bad
  rename_i id ver lo hi
  split
  case h_2 => exact .bad
  rename_i cur sz row ho
  obtain ⟨t1, h1⟩ := mask_env hE false (mslIds row)
  have key : (mslIds row).contains id = false ∧ fzP E.H row → Trans E ⟨E.w, E.Fr, fun i => if i = id then E.bd id else E.bd i, (maskF false (mslIds row) 0 E.H).set id (.cells cur sz [row.map (fzC E.H)])⟩ ∧ HRel ⟨E.w, E.Fr, fun i => if i = id then E.bd id else E.bd i, (maskF false (mslIds row) 0 E.H).set id (.cells cur sz [row.map (fzC E.H)])⟩ := by
    rintro ⟨hn, hz⟩
    have ho1 : (maskF false (mslIds row) 0 E.H)[id]? = some (.cells cur sz [row]) := by
      rw [maskF_get, ho, Nat.zero_add]; simp only [Option.map_some, hn, if_true]
    have hlt : id < (maskF false (mslIds row) 0 E.H).length := (List.getElem?_eq_some_iff.1 ho1).1
    obtain ⟨t2, h2⟩ := upd_obj h1 id (.cells cur sz [row]) (.cells cur sz [row.map (fzC E.H)]) E.w (E.bd id) ho1 (Nat.le_refl _) rfl rfl rfl (fun _ _ _ => rfl)
      (fun ver' sz' rows' e => by injection e with e1 e2 e3; subst e1 e2 e3; exact ⟨_, _, _, rfl, Nat.le_refl _, fun _ => ⟨rfl, rfl, rfl⟩⟩) (fun es' e => by cases e)
      ⟨E.w, E.Fr, fun i => if i = id then E.bd id else E.bd i, (maskF false (mslIds row) 0 E.H).set id (.cells cur sz [row.map (fzC E.H)])⟩ rfl (fun hl => .inl ⟨by simpa [Env.live] using hl, rfl⟩)
    refine ⟨t1.trans t2, h2 ?_⟩
    obtain ⟨a1, a2, a3, a4⟩ := hE.obj id _ ho
    refine ⟨by simpa using a1, by simpa using a2, fun r hr => ?_, fun hc => ?_⟩
    · simp only [List.mem_singleton] at hr; subst hr; rw [List.length_map]; exact a3 row (by simp)
    · simp only [if_true] at hc ⊢
      obtain ⟨arr, ty', b1, b2, b3⟩ := a4 hc
      refine ⟨arr, ty', b1, b2, fun i j c hij => ?_⟩
      obtain ⟨r, hr, hj⟩ := at2_some.1 hij
      have hi : i = 0 := by
        have := (List.getElem?_eq_some_iff.1 hr).1
        simp at this; exact this
      subst hi
      simp at hr; subst hr
      rw [List.getElem?_map, Option.map_eq_some_iff] at hj
      obtain ⟨c0, hc0, rfl⟩ := hj
      obtain ⟨y, hy, hyr⟩ := b3 0 j c0 (at2_some.2 ⟨row, rfl, hc0⟩)
      refine ⟨y, hy, fz_rel hE (t1.trans t2) rfl hyr (fzP_mem hz c0 (List.mem_of_getElem? hc0)) ?_⟩
      intro id' ver' lo' hi' cur' sz' rows' e ho' hcap
      subst e
      have hin : id' ∈ mslIds row := mslIds_mem (List.mem_of_getElem? hc0)
      have hne : id' ≠ id := by rintro rfl; simp [List.contains_iff_mem] at hn; exact hn hin
      refine ⟨hE.lt ho' hcap, hE.nofr id' _ ho' hcap, ?_⟩
      rintro ⟨k, o, hk, hl, hb⟩
      simp only at hk hb
      by_cases hki : k = id
      · subst hki
        simp only [if_true] at hb
        rw [List.getElem?_set_self hlt] at hk
        cases hk
        have hl' : E.live k (.cells cur sz [row]) := by simpa [Env.live] using hl
        exact hE.dist k id' _ _ ho ho' hl' hcap (Ne.symm hne) hb
      · rw [List.getElem?_set_ne (Ne.symm hki)] at hk
        simp only [if_neg hki] at hb
        rcases mask_get hk with rfl | ⟨hk, hout⟩
        · exact hl
        · have hl' : E.live k o := by cases o <;> simp [Env.live, hki] at hl ⊢ <;> assumption
          refine hE.dist k id' _ _ hk ho' hl' hcap (fun e => ?_) hb
          subst e
          simp [List.contains_iff_mem] at hout
          exact hout hin
  refine Good.via (E1 := ⟨E.w, E.Fr, fun i => if i = id then E.bd id else E.bd i, (maskF false (mslIds row) 0 E.H).set id (.cells cur sz [row.map (fzC E.H)])⟩) rfl (fun hp => (key hp).1) (fun hp => ?_)
  exact appendF_ok (key hp).2 (hs.trans (key hp).1) (hx.trans (key hp).1)
end Go.Lz
