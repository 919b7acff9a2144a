/- Lz8: the reckoning of each operation is what the model does (slices cut, appended to, copied; literals). -/
import Derived.Test.YtakkdadfikcpoaaDoorLz7
import Derived.Laws.Slices
namespace Go.Lz
set_option linter.unusedVariables false
set_option linter.unusedSimpArgs false

theorem bnd_rel {E : Env} {d : Nat} {x : Option V} {v : Option Value} {n : Int} (h : bnd d x = some n) (hx : ∀ y, x = some y → ∃ u, v = some u ∧ VRel E y u) (hn : x = none → v = none) :
    (x = none ∧ v = none ∧ n = d) ∨ (∃ k, v = some (.int k n)) := by
  cases x with
  | none => simp [bnd] at h; exact .inl ⟨rfl, hn rfl, h.symm⟩
  | some y =>
    obtain ⟨u, rfl, hu⟩ := hx y rfl
    unfold bnd at h
    split at h
    · simp_all
    · rename_i k m hy
      cases hy
      cases h
      obtain ⟨rfl, _⟩ := int_inv (one_inv hu)
      exact .inr ⟨_, rfl⟩
    · simp at h

theorem bound_run {P : Program} {w : World} {k : IntKind} {n : Int} {y : Nat} (code : BoundsCode) (h : 0 ≤ n ∧ n ≤ y) : (Instr.sliceBound (.int k n) y code).run P w = .ok n.toNat w := by
  simp [Instr.sliceBound, asIntOf, h]

theorem bounds_run {P : Program} {w : World} {E : Env} (isSlice : Bool) {len cap : Nat} {lo hi : Option V} {vlo vhi : Option Value} {l h : Int} (hlo : bnd 0 lo = some l) (hhi : bnd len hi = some h)
    (rlo : ∀ y, lo = some y → ∃ u, vlo = some u ∧ VRel E y u) (nlo : lo = none → vlo = none) (rhi : ∀ y, hi = some y → ∃ u, vhi = some u ∧ VRel E y u) (nhi : hi = none → vhi = none)
    (h0 : 0 ≤ l) (h1 : l ≤ h) (h2 : h ≤ cap) : (Instr.sliceBounds isSlice len cap vlo vhi none).run P w = .ok (l.toNat, h.toNat, cap) w := by
  rcases bnd_rel hlo rlo nlo with ⟨_, rfl, rfl⟩ | ⟨k, rfl⟩ <;> rcases bnd_rel hhi rhi nhi with ⟨_, rfl, rfl⟩ | ⟨k', rfl⟩
  · simp [Instr.sliceBounds]
  · simp [Instr.sliceBounds, bound_run _ (show 0 ≤ h ∧ h ≤ cap by omega)]
  · simp [Instr.sliceBounds, bound_run _ (show 0 ≤ l ∧ l ≤ len by omega)]
  · have : (l : Int) ≤ (h.toNat : Int) := by omega
    simp [Instr.sliceBounds, bound_run _ (show 0 ≤ h ∧ h ≤ cap by omega), bound_run _ (show 0 ≤ l ∧ l ≤ (h.toNat : Int) by omega)]

theorem bounds_run3 {P : Program} {w : World} {E : Env} (isSlice : Bool) {len cap : Nat} {lo hi : Option V} {vlo vhi : Option Value} {l h m : Int} {km : IntKind} (hlo : bnd 0 lo = some l) (hhi : bnd len hi = some h) (hsome : hi ≠ none)
    (rlo : ∀ y, lo = some y → ∃ u, vlo = some u ∧ VRel E y u) (nlo : lo = none → vlo = none) (rhi : ∀ y, hi = some y → ∃ u, vhi = some u ∧ VRel E y u) (nhi : hi = none → vhi = none)
    (h0 : 0 ≤ l) (h1 : l ≤ h) (h2 : h ≤ m) (h3 : m ≤ cap) : (Instr.sliceBounds isSlice len cap vlo vhi (some (.int km m))).run P w = .ok (l.toNat, h.toNat, m.toNat) w := by
  have e1 := fun c => bound_run (P := P) (w := w) (k := km) (y := cap) c (show 0 ≤ m ∧ m ≤ cap by omega)
  have e2 := fun k c => bound_run (P := P) (w := w) (k := k) (y := m.toNat) c (show 0 ≤ h ∧ h ≤ (m.toNat : Int) by omega)
  have e3 := fun k c => bound_run (P := P) (w := w) (k := k) (y := h.toNat) c (show 0 ≤ l ∧ l ≤ (h.toNat : Int) by omega)
  rcases bnd_rel hhi rhi nhi with ⟨e, _⟩ | ⟨k', rfl⟩
  · exact (hsome e).elim
  · rcases bnd_rel hlo rlo nlo with ⟨_, rfl, rfl⟩ | ⟨k, rfl⟩
    · simp [Instr.sliceBounds, e1, e2]
    · simp [Instr.sliceBounds, e1, e2, e3]

/-- Rows cut out of rows that never turn. -/
theorem sl_cut {E : Env} {rows : List (List C)} {a : Option Addr} {n cap s l h m : Nat} (hc : CRel E (.sl rows) (.slice a n cap)) (hs : ∀ r ∈ rows, r.length = s) (h1 : l ≤ h) (h2 : h ≤ rows.length) (h3 : h ≤ m) (h4 : m ≤ cap) :
    CRel E (.sl ((rows.take h).drop l)) (.slice (if m = l then a else a.map (·.add (l * s))) (h - l) (m - l)) := by
  cases hc with
  | sl vals sz hn hcap hlim hsz hb hv =>
    have hlen : ((rows.take h).drop l).length = h - l := by simp; omega
    have key : ∀ i j c, at2 ((rows.take h).drop l) i j = some c → at2 rows (l + i) j = some c := by
      intro i j c hij
      obtain ⟨r, hr, hj⟩ := at2_some.1 hij
      rw [List.getElem?_drop, List.getElem?_take] at hr
      split at hr
      · exact at2_some.2 ⟨r, hr, hj⟩
      · cases hr
    refine .sl (fun i j => vals (l + i) j) sz hlen.symm (by omega) (by omega) (fun r hr => hsz r (List.mem_of_mem_take (List.mem_of_mem_drop hr))) (fun hne => ?_) (fun i j c hij => hv _ _ _ (key i j c hij))
    have hlt : l < h := by
      rcases Nat.lt_or_ge l h with hh | hh
      · exact hh
      · exact (hne (List.eq_nil_of_length_eq_zero (by omega))).elim
    have hrne : rows ≠ [] := by intro e; simp [e] at h2; omega
    obtain ⟨b, off, rfl, hf, hcell⟩ := hb hrne
    obtain ⟨r0, hr0⟩ := List.exists_mem_of_ne_nil _ hrne
    have e : sz = s := by rw [← hsz r0 hr0, hs r0 hr0]
    subst e
    refine ⟨b, off + l * sz, ?_, hf, fun i j c hij => ?_⟩
    · rw [if_neg (by omega)]; simp [add_off]
    · have := hcell _ _ _ (key i j c hij)
      rw [Nat.add_mul] at this
      simpa [Nat.add_assoc] using this

def ORelV (E : Env) (x : Option V) (v : Option Value) : Prop := (∀ y, x = some y → ∃ u, v = some u ∧ VRel E y u) ∧ (x = none → v = none)

theorem sliceRows_ok {P : Program} {E : Env} (hE : HRel E) {t : TypeId} {rows : List (List C)} {vx : Value} {lo hi mx : Option V} {vlo vhi vmx : Option Value} (hx : CRel E (.sl rows) vx)
    (hlo : ORelV E lo vlo) (hhi : ORelV E hi vhi) (hmx : ORelV E mx vmx) (hhm : mx ≠ none → hi ≠ none) : Good P E (Instr.sliceAt t vx vlo vhi vmx) (sliceRows P t rows lo hi mx E.H) := by
  obtain ⟨a, cap, rfl, hcap, hlim⟩ := sl_inv hx
  unfold sliceRows
  split
  · rename_i e s b l h ht hl hh
    obtain ⟨ie, hu, hie, hs, _⟩ := tSl_spec ht
    have hv := hmx.2 rfl
    subst hv
    refine .same hE fun ⟨h0, h1, h2, h3⟩ => ⟨trivial, ?_⟩
    have hb := bounds_run (P := P) (w := E.w) true (cap := cap) hl hh hlo.1 hlo.2 hhi.1 hhi.2 h0 h1 (by omega)
    refine ⟨_, ?_, rfl, .one (sl_cut (m := cap) hx h3 (by omega) (by omega) (by omega) (Nat.le_refl _))⟩
    simp [Instr.sliceAt, Instr.slice, run_underlying hu, hb, sizeOf_run hie, hs]
  · rename_i e s b m l h ht hl hh
    obtain ⟨ie, hu, hie, hs, _⟩ := tSl_spec ht
    split
    · rename_i m' hm
      obtain ⟨u, rfl, hu'⟩ := hmx.1 m rfl
      rcases bnd_rel (E := E) hm (fun y hy => by cases hy; exact ⟨u, rfl, hu'⟩) (by simp) with ⟨e, _⟩ | ⟨km, hkm⟩
      · cases e
      · cases hkm
        refine .same hE fun ⟨h0, h1, h2, h3, h4⟩ => ⟨trivial, ?_⟩
        have hb := bounds_run3 (P := P) (w := E.w) true (cap := cap) (km := km) (m := m') hl hh (hhm (by simp)) hlo.1 hlo.2 hhi.1 hhi.2 h0 h1 (by omega) (by omega)
        refine ⟨_, ?_, rfl, .one (.slf (sl_cut (m := m'.toNat) hx h4 (by omega) (by omega) (by omega) (by omega)) ⟨if m'.toNat = l.toNat then a else a.map (·.add (l.toNat * s)), ?_⟩)⟩
        · simp [Instr.sliceAt, Instr.slice, run_underlying hu, hb, sizeOf_run hie, hs]
        · congr 1
          · simp; omega
          · simp; omega
    · exact .bad
  · exact .bad

theorem tPa_spec {P : Program} {t : TypeId} {n : Nat} (h : tPa P t = some n) : ∃ e i, P.underlying t = some (.array n e) ∧ P.info? e = some i ∧ i.size = 1 := by
  unfold tPa at h
  split at h
  · rename_i m e s hr
    split at h
    · rename_i h1
      cases h
      obtain ⟨i, ha, hi, hs⟩ := tAr_spec hr
      exact ⟨e, i, ha, hi, by rw [hs, h1]⟩
    · cases h
  · cases h
theorem iptr_full {E : Env} {row : List C} {off : Nat} {v : Value} (h : CRel E (.iptr row off) v) : ∃ (b o : Nat) (vals : Nat → Value), v = .pointer (some ⟨b, o + off, none⟩) ∧ E.free b ∧ (∀ j c, row[j]? = some c → E.w.cell? ⟨b, o + j, none⟩ = some (vals j)) ∧ ∀ j c, row[j]? = some c → CRel E c (vals j) := by
  cases h with
  | iptr vals he hb hc hv => exact ⟨_, _, vals, he, hb, hc, hv⟩
theorem ref_inv' {E : Env} {id ver off cur sz : Nat} {row : List C} {v : Value} (h : CRel E (.ref id ver 0 off) v) (ho : E.H[id]? = some (.cells cur sz [row])) (hv : ver = cur := by rfl) :
    v = .pointer (some ⟨(E.bd id).blk, (E.bd id).off + off, none⟩) := by
  cases h with
  | ref hid hc hh => simpa using (hh cur sz [row] ho).2 hv
theorem sliceF_ok {P : Program} {E : Env} (hE : HRel E) {t : TypeId} {x : V} {vx : Value} {lo hi mx : Option V} {vlo vhi vmx : Option Value} (hx : VRel E x vx)
    (hlo : ORelV E lo vlo) (hhi : ORelV E hi vhi) (hmx : ORelV E mx vmx) (hhm : mx ≠ none → hi ≠ none) : Good P E (Instr.sliceAt t vx vlo vhi vmx) (sliceF P t x lo hi mx E.H) := by
  unfold sliceF
  split
  · rename_i s
    split
    · rename_i ht
      split
      · rename_i l h hl hh
        have hv := hmx.2 rfl
        subst hv
        obtain ⟨b, rfl, hb, hlim⟩ := str_inv (one_inv hx)
        have hsz : b.size = s.length := by rw [← hb]; rfl
        refine .same hE fun ⟨h0, h1, h2⟩ => ⟨trivial, ?_⟩
        have hbr := bounds_run (P := P) (w := E.w) false (cap := b.size) (len := b.size) hl (by rw [hsz]; exact hh) hlo.1 hlo.2 hhi.1 hhi.2 h0 h1 (by omega)
        refine ⟨.string (b.extract l.toNat h.toNat), ?_, rfl, .one (.str ?_ ?_)⟩
        · simp [Instr.sliceAt, Instr.slice, run_underlying (tIsStr_spec ht), hbr]
        · rw [← hb]
          simp only [ByteArray.data_extract, Array.toList_extract, List.extract_eq_take_drop]
          rw [List.drop_take]
        · simp; omega
      · exact .bad
    · exact .bad
  · exact sliceRows_ok hE (one_inv hx) hlo hhi hmx hhm
  · exact sliceRows_ok hE (slf_inv (one_inv hx)).1 hlo hhi hmx hhm
  · rename_i row off
    split
    case h_2 => exact .bad
    rename_i n l hn hl
    split
    case h_2 => exact .bad
    rename_i h hh
    have hv := hmx.2 rfl
    subst hv
    obtain ⟨e, i, hu, hi, hs⟩ := tPa_spec hn
    refine .same hE fun ⟨p0, p1, p2, p3, p4⟩ => ⟨trivial, ?_⟩
    obtain ⟨b, o, vals, hvx, hb, hc, hvr⟩ := iptr_full (one_inv hx)
    subst hvx
    have hbr := bounds_run (P := P) (w := E.w) false (cap := n) (len := n) hl hh hlo.1 hlo.2 hhi.1 hhi.2 p0 p1 (by omega)
    have hget : ∀ k c, (((((row.drop off).take n).map fun c => [c]).take h.toNat).drop l.toNat)[k]? = some c → ∃ x, c = [x] ∧ row[off + (l.toNat + k)]? = some x := by
      intro k c hk
      rw [List.getElem?_drop, List.getElem?_take] at hk
      split at hk
      · rw [List.getElem?_map, List.getElem?_take] at hk
        split at hk
        · rw [List.getElem?_drop] at hk
          simp only [Option.map_eq_some_iff] at hk
          obtain ⟨x, hx1, rfl⟩ := hk
          exact ⟨x, rfl, hx1⟩
        · simp at hk
      · cases hk
    have hlen : (((((row.drop off).take n).map fun c => [c]).take h.toNat).drop l.toNat).length = h.toNat - l.toNat := by
      simp; omega
    refine ⟨.slice (some (if n = l.toNat then ⟨b, o + off, none⟩ else Addr.add ⟨b, o + off, none⟩ (l.toNat * 1))) (h.toNat - l.toNat) (n - l.toNat), ?_, rfl, .one (.sl (fun k _ => vals (off + (l.toNat + k))) 1 hlen.symm (by rw [hlen]; omega) (by rw [hlen]; omega) ?_ ?_ ?_)⟩
    · simp [Instr.sliceAt, run_underlying hu, Instr.sureAddr, hbr, sizeOf_run hi, hs]
    · intro r hr
      obtain ⟨k, hk⟩ := List.getElem?_of_mem hr
      obtain ⟨x, rfl, _⟩ := hget k r hk
      rfl
    · intro hne
      have hlt : l.toNat < n := by
        have : (((((row.drop off).take n).map fun c => [c]).take h.toNat).drop l.toNat).length ≠ 0 := fun h0 => hne (List.eq_nil_of_length_eq_zero h0)
        rw [hlen] at this
        omega
      refine ⟨b, o + off + l.toNat, by rw [if_neg (by omega)]; simp [Addr.add], hb, fun k j c hkj => ?_⟩
      obtain ⟨r, hr, hj⟩ := at2_some.1 hkj
      obtain ⟨x, rfl, hx1⟩ := hget k r hr
      have hj0 : j = 0 := by
        have := (List.getElem?_eq_some_iff.1 hj).1
        simpa using this
      subst hj0
      have := hc _ _ hx1
      rw [show o + off + l.toNat + (k * 1 + 0) = o + (off + (l.toNat + k)) by omega]
      exact this
    · intro k j c hkj
      obtain ⟨r, hr, hj⟩ := at2_some.1 hkj
      obtain ⟨x, rfl, hx1⟩ := hget k r hr
      have hj0 : j = 0 := by
        have := (List.getElem?_eq_some_iff.1 hj).1
        simpa using this
      subst hj0
      simp at hj; subst hj
      exact hvr _ _ hx1
  · rename_i id ver off
    split
    case h_2 => exact .bad
    rename_i n l cur sz row hn hl ho
    split
    case h_2 => exact .bad
    rename_i h hh
    have hv := hmx.2 rfl
    subst hv
    obtain ⟨e, i, hu, hi, hs⟩ := tPa_spec hn
    intro ⟨hver, p0, p1, p2, p3, p4⟩
    refine ⟨trivial, ?_⟩
    subst hver
    have hvx := ref_inv' (one_inv hx) ho
    subst hvx
    obtain ⟨q1, _, q2, q3⟩ := hE.obj id _ ho
    simp at q1
    have hlive : E.live id (.cells ver sz [row]) := by simp only [Env.live]; omega
    obtain ⟨arr, ty, hra, hsz, hcells⟩ := q3 hlive
    have hrow : row.length = sz := q2 row (by simp)
    obtain ⟨tr, hh'⟩ := upd_obj hE id (.cells ver sz [row]) .dead E.w (E.bd id) ho (Nat.le_refl _) rfl rfl rfl (fun _ _ _ => rfl) (by simp) (by simp) ⟨E.w, E.Fr, fun i => if i = id then E.bd id else E.bd i, E.H.set id .dead⟩ rfl (by simp [Env.live])
    have hE' := hh' trivial
    have hlt : id < E.H.length := (List.getElem?_eq_some_iff.1 ho).1
    have hb : Env.free ⟨E.w, E.Fr, fun i => if i = id then E.bd id else E.bd i, E.H.set id .dead⟩ (E.bd id).blk := by
      refine ⟨hra.lt, hE.nofr id _ ho hlive, fun ⟨j, o, hj, hl', hbj⟩ => ?_⟩
      simp only at hj
      by_cases hji : j = id
      · subst hji
        rw [List.getElem?_set_self hlt] at hj
        cases hj
        exact hl'
      · rw [List.getElem?_set_ne (Ne.symm hji)] at hj
        simp only [if_neg hji] at hbj
        refine hE.dist j id _ _ hj ho ?_ hlive hji hbj
        cases o <;> simp [Env.live, hji] at hl' ⊢ <;> assumption
    obtain ⟨f, hf⟩ : ∃ f : Nat → Value, ∀ j c, row[j]? = some c → arr[(E.bd id).off + j]? = some (f j) ∧ CRel E c (f j) := by
      refine ⟨fun j => arr.getD ((E.bd id).off + j) undef, fun j c hj => ?_⟩
      obtain ⟨v, hv, hr⟩ := hcells 0 j c (at2_some.2 ⟨row, rfl, hj⟩)
      rw [Nat.zero_mul, Nat.zero_add] at hv
      have : arr.getD ((E.bd id).off + j) undef = v := by simp [Array.getD_eq_getD_getElem?, hv]
      simp only [this]
      exact ⟨hv, hr⟩
    have hbr := bounds_run (P := P) (w := E.w) false (cap := n) (len := n) hl hh hlo.1 hlo.2 hhi.1 hhi.2 p0 p1 (by omega)
    have hget : ∀ k c, (((((row.drop off).take n).map fun c => [c]).take h.toNat).drop l.toNat)[k]? = some c → ∃ x, c = [x] ∧ row[off + (l.toNat + k)]? = some x := by
      intro k c hk
      rw [List.getElem?_drop, List.getElem?_take] at hk
      split at hk
      · rw [List.getElem?_map, List.getElem?_take] at hk
        split at hk
        · rw [List.getElem?_drop] at hk
          simp only [Option.map_eq_some_iff] at hk
          obtain ⟨x, hx1, rfl⟩ := hk
          exact ⟨x, rfl, hx1⟩
        · simp at hk
      · cases hk
    have hlen : (((((row.drop off).take n).map fun c => [c]).take h.toNat).drop l.toNat).length = h.toNat - l.toNat := by
      simp; omega
    refine ⟨.slice (some (if n = l.toNat then ⟨(E.bd id).blk, (E.bd id).off + off, none⟩ else Addr.add ⟨(E.bd id).blk, (E.bd id).off + off, none⟩ (l.toNat * 1))) (h.toNat - l.toNat) (n - l.toNat), _, ?_, rfl, .one (.sl (fun k _ => f (off + (l.toNat + k))) 1 hlen.symm (by rw [hlen]; omega) (by rw [hlen]; omega) ?_ ?_ ?_), hE', tr⟩
    · simp [Instr.sliceAt, run_underlying hu, Instr.sureAddr, hbr, sizeOf_run hi, hs]
    · intro r hr
      obtain ⟨k, hk⟩ := List.getElem?_of_mem hr
      obtain ⟨x, rfl, _⟩ := hget k r hk
      rfl
    · intro hne
      have hlt : l.toNat < n := by
        have : (((((row.drop off).take n).map fun c => [c]).take h.toNat).drop l.toNat).length ≠ 0 := fun h0 => hne (List.eq_nil_of_length_eq_zero h0)
        rw [hlen] at this
        omega
      refine ⟨(E.bd id).blk, (E.bd id).off + off + l.toNat, by rw [if_neg (by omega)]; simp [Addr.add], hb, fun k j c hkj => ?_⟩
      obtain ⟨r, hr, hj⟩ := at2_some.1 hkj
      obtain ⟨x, rfl, hx1⟩ := hget k r hr
      have hj0 : j = 0 := by
        have := (List.getElem?_eq_some_iff.1 hj).1
        simpa using this
      subst hj0
      have := (hf _ _ hx1).1
      rw [show (E.bd id).off + off + l.toNat + (k * 1 + 0) = (E.bd id).off + (off + (l.toNat + k)) by omega, hra.cell?]
      exact this
    · intro k j c hkj
      obtain ⟨r, hr, hj⟩ := at2_some.1 hkj
      obtain ⟨x, rfl, hx1⟩ := hget k r hr
      have hj0 : j = 0 := by
        have := (List.getElem?_eq_some_iff.1 hj).1
        simpa using this
      subst hj0
      simp at hj; subst hj
      exact ((hf _ _ hx1).2).trans tr
  · rename_i id ver l0 h0
    split
    · rename_i e s b l h cur sz rows ht hl hh ho
      obtain ⟨ie, hu, hie, hs, _⟩ := tSl_spec ht
      have hv := hmx.2 rfl
      subst hv
      refine .same hE fun ⟨hver, hss, p0, p1, p2⟩ => ⟨trivial, ?_⟩
      obtain ⟨q1, q2, a, cap, rfl, hcap, ha⟩ := msl_inv (one_inv hx) ho hver
      obtain ⟨hrc, _⟩ := hE.obj id _ ho
      have hb := bounds_run (P := P) (w := E.w) true (cap := cap) (len := h0 - l0) hl hh hlo.1 hlo.2 hhi.1 hhi.2 p0 p1 (by omega)
      refine ⟨.slice (a.map fun a => if cap = l.toNat then a else a.add (l.toNat * s)) (h.toNat - l.toNat) (cap - l.toNat), ?_, rfl, .one (.msl (List.getElem?_eq_some_iff.1 ho).1 rfl fun cur' sz' rows' ho' => ?_)⟩
      · cases a with
        | none => simp only [Instr.sliceAt, run_underlying hu, Sem.run_bind, Result.andThen_ok, Instr.slice, hb, sizeOf_run hie, hs, Sem.run_pure, Option.map_none, ite_self]
        | some a =>
          simp only [Instr.sliceAt, run_underlying hu, Sem.run_bind, Result.andThen_ok, Instr.slice, hb, sizeOf_run hie, hs, Sem.run_pure, Option.map_some]
          split <;> rfl
      · rw [ho] at ho'
        cases ho'
        refine ⟨by omega, fun _ => ⟨by omega, by omega, (a.map fun a => if cap = l.toNat then a else a.add (l.toNat * s)), cap - l.toNat, ?_, by omega, fun hpos => ?_⟩⟩
        · congr 1; omega
        · rw [ha (by omega), Option.map_some, if_neg (by omega), add_off, hss]
          congr 2
          rw [Nat.add_mul]; omega
    · exact .bad
  · exact .bad

theorem zc_get (z : Array Value) (n m : Nat) : (Builtin.zeroCells z n).size = n * z.size := size_zeroCells z n

theorem at2_append {a b : List (List C)} {i j : Nat} {c : C} (h : at2 (a ++ b) i j = some c) : (i < a.length ∧ at2 a i j = some c) ∨ (a.length ≤ i ∧ at2 b (i - a.length) j = some c) := by
  obtain ⟨r, hr, hj⟩ := at2_some.1 h
  rw [List.getElem?_append] at hr
  split at hr
  · exact .inl ⟨by assumption, at2_some.2 ⟨r, hr, hj⟩⟩
  · exact .inr ⟨by omega, at2_some.2 ⟨r, hr, hj⟩⟩

theorem at2_lt {rows : List (List C)} {i j s : Nat} {c : C} (h : at2 rows i j = some c) (hs : ∀ r ∈ rows, r.length = s) : i < rows.length ∧ j < s := by
  obtain ⟨r, hr, hj⟩ := at2_some.1 h
  refine ⟨(List.getElem?_eq_some_iff.1 hr).1, ?_⟩
  have := (List.getElem?_eq_some_iff.1 hj).1
  rw [hs r (List.mem_of_getElem? hr)] at this; exact this

theorem mul_lt_of {i n s j : Nat} (hi : i < n) (hj : j < s) : i * s + j < n * s := by
  have := Nat.mul_le_mul_right s hi; rw [Nat.succ_mul] at this; omega

theorem srcOf {P : Program} {E : Env} {s : Nat} {tx : TypeId} {v : Value} {rows : List (List C)} (h : SrcOk P E s v rows) (hk : (∃ e', P.underlying tx = some (.slice e')) ∨ P.underlying tx = some .string) :
    ∃ news : List Value, Src P s tx v rows.length news E.w ∧ ∀ i j c, at2 rows i j = some c → j < s → ∃ y, news[i * s + j]? = some y ∧ CRel E c y := by
  obtain ⟨f, h1, h2, h3⟩ := h.cells rows.length (Nat.le_refl _)
  refine ⟨(List.range (rows.length * s)).map f, ⟨hk, h.len, h1 _ (fun _ => rfl), h1 _ (fun _ => rfl), by simp, fun u hu => ?_⟩, fun i j c hij hj => ?_⟩
  · simp at hu
    obtain ⟨m, hm, rfl⟩ := hu
    exact h3 m hm
  · have hi : i < rows.length := by obtain ⟨r, hr, _⟩ := at2_some.1 hij; exact (List.getElem?_eq_some_iff.1 hr).1
    refine ⟨f (i * s + j), ?_, h2 i j c hi hij⟩
    simp [mul_lt_of hi hj]

theorem kind_of_rowsOf {P : Program} {E : Env} {tx : TypeId} {k : Option IntKind} {xc : C} {v : Value} {rows : List (List C)} {p : Prop} (hrel : CRel E xc v) (h : rowsOf E.H xc = some (rows, p)) (hp : p)
    (hu : (∃ e', P.underlying tx = some (.slice e')) ∨ P.underlying tx = some .string) : True := trivial

end Go.Lz
