/- V17f: strings.Fields on ASCII: the library's shelf tells it; the table that it reads lies ready. -/
import Derived.Test.YtakkdadfikcpoaaDoorLw4
import Derived.Test.YtakkdadfikcpoaaDoorSD
import Derived.Shelf.Strings.Fields
namespace Go.Lz
set_option linter.unusedVariables false
set_option linter.unusedSimpArgs false
open Go.Proofs Go.Shelf
set_option maxRecDepth 100000

def ren17 : Ren := ⟨fun | 157 => 27 | 229 => 35 | 199 => 36 | 261 => 39 | 311 => 40 | 312 => 41 | n => n, fun | 9 => 9 | 31 => 48 | 3 => 3 | 5 => 5 | 4 => 4 | 119 => 59 | 0 => 0 | 40 => 61 | 152 => 62 | 21 => 21 | 154 => 64 | 51 => 57 | 141 => 66 | 196 => 70 | 193 => 67 | 198 => 73 | 49 => 71 | 194 => 68 | 201 => 76 | 226 => 78 | 46 => 55 | 227 => 79 | n => n, fun | 0 => 0 | 6 => 1 | n => n⟩
theorem lays17 : Lays.n157 Tryd.prog ren17 where
  mixed := by kernel_rfl
  f157 := Tryd.func27.trans (congrArg some (by kernel_rfl))
  f199 := Tryd.func36.trans (congrArg some (by kernel_rfl))
  f229 := Tryd.func35.trans (congrArg some (by kernel_rfl))
  f261 := Tryd.func39.trans (congrArg some (by kernel_rfl))
  f311 := Tryd.func40.trans (congrArg some (by kernel_rfl))
  f312 := Tryd.func41.trans (congrArg some (by kernel_rfl))
  t0 := Tryd.underlying0
  a0 := Tryd.isAgg0
  z0 := Tryd.sizeOf0
  v0 := Tryd.zeroValue0
  t3 := Tryd.underlying3
  a3 := Tryd.isAgg3
  z3 := Tryd.sizeOf3
  v3 := Tryd.zeroValue3
  t4 := Tryd.underlying4
  a4 := Tryd.isAgg4
  z4 := Tryd.sizeOf4
  v4 := Tryd.zeroValue4
  t5 := Tryd.underlying5
  a5 := Tryd.isAgg5
  z5 := Tryd.sizeOf5
  v5 := Tryd.zeroValue5
  t9 := Tryd.underlying9
  a9 := Tryd.isAgg9
  z9 := Tryd.sizeOf9
  v9 := Tryd.zeroValue9
  t21 := Tryd.underlying21
  a21 := Tryd.isAgg21
  z21 := Tryd.sizeOf21
  v21 := Tryd.zeroValue21
  t31 := Tryd.underlying48
  a31 := Tryd.isAgg48
  z31 := Tryd.sizeOf48
  v31 := Tryd.zeroValue48
  t40 := Tryd.underlying61
  a40 := Tryd.isAgg61
  z40 := Tryd.sizeOf61
  v40 := Tryd.zeroValue61
  t46 := Tryd.underlying55
  a46 := Tryd.isAgg55
  z46 := Tryd.sizeOf55
  v46 := Tryd.zeroValue55
  t49 := Tryd.underlying71
  a49 := Tryd.isAgg71
  z49 := Tryd.sizeOf71
  v49 := Tryd.zeroValue71
  t51 := Tryd.underlying57
  a51 := Tryd.isAgg57
  z51 := Tryd.sizeOf57
  v51 := Tryd.zeroValue57
  t119 := Tryd.underlying59
  a119 := Tryd.isAgg59
  z119 := Tryd.sizeOf59
  t141 := Tryd.underlying66
  a141 := Tryd.isAgg66
  z141 := Tryd.sizeOf66
  v141 := Tryd.zeroValue66
  t152 := Tryd.underlying62
  a152 := Tryd.isAgg62
  z152 := Tryd.sizeOf62
  v152 := Tryd.zeroValue62
  t154 := Tryd.underlying64
  a154 := Tryd.isAgg64
  z154 := Tryd.sizeOf64
  v154 := Tryd.zeroValue64
  t193 := Tryd.underlying67
  a193 := Tryd.isAgg67
  z193 := Tryd.sizeOf67
  v193 := Tryd.zeroValue67
  t194 := Tryd.underlying68
  a194 := Tryd.isAgg68
  z194 := Tryd.sizeOf68
  v194 := Tryd.zeroValue68
  t196 := Tryd.underlying70
  a196 := Tryd.isAgg70
  z196 := Tryd.sizeOf70
  v196 := Tryd.zeroValue70
  t198 := Tryd.underlying73
  a198 := Tryd.isAgg73
  z198 := Tryd.sizeOf73
  v198 := Tryd.zeroValue73
  t201 := Tryd.underlying76
  a201 := Tryd.isAgg76
  z201 := Tryd.sizeOf76
  v201 := Tryd.zeroValue76
  t226 := Tryd.underlying78
  a226 := Tryd.isAgg78
  z226 := Tryd.sizeOf78
  v226 := Tryd.zeroValue78
  t227 := Tryd.underlying79
  a227 := Tryd.isAgg79
  z227 := Tryd.sizeOf79
  v227 := Tryd.zeroValue79
  g0 := by kernel_rfl
  g6 := by kernel_rfl
theorem hi17 : (Tryd.prog.info? (ren17.t 9)).map (fun i => (i.zero, i.size, i.bytes)) = some (some (.string ByteArray.empty), 1, 16) := by kernel_rfl
def strings_Fields (s : Str) : Option (List Str) := need (s.length < 4294967281 ∧ (s.all fun b => decide (b.toNat < 128)) = true) (some (Go.Lib.fields s))
theorem fieldsGo_each : ∀ (l cur x : Str), x ∈ Go.Lib.fieldsGo cur l → x.length ≤ cur.length + l.length
  | [], cur, x, h => by
    unfold Go.Lib.fieldsGo at h
    split at h
    · cases h
    · simp at h; subst h; simp
  | b :: l, cur, x, h => by
    unfold Go.Lib.fieldsGo at h
    split at h
    · split at h
      · have := fieldsGo_each l [] x h; simp at this ⊢; omega
      · rcases List.mem_cons.1 h with rfl | h
        · simp
        · have := fieldsGo_each l [] x h; simp at this ⊢; omega
    · have := fieldsGo_each l (cur ++ [b]) x h; simp at this ⊢; omega
theorem cntF_le : ∀ (l : Str) (b : Bool), Go.Lib.cntF b l ≤ l.length
  | [], _ => by simp [Go.Lib.cntF]
  | x :: t, b => by have := cntF_le t (Go.Lib.isSp x); simp only [Go.Lib.cntF, List.length_cons]; split <;> omega
theorem strs_new {E : Env} (hE : HRel E) (xs : List Str) (ty : TypeId) (hl : ∀ x ∈ xs, x.length ≤ lim) (hn : xs.length ≤ lim) (w' : World) (hw : w' = E.w.alloc (.cells (xs.map fun l => Value.string ⟨l.toArray⟩).toArray ty)) :
    Trans E { E with w := w' } ∧ HRel { E with w := w' } ∧ VRel { E with w := w' } (.one (.sl (xs.map eS))) (.slice (some ⟨E.w.heap.size, 0, none⟩) xs.length xs.length) := by
  have hsz : w'.heap.size = E.w.heap.size + 1 := by rw [hw]; exact World.size_alloc _ _
  obtain ⟨t, hh⟩ := grow_world hE w' (by omega) (by rw [hw]; rfl) (by rw [hw]; rfl) (by rw [hw]; rfl) (fun b hb => by rw [hw]; exact Go.heap_alloc_old E.w _ hb)
  refine ⟨t, hh, ?_⟩
  have key : ∀ {i j : Nat} {c : C}, at2 (xs.map eS) i j = some c → j = 0 ∧ ∃ x, xs[i]? = some x ∧ c = .str x := by
    intro i j c h
    obtain ⟨r, hr, hj⟩ := at2_some.1 h
    simp only [List.getElem?_map, Option.map_eq_some_iff] at hr
    obtain ⟨x, hx, rfl⟩ := hr
    cases j with
    | zero => simp [eS] at hj; exact ⟨rfl, x, hx, hj.symm⟩
    | succ j => simp [eS] at hj
  refine .one (.sl (fun i _ => .string ⟨(xs.getD i []).toArray⟩) 1 (by simp) (by simp) (by simpa using hn) (by simp [eS]) (fun _ => ⟨E.w.heap.size, 0, rfl, ⟨by show _ < w'.heap.size; omega, fun hf => ?_, fun ho => ?_⟩, fun i j c hij => ?_⟩) (fun i j c hij => ?_))
  · have := hE.frlt _ hf; omega
  · obtain ⟨id, o, h1, h2, h3⟩ := ho
    have := hE.lt h1 ((live_bd (E := E) (E' := { E with w := w' }) rfl).1 h2)
    have h3' : (E.bd id).blk = E.w.heap.size := h3
    omega
  · obtain ⟨rfl, x, hx, rfl⟩ := key hij
    show w'.cell? _ = _
    rw [hw, World.cell?_alloc_at _ _ _ _ rfl]
    simp [hx]
  · obtain ⟨rfl, x, hx, rfl⟩ := key hij
    have e : xs.getD i [] = x := by simp [hx]
    rw [e]
    exact .str (by simp) (hl x (List.mem_of_getElem? hx))
theorem strings_Fields_ok {s : Str} {r : List Str} (h : strings_Fields s = some r) :
    Pu Tryd.prog 27 [.one (.str s)] (.one (.sl (r.map eS))) := by
  obtain ⟨⟨h1, h2⟩, h3⟩ := need_inv h
  obtain rfl := Option.some.inj h3
  refine ⟨⟨Tryd.f27, Tryd.func27, by kernel_rfl, by kernel_rfl⟩, fun E vs hE hH hn hv => ?_⟩
  have h0 := hv 0 (.one (.str s)) rfl
  obtain ⟨b, hb, hbs⟩ : ∃ b : ByteArray, vs = #[.string b] ∧ b.data.toList = s := by
    generalize hu : vs.getD 0 undef = u at h0
    cases h0 with
    | one hc =>
      cases hc with
      | @str _ b hb _ =>
        refine ⟨b, ?_, hb⟩
        have hs : vs.size = 1 := by simpa using hn
        obtain ⟨l⟩ := vs
        match l, hs with
        | [x], _ => simp at hu; rw [hu]
  subst hb
  have hsz : b.size < 4294967281 := by rw [Go.Lib.size_eq, hbs]; exact h1
  have hasc : ∀ (j : Nat) x, b.data.toList[j]? = some x → x.toNat < 128 := fun j x hj => by
    rw [hbs] at hj
    exact of_decide_eq_true (List.all_eq_true.1 h2 x (List.mem_of_getElem? hj))
  have htab : ∀ c : Nat, c < 256 → E.w.cell? ⟨ren17.g 0, c, none⟩ = some (.int .u8 (if Go.Lib.isSp (UInt8.ofNat c) then 1 else 0)) := fun c hc => by
    refine (hE.glob (0, spaceTab) (List.mem_singleton.2 rfl)).2 c _ ?_
    show spaceTab[c]? = _
    unfold spaceTab
    rw [List.getElem?_map, List.getElem?_range hc]
    rfl
  refine Calls.mono (Any.strings_Fields_core lays17 hi17 b E.w hsz hasc htab) ?_
  rintro e w' ⟨rfl, hw⟩
  rw [hbs] at hw ⊢
  obtain ⟨t, hh, hv'⟩ := strs_new hE (Go.Lib.fields s) _ (fun x hx => by have := fieldsGo_each s [] x hx; simp [lim] at this ⊢; omega) (by rw [Go.Lib.fields_length]; have := cntF_le s true; simp [lim]; omega) w' hw
  exact ⟨_, _, { E with w := w' }, rfl, rfl, ⟨rfl, hH⟩, hv', hh, t⟩
end Go.Lz
