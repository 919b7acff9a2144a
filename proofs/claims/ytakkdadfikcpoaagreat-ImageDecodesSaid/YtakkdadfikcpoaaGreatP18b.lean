/- P18b: an image's bytes; what is written is read, and what is read was written, in plain words. -/
import Derived.Test.YtakkdadfikcpoaaGreatP18
namespace Go.Lz
set_option linter.unusedVariables false
set_option linter.unusedSimpArgs false
set_option maxRecDepth 100000
def nums (l : List Int) : Str := l.flatMap four8
theorem nums_len (l : List Int) : (nums l).length = 4 * l.length := flat_len l fun x _ => four8_len x
theorem nums_one (n : Int) : nums [n] = four8 n := by simp [nums]
def encText (s : Str) : Str := four8 s.length ++ s
def encPair (p : A2 Int) : Str := nums [p.a0, p.a1]
def encSite (s : api_Site) : Str := nums [s.From, s.To]
def encVar (v : api_Var) : Str := nums [v.Type_.Kind, v.Type_.Low, v.Type_.Len, v.Mode, v.Label, v.Safe]
def encBlock (b : api_Block) : Str := encText b.Kind ++ four8 b.Label
def encTask (t : api_Task) : Str := nums [t.Every, t.Priority] ++ nums t.Budget
def encTail (m : api_Image) : Str := four8 m.Tasks.length ++ (m.Tasks.flatMap encTask ++ m.Code.flatMap encCode)
def encBody (m : api_Image) : Str :=
  four8 m.Lattice.Names.length ++ (m.Lattice.Names.flatMap encText ++ (four8 m.Lattice.Below.length ++ (m.Lattice.Below.flatMap encPair ++ (four8 m.Sites.length ++ (m.Sites.flatMap encSite ++
  (four8 m.Vars.length ++ (m.Vars.flatMap encVar ++ (four8 m.Blocks.length ++ (m.Blocks.flatMap encBlock ++ encTail m)))))))))
def pre4 : Str := [76, 90, 82, 49]
theorem pre4_len : pre4.length = 4 := rfl
def encImage (m : api_Image) : Str := pre4 ++ encBody m
/-- A loop that writes numbers in four bytes each. -/
theorem nums_loop {l : List Int} {f : (List Int × Nat) → Option ((List Int × Nat) ⊕ List Int)} {G : Int → (List Int × Nat) → Option ((List Int × Nat) ⊕ List Int)}
    (hf : ∀ xs p, f (xs, p) = if (p : Int) < (l.length : Int) then ((l[p]?).bind fun x => (loop (G x) (xs, 0)).bind fun e => some (.inl (e, p + 1))) else some (.inr xs))
    (hG : ∀ x m p, G x (m, p) = if (p : Int) < 4 then (([x.fdiv 16777216, x.fdiv 65536, x.fdiv 256, x][p]?).bind fun y => need ((m.length + 1) * 1 ≤ 140737488355328) (some (.inl (m ++ [IntKind.u8.wrap y], p + 1)))) else some (.inr m))
    {b : Str} (h : b.length + 4 * l.length ≤ 140737488355328) : loop f (sBytes b, 0) = some (sBytes (b ++ nums l)) := by
  refine loop_app (g := fun b => b) (fun b i hi hb => ?_) (fun b => by rw [hf, if_neg (by omega)]) b (by have := nums_len l; unfold nums at this; omega)
  rw [hf, if_pos (by omega), List.getElem?_eq_getElem hi, Option.bind_some, four_loop (hG _) (by simpa [four8_len] using hb), Option.bind_some]
theorem num_loop {n : Int} {f : (List Int × Nat) → Option ((List Int × Nat) ⊕ List Int)} {G : Int → (List Int × Nat) → Option ((List Int × Nat) ⊕ List Int)}
    (hf : ∀ xs p, f (xs, p) = if (p : Int) < 1 then (([n][p]?).bind fun x => (loop (G x) (xs, 0)).bind fun e => some (.inl (e, p + 1))) else some (.inr xs))
    (hG : ∀ x m p, G x (m, p) = if (p : Int) < 4 then (([x.fdiv 16777216, x.fdiv 65536, x.fdiv 256, x][p]?).bind fun y => need ((m.length + 1) * 1 ≤ 140737488355328) (some (.inl (m ++ [IntKind.u8.wrap y], p + 1)))) else some (.inr m))
    {b : Str} (h : b.length + 4 ≤ 140737488355328) : loop f (sBytes b, 0) = some (sBytes (b ++ four8 n)) := by
  have := nums_loop (l := [n]) (f := f) hf hG (b := b) (by simpa using h)
  rw [this, nums_one]
theorem sB_text (x : Str) : (x.map fun b => (b.toNat : Int)) = sBytes x := rfl
theorem encImg {m : api_Image} (h : imgC m = 0) : image_Encode m = some (encImage m, 0) := by
  have F := imgFine h
  have S := F.sm
  have P := F.pt
  have n1 := S.nm; have n2 := S.bl; have n3 := S.st; have n4 := S.vr; have n5 := S.bk; have n6 := S.tk
  have n7 : m.Code.length ≤ 4 := by rw [← P.tc]; exact n6
  have l1 : (m.Lattice.Names.flatMap encText).length ≤ 36 * m.Lattice.Names.length := flat_le _ fun x hx => by
    have := S.tx x hx; unfold encText; rw [List.length_append, four8_len]; omega
  have l2 : (m.Lattice.Below.flatMap encPair).length = 8 * m.Lattice.Below.length := flat_len _ fun x hx => nums_len _
  have l3 : (m.Sites.flatMap encSite).length = 8 * m.Sites.length := flat_len _ fun x hx => nums_len _
  have l4 : (m.Vars.flatMap encVar).length = 24 * m.Vars.length := flat_len _ fun x hx => nums_len _
  have l5 : (m.Blocks.flatMap encBlock).length ≤ 40 * m.Blocks.length := flat_le _ fun x hx => by
    have := (P.bk x hx).kd; unfold encBlock encText; rw [List.length_append, List.length_append, four8_len, four8_len]; omega
  have l6 : (m.Tasks.flatMap encTask).length ≤ 40 * m.Tasks.length := flat_le _ fun x hx => by
    have := (P.tk x hx).bl; unfold encTask; rw [List.length_append, nums_len, nums_len]; simp only [List.length_cons, List.length_nil]; omega
  have l7 : (m.Code.flatMap encCode).length ≤ 229380 * m.Code.length := flat_le _ fun x hx => by
    have := (codeC_zero.1 (P.cd x hx)).1; rw [encCode_len]; omega
  unfold image_Encode
  rw [imgCheck, h, Option.bind_some, if_pos rfl]
  rw [show (([76, 90, 82, 49] : List Int), 0) = (sBytes pre4, 0) from rfl]
  rw [num_loop (n := (m.Lattice.Names.length : Int)) (fun _ _ => rfl) (fun _ _ _ => rfl) (by simp [pre4]), Option.bind_some]
  rw [loop_app (l := m.Lattice.Names) (w := encText) (g := fun b => b) (fun b i hi hb => by
    simp only [image_Encode_L3]
    unfold encText at hb ⊢
    rw [List.length_append, four8_len] at hb
    rw [if_pos (by omega), List.getElem?_eq_getElem hi, Option.bind_some, num_loop (n := ((m.Lattice.Names[i]).length : Int)) (fun _ _ => rfl) (fun _ _ _ => rfl) (by omega), Option.bind_some, need_of (by rw [sB_len, List.length_append, four8_len]; omega), sB_text, ← sB_app, List.append_assoc]) (fun b => by simp only [image_Encode_L3]; rw [if_neg (by omega)]) _ (by simp only [List.length_append, four8_len, pre4_len]; omega), Option.bind_some]
  rw [num_loop (n := (m.Lattice.Below.length : Int)) (fun _ _ => rfl) (fun _ _ _ => rfl) (by simp only [List.length_append, four8_len, pre4_len]; omega), Option.bind_some]
  rw [loop_app (l := m.Lattice.Below) (w := encPair) (g := fun b => b) (fun b i hi hb => by
    simp only [image_Encode_L8]
    unfold encPair at hb ⊢
    rw [nums_len] at hb
    rw [if_pos (by omega), List.getElem?_eq_getElem hi, Option.bind_some, nums_loop (l := [m.Lattice.Below[i].a0, m.Lattice.Below[i].a1]) (fun _ _ => rfl) (fun _ _ _ => rfl) (by simpa using hb), Option.bind_some]) (fun b => by simp only [image_Encode_L8]; rw [if_neg (by omega)]) _ (by simp only [List.length_append, four8_len, pre4_len, l2]; omega), Option.bind_some]
  rw [num_loop (n := (m.Sites.length : Int)) (fun _ _ => rfl) (fun _ _ _ => rfl) (by simp only [List.length_append, four8_len, pre4_len, l2]; omega), Option.bind_some]
  rw [loop_app (l := m.Sites) (w := encSite) (g := fun b => b) (fun b i hi hb => by
    simp only [image_Encode_L13]
    unfold encSite at hb ⊢
    rw [nums_len] at hb
    rw [if_pos (by omega), List.getElem?_eq_getElem hi, Option.bind_some, nums_loop (l := [m.Sites[i].From, m.Sites[i].To]) (fun _ _ => rfl) (fun _ _ _ => rfl) (by simpa using hb), Option.bind_some]) (fun b => by simp only [image_Encode_L13]; rw [if_neg (by omega)]) _ (by simp only [List.length_append, four8_len, pre4_len, l2, l3]; omega), Option.bind_some]
  rw [num_loop (n := (m.Vars.length : Int)) (fun _ _ => rfl) (fun _ _ _ => rfl) (by simp only [List.length_append, four8_len, pre4_len, l2, l3]; omega), Option.bind_some]
  rw [loop_app (l := m.Vars) (w := encVar) (g := fun b => b) (fun b i hi hb => by
    simp only [image_Encode_L18]
    unfold encVar at hb ⊢
    rw [nums_len] at hb
    rw [if_pos (by omega), List.getElem?_eq_getElem hi, Option.bind_some, nums_loop (l := [m.Vars[i].Type_.Kind, m.Vars[i].Type_.Low, m.Vars[i].Type_.Len, m.Vars[i].Mode, m.Vars[i].Label, m.Vars[i].Safe]) (fun _ _ => rfl) (fun _ _ _ => rfl) (by simpa using hb), Option.bind_some]) (fun b => by simp only [image_Encode_L18]; rw [if_neg (by omega)]) _ (by simp only [List.length_append, four8_len, pre4_len, l2, l3, l4]; omega), Option.bind_some]
  rw [num_loop (n := (m.Blocks.length : Int)) (fun _ _ => rfl) (fun _ _ _ => rfl) (by simp only [List.length_append, four8_len, pre4_len, l2, l3, l4]; omega), Option.bind_some]
  rw [loop_app (l := m.Blocks) (w := encBlock) (g := fun b => b) (fun b i hi hb => by
    simp only [image_Encode_L23]
    unfold encBlock encText at hb ⊢
    rw [List.length_append, List.length_append, four8_len, four8_len] at hb
    rw [if_pos (by omega), List.getElem?_eq_getElem hi, Option.bind_some, num_loop (n := ((m.Blocks[i].Kind).length : Int)) (fun _ _ => rfl) (fun _ _ _ => rfl) (by omega), Option.bind_some, need_of (by rw [sB_len, List.length_append, four8_len]; omega), sB_text, ← sB_app,
      num_loop (n := m.Blocks[i].Label) (fun _ _ => rfl) (fun _ _ _ => rfl) (by simp only [List.length_append, four8_len, pre4_len]; omega), Option.bind_some]
    simp only [List.append_assoc]) (fun b => by simp only [image_Encode_L23]; rw [if_neg (by omega)]) _ (by simp only [List.length_append, four8_len, pre4_len, l2, l3, l4]; omega), Option.bind_some]
  rw [num_loop (n := (m.Tasks.length : Int)) (fun _ _ => rfl) (fun _ _ _ => rfl) (by simp only [List.length_append, four8_len, pre4_len, l2, l3, l4]; omega), Option.bind_some]
  rw [loop_app (l := m.Tasks) (w := encTask) (g := fun b => b) (fun b i hi hb => by
    simp only [image_Encode_L30]
    unfold encTask at hb ⊢
    rw [List.length_append, nums_len, nums_len] at hb
    simp only [List.length_cons, List.length_nil] at hb
    rw [if_pos (by omega), List.getElem?_eq_getElem hi, Option.bind_some, nums_loop (l := [m.Tasks[i].Every, m.Tasks[i].Priority]) (fun _ _ => rfl) (fun _ _ _ => rfl) (by simp only [List.length_cons, List.length_nil]; omega), Option.bind_some,
      nums_loop (l := m.Tasks[i].Budget) (fun _ _ => rfl) (fun _ _ _ => rfl) (by rw [List.length_append, nums_len]; simp only [List.length_cons, List.length_nil]; omega), Option.bind_some, List.append_assoc]) (fun b => by simp only [image_Encode_L30]; rw [if_neg (by omega)]) _ (by simp only [List.length_append, four8_len, pre4_len, l2, l3, l4]; omega), Option.bind_some]
  rw [loop_app (l := m.Code) (w := encCode) (g := fun b => b) (fun b i hi hb => by
    simp only [image_Encode_L35]
    rw [if_pos (by omega), List.getElem?_eq_getElem hi, Option.bind_some, Encode_ok (P.cd _ (List.getElem_mem hi)), Option.bind_some, need_of (by rw [sB_len]; omega), sB_text, ← sB_app]) (fun b => by simp only [image_Encode_L35]; rw [if_neg (by omega)]) _ (by simp only [List.length_append, four8_len, pre4_len, l2, l3, l4]; omega), Option.bind_some]
  rw [iB_sB]
  unfold encImage encBody encTail
  simp only [List.append_assoc]
theorem encBad {m : api_Image} (h : imgC m ≠ 0) : image_Encode m = some ([], imgC m) := by
  unfold image_Encode
  rw [imgCheck, Option.bind_some, if_neg h]
end Go.Lz
