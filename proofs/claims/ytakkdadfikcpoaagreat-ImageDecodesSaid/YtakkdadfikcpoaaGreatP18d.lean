/- P18d: images are read as they were written, and nothing else is read; the laws of chapter 18 on this in plain words. -/
import Derived.Test.YtakkdadfikcpoaaGreatP18c
namespace Go.Lz
set_option linter.unusedVariables false
set_option linter.unusedSimpArgs false
set_option maxRecDepth 100000
theorem hf1 (r : Int × Str × Bool) : ∀ s b xs (i : Nat), image_Decode_L1 r (s, b, xs, i) = if (i : Int) < r.1 then ((image_reader_text s b).bind fun r => need ((xs.length + 1) * 16 ≤ 140737488355328) (some (.inl (r.2.1, r.2.2, xs ++ [r.1], i + 1)))) else some (.inr (s, b, xs)) := fun _ _ _ _ => rfl
theorem hf2 (r : Int × Str × Bool) : ∀ s b xs (i : Nat), image_Decode_L2 r (s, b, xs, i) = if (i : Int) < r.1 then ((itPair s b).bind fun r => need ((xs.length + 1) * 16 ≤ 140737488355328) (some (.inl (r.2.1, r.2.2, xs ++ [r.1], i + 1)))) else some (.inr (s, b, xs)) := fun _ _ _ _ => by
  simp only [image_Decode_L2, itPair, Option.bind_assoc, Option.bind_some]
theorem hf3 (r : Int × Str × Bool) : ∀ s b xs (i : Nat), image_Decode_L3 r (s, b, xs, i) = if (i : Int) < r.1 then ((itSite s b).bind fun r => need ((xs.length + 1) * 32 ≤ 140737488355328) (some (.inl (r.2.1, r.2.2, xs ++ [r.1], i + 1)))) else some (.inr (s, b, xs)) := fun _ _ _ _ => by
  simp only [image_Decode_L3, itSite, Option.bind_assoc, Option.bind_some]
theorem hf4 (r : Int × Str × Bool) : ∀ s b xs (i : Nat), image_Decode_L4 r (s, b, xs, i) = if (i : Int) < r.1 then ((itVar s b).bind fun r => need ((xs.length + 1) * 64 ≤ 140737488355328) (some (.inl (r.2.1, r.2.2, xs ++ [r.1], i + 1)))) else some (.inr (s, b, xs)) := fun _ _ _ _ => by
  simp only [image_Decode_L4, itVar, Option.bind_assoc, Option.bind_some]
theorem hf5 (r : Int × Str × Bool) : ∀ s b xs (i : Nat), image_Decode_L5 r (s, b, xs, i) = if (i : Int) < r.1 then ((itBlock s b).bind fun r => need ((xs.length + 1) * 40 ≤ 140737488355328) (some (.inl (r.2.1, r.2.2, xs ++ [r.1], i + 1)))) else some (.inr (s, b, xs)) := fun _ _ _ _ => by
  simp only [image_Decode_L5, itBlock, Option.bind_assoc, Option.bind_some]
theorem hf6 (names : List Str) (r : Int × Str × Bool) : ∀ s b xs (i : Nat), image_Decode_L6 names r (s, b, xs, i) = if (i : Int) < r.1 then ((itTask names s b).bind fun r => need ((xs.length + 1) * 64 ≤ 140737488355328) (some (.inl (r.2.1, r.2.2, xs ++ [r.1], i + 1)))) else some (.inr (s, b, xs)) := fun _ _ _ _ => by
  simp only [image_Decode_L6, itTask, Option.bind_assoc, Option.bind_some]
theorem code_t (tasks : List api_Task) (h : tasks.length ≤ 1000) (s : Str) : Tot (loop (image_Decode_L8 tasks) (s, [], 0)) fun r => match r with
    | .inl e => e = ((⟨⟨[], []⟩, [], [], [], [], []⟩ : api_Image), (8 : Int))
    | .inr p => s = p.2.flatMap encCode ++ p.1 := by
  refine Tot.loop (fun (t, xs, i) => xs.length = i ∧ i ≤ tasks.length ∧ s = xs.flatMap encCode ++ t) (fun (t, xs, i) => tasks.length - i) ⟨rfl, by simp, by simp⟩ ?_
  rintro ⟨t, xs, i⟩ ⟨hl, hi, hx⟩
  simp only at hl hi hx ⊢
  simp only [image_Decode_L8]
  refine Tot.ite (fun hlt => ?_) (fun _ => Tot.mk hx)
  refine (Read_inv t).bind fun r hr => ?_
  refine Tot.ite (fun hc => ?_) (fun _ => Tot.mk rfl)
  obtain ⟨h1, h2, h3, h4⟩ := hr hc
  rw [need_of (by omega), need_of (by omega)]
  refine Tot.mk ⟨⟨by rw [List.length_append]; simp; omega, by show i + 1 ≤ _; omega, ?_⟩, by show tasks.length - (i + 1) < tasks.length - i; omega⟩
  simp only [List.flatMap_append, List.append_assoc, List.flatMap_cons, List.flatMap_nil, List.nil_append]
  rw [← h4]; exact hx
theorem code_fwd (tasks : List api_Task) (h : tasks.length ≤ 1000) {code : List (List api_Ins)} (hl : code.length = tasks.length) (hc : ∀ c ∈ code, codeC c = 0) (s : Str) : loop (image_Decode_L8 tasks) (code.flatMap encCode ++ s, [], 0) = some (.inr (s, code)) := by
  refine loop_for (fun i => ((code.drop i).flatMap encCode ++ s, code.take i, i)) code.length _ (fun i hi => ?_) ?_
  · simp only [image_Decode_L8]
    rw [if_pos (by omega), drop_cons hi, List.flatMap_cons, List.append_assoc, Read_fwd (hc _ (List.getElem_mem hi)), Option.bind_some]
    simp only
    have hlen : (encCode code[i] ++ ((code.drop (i + 1)).flatMap encCode ++ s)).length = 4 + 7 * code[i].length + ((code.drop (i + 1)).flatMap encCode ++ s).length := by rw [List.length_append, encCode_len]
    rw [if_pos trivial, need_of (by omega), need_of (by rw [List.length_take]; omega), show (4 + 7 * (code[i].length : Int)).toNat = 4 + 7 * code[i].length by omega, List.drop_left' (encCode_len _), List.take_add_one, List.getElem?_eq_getElem hi]
    rfl
  · simp only [image_Decode_L8]
    rw [if_neg (by omega), List.drop_length, List.take_length]
    rfl
abbrev noImg : api_Image := ⟨⟨[], []⟩, [], [], [], [], []⟩
theorem dec_t (s : Str) : Tot (image_Decode s) fun r => r = (noImg, 8) ∨ (r.2 = 0 ∧ imgC r.1 = 0 ∧ s = encImage r.1) := by
  unfold image_Decode
  refine Tot.ite (fun _ => Tot.mk (.inl rfl)) (fun h4 => ?_)
  rw [need_of (by omega)]
  refine Tot.ite (fun hp => ?_) (fun _ => Tot.mk (.inl rfl))
  rw [need_of (by omega)]
  have hs : s = pre4 ++ s.drop 4 := by
    have := List.take_append_drop 4 s
    rw [hp] at this; exact this.symm
  refine (count_t _ _ (by omega : (0 : Int) ≤ 8)).bind fun c1 ⟨⟨z1, y1⟩, k1⟩ => ?_
  rw [need_of (by omega)]
  refine (rd_t (ok := fun s : Str => s.length ≤ 32) (enc := encText) (hf1 c1) text_t z1 (by omega) (by omega) _ _).bind ?_
  rintro ⟨s1, b1, names⟩ ⟨n1, g1⟩
  simp only at n1 g1 ⊢
  refine (count_t _ _ (by omega : (0 : Int) ≤ 64)).bind fun c2 ⟨⟨z2, y2⟩, k2⟩ => ?_
  rw [need_of (by omega)]
  refine (rd_t (ok := okPair) (enc := encPair) (hf2 c2) itPair_t z2 (by omega) (by omega) _ _).bind ?_
  rintro ⟨s2, b2, below⟩ ⟨n2, g2⟩
  simp only at n2 g2 ⊢
  refine (count_t _ _ (by omega : (0 : Int) ≤ 8)).bind fun c3 ⟨⟨z3, y3⟩, k3⟩ => ?_
  rw [need_of (by omega)]
  refine (rd_t (ok := okSite) (enc := encSite) (hf3 c3) itSite_t z3 (by omega) (by omega) _ _).bind ?_
  rintro ⟨s3, b3, sites⟩ ⟨n3, g3⟩
  simp only at n3 g3 ⊢
  refine (count_t _ _ (by omega : (0 : Int) ≤ 96)).bind fun c4 ⟨⟨z4, y4⟩, k4⟩ => ?_
  rw [need_of (by omega)]
  refine (rd_t (ok := okVar) (enc := encVar) (hf4 c4) itVar_t z4 (by omega) (by omega) _ _).bind ?_
  rintro ⟨s4, b4, vars⟩ ⟨n4, g4⟩
  simp only at n4 g4 ⊢
  refine (count_t _ _ (by omega : (0 : Int) ≤ 12)).bind fun c5 ⟨⟨z5, y5⟩, k5⟩ => ?_
  rw [need_of (by omega)]
  refine (rd_t (ok := okBlock) (enc := encBlock) (hf5 c5) itBlock_t z5 (by omega) (by omega) _ _).bind ?_
  rintro ⟨s5, b5, blocks⟩ ⟨n5, g5⟩
  simp only at n5 g5 ⊢
  refine (count_t _ _ (by omega : (0 : Int) ≤ 4)).bind fun c6 ⟨⟨z6, y6⟩, k6⟩ => ?_
  rw [need_of (by omega)]
  refine (rd_t (ok := okTask names.length) (enc := encTask) (hf6 names c6) (itTask_t names (by omega)) z6 (by omega) (by omega) _ _).bind ?_
  rintro ⟨s6, b6, tasks⟩ ⟨n6, g6⟩
  simp only at n6 g6 ⊢
  refine (code_t tasks (by omega) s6).bind ?_
  rintro (e | ⟨s7, code⟩) hc
  · simp only at hc ⊢
    exact Tot.mk (.inl hc)
  simp only at hc ⊢
  refine Tot.ite (fun _ => Tot.mk (.inl rfl)) (fun hb => ?_)
  refine Tot.ite (fun h7 => ?_) (fun _ => Tot.mk (.inl rfl))
  subst h7
  rw [imgCheck, Option.bind_some]
  refine Tot.ite (fun hz => ?_) (fun _ => Tot.mk (.inl rfl))
  refine Tot.mk (.inr ⟨rfl, hz, ?_⟩)
  obtain ⟨f6, _, e6⟩ := g6 (by simpa using hb)
  obtain ⟨f6', e6'⟩ := k6 f6
  obtain ⟨f5, _, e5⟩ := g5 f6'
  obtain ⟨f5', e5'⟩ := k5 f5
  obtain ⟨f4, _, e4⟩ := g4 f5'
  obtain ⟨f4', e4'⟩ := k4 f4
  obtain ⟨f3, _, e3⟩ := g3 f4'
  obtain ⟨f3', e3'⟩ := k3 f3
  obtain ⟨f2, _, e2⟩ := g2 f3'
  obtain ⟨f2', e2'⟩ := k2 f2
  obtain ⟨f1, _, e1⟩ := g1 f2'
  obtain ⟨_, e1'⟩ := k1 f1
  rw [hs]
  unfold encImage encBody encTail
  simp only
  rw [List.append_nil] at hc
  rw [n1, n2, n3, n4, n5, n6, ← hc, ← e6, ← e6', ← e5, ← e5', ← e4, ← e4', ← e3, ← e3', ← e2, ← e2', ← e1, ← e1']
theorem i32 {n : Int} {k : Nat} (h : 0 ≤ n ∧ n < k) (hk : k ≤ 8) : I32 n := by unfold I32; omega
/-- What is read of an image's bytes with some others behind them. -/
theorem dec_fwd {m : api_Image} (hm : imgC m = 0) (x : Str) : image_Decode (encImage m ++ x) = some (if x = [] then (m, 0) else (noImg, 8)) := by
  have F := imgFine hm
  have S := F.sm
  have P := F.pt
  have n1 := S.nm; have n2 := S.bl; have n3 := S.st; have n4 := S.vr; have n5 := S.bk; have n6 := S.tk
  have hl : (encImage m ++ x).length = 4 + (encBody m ++ x).length := by
    unfold encImage; rw [List.append_assoc, List.length_append, pre4_len]
  have ht : (encImage m ++ x).take 4 = [76, 90, 82, 49] := by
    show _ = pre4
    unfold encImage; rw [List.append_assoc, List.take_left' pre4_len]
  have hd : (encImage m ++ x).drop 4 = encBody m ++ x := by
    unfold encImage; rw [List.append_assoc, List.drop_left' pre4_len]
  unfold image_Decode
  rw [if_neg (by omega), need_of (by omega), if_pos ht, need_of (by omega), hd]
  unfold encBody encTail
  simp only [List.append_assoc]
  rw [count_fwd (by omega) (by omega) (by omega), Option.bind_some]
  simp only
  rw [need_of (by omega), rd_fwd (ok := fun s : Str => s.length ≤ 32) (enc := encText) (hf1 _) (fun x s h => text_fwd h s) (by omega) S.tx rfl (by simp only; omega), Option.bind_some]
  simp only
  rw [count_fwd (by omega) (by omega) (by omega), Option.bind_some]
  simp only
  rw [need_of (by omega), rd_fwd (ok := okPair) (enc := encPair) (hf2 _) itPair_f (by omega) (fun p hp => ⟨i32 (F.bl p hp).1 n1, i32 (F.bl p hp).2 n1⟩) rfl (by simp only; omega), Option.bind_some]
  simp only
  rw [count_fwd (by omega) (by omega) (by omega), Option.bind_some]
  simp only
  rw [need_of (by omega), rd_fwd (ok := okSite) (enc := encSite) (hf3 _) itSite_f (by omega) (fun p hp => ⟨(P.st p hp).nm, i32 (P.st p hp).fr n1, i32 (P.st p hp).to n1⟩) rfl (by simp only; omega), Option.bind_some]
  simp only
  rw [count_fwd (by omega) (by omega) (by omega), Option.bind_some]
  simp only
  rw [need_of (by omega), rd_fwd (ok := okVar) (enc := encVar) (hf4 _) itVar_f (by omega) (fun p hp => by
    obtain ⟨a, b, c, d, e, f, g⟩ := P.vr p hp
    exact ⟨a, by unfold I32; omega, by unfold I32; omega, by unfold I32; omega, by unfold I32; omega, i32 f n1, g⟩) rfl (by simp only; omega), Option.bind_some]
  simp only
  rw [count_fwd (by omega) (by omega) (by omega), Option.bind_some]
  simp only
  rw [need_of (by omega), rd_fwd (ok := okBlock) (enc := encBlock) (hf5 _) itBlock_f (by omega) (fun p hp => ⟨(P.bk p hp).nm, (P.bk p hp).kd, i32 (P.bk p hp).lb n1⟩) rfl (by simp only; omega), Option.bind_some]
  simp only
  rw [count_fwd (by omega) (by omega) (by omega), Option.bind_some]
  simp only
  rw [need_of (by omega), rd_fwd (ok := okTask m.Lattice.Names.length) (enc := encTask) (hf6 _ _) (itTask_f _ n1) (by omega) (fun p hp => by
    obtain ⟨a, b, c, d, e⟩ := P.tk p hp
    exact ⟨by unfold I32; omega, by unfold I32; omega, c, d, e⟩) rfl (by simp only; omega), Option.bind_some]
  simp only
  rw [code_fwd m.Tasks (by omega) P.tc.symm P.cd, Option.bind_some]
  simp only
  rw [if_neg (by simp)]
  by_cases hx : x = []
  · rw [if_pos hx, if_pos hx]
    have e : image_Check ⟨⟨m.Lattice.Names, m.Lattice.Below⟩, m.Sites, m.Vars, m.Blocks, m.Tasks, m.Code⟩ = some 0 := by rw [← hm]; exact imgCheck m
    rw [e, Option.bind_some, if_pos rfl]
  · rw [if_neg hx, if_neg hx]
end Go.Lz
