/- SD: the types of the program as types of Lean, and as cells; the table of types. -/
import Derived.Test.YtakkdadfikcpoaaDoorLw2
import Derived.Test.YtakkdadfikcpoaaDoorProg
import Derived.KernelRfl
namespace Go.Lz
set_option linter.unusedVariables false
set_option linter.unusedSimpArgs false
open Go.Proofs
structure api_Ins where
  Op : Int
  A : Int
  B_ : Int
  Label : Int
def e_api_Ins (x : api_Ins) : List C := [.int .i64 x.Op, .int .i64 x.A, .int .i64 x.B_, .int .i64 x.Label]
theorem e_api_Ins_def {x : api_Ins} : e_api_Ins x = [.int .i64 x.Op, .int .i64 x.A, .int .i64 x.B_, .int .i64 x.Label] := of_eq_true (eq_self _)
theorem Flat.api_Ins : Flat e_api_Ins := fun m x => by
  rw [e_api_Ins_def]; simp [ltRow, C.lt, lt_eF]
theorem len_api_Ins {x : api_Ins} : (e_api_Ins x).length = 4 := by rw [e_api_Ins_def]; rfl
attribute [go_sem] e_api_Ins_def
theorem Plain.api_Ins : Plain e_api_Ins := fun H k x => by rw [e_api_Ins_def]; simp [vn_int, vn_bool, vn_str, vn_sl, vn_eF]
theorem lr36 {m : Nat} {xs : List api_Ins} : ltRows m (xs.map e_api_Ins) = true := ltRows_flat Flat.api_Ins m xs
theorem vw36 {H : List O} {k : Nat} {xs : List api_Ins} : viewRows H k (xs.map e_api_Ins) = xs.map e_api_Ins := viewRows_plain Plain.api_Ins H k xs
theorem lr5 {m : Nat} {xs : List Int} : ltRows m (xs.map (eK .u8)) = true := ltRows_flat (Flat.K .u8) m xs
theorem vw5 {H : List O} {k : Nat} {xs : List Int} : viewRows H k (xs.map (eK .u8)) = xs.map (eK .u8) := viewRows_plain (Plain.K .u8) H k xs
theorem lr9 {m : Nat} {xs : List Str} : ltRows m (xs.map eS) = true := ltRows_flat Flat.S m xs
theorem vw9 {H : List O} {k : Nat} {xs : List Str} : viewRows H k (xs.map eS) = xs.map eS := viewRows_plain Plain.S H k xs
theorem lr3 {m : Nat} {xs : List Int} : ltRows m (xs.map eI) = true := ltRows_flat (Flat.K .i64) m xs
theorem vw3 {H : List O} {k : Nat} {xs : List Int} : viewRows H k (xs.map eI) = xs.map eI := viewRows_plain (Plain.K .i64) H k xs
theorem eqt36 : eqT Tryd.prog 36 = true := by kernel_rfl
theorem lit36 {a0 : Int} {a1 : Int} {a2 : Int} {a3 : Int} : litC Tryd.prog 20 36 [.int .i64 a0, .int .i64 a1, .int .i64 a2, .int .i64 a3] = some [.i .i64 a0, .i .i64 a1, .i .i64 a2, .i .i64 a3] := by kernel_rfl
theorem ag3 : tAg Tryd.prog 3 = some (false, 1) := by kernel_rfl
theorem tk3 : tK Tryd.prog 3 = some .i64 := by kernel_rfl
theorem z3 : tZ Tryd.prog 3 = some (.one (.int .i64 0)) := by kernel_rfl
theorem un3 : (Tryd.prog.underlying 3).isSome = true := by kernel_rfl
theorem ag4 : tAg Tryd.prog 4 = some (false, 1) := by kernel_rfl
theorem tb4 : tIsBool Tryd.prog 4 = true := by kernel_rfl
theorem z4 : tZ Tryd.prog 4 = some (.one (.bool false)) := by kernel_rfl
theorem ag5 : tAg Tryd.prog 5 = some (false, 1) := by kernel_rfl
theorem tk5 : tK Tryd.prog 5 = some .u8 := by kernel_rfl
theorem z5 : tZ Tryd.prog 5 = some (.one (.int .u8 0)) := by kernel_rfl
theorem un5 : (Tryd.prog.underlying 5).isSome = true := by kernel_rfl
theorem ud5 : Tryd.prog.underlying 5 = some (.int .u8) := by kernel_rfl
theorem ag9 : tAg Tryd.prog 9 = some (false, 1) := by kernel_rfl
theorem ts9 : tIsStr Tryd.prog 9 = true := by kernel_rfl
theorem z9 : tZ Tryd.prog 9 = some (.one (.str [])) := by kernel_rfl
theorem ud9 : Tryd.prog.underlying 9 = some .string := by kernel_rfl
theorem ag21 : tAg Tryd.prog 21 = some (false, 1) := by kernel_rfl
theorem tk21 : tK Tryd.prog 21 = some .i32 := by kernel_rfl
theorem z21 : tZ Tryd.prog 21 = some (.one (.int .i32 0)) := by kernel_rfl
theorem un21 : (Tryd.prog.underlying 21).isSome = true := by kernel_rfl
theorem ag22 : tAg Tryd.prog 22 = some (false, 1) := by kernel_rfl
theorem sl22 : tSl Tryd.prog 22 = some (36, 4, 32) := by kernel_rfl
theorem ar22 : tAr Tryd.prog 22 = none := by kernel_rfl
theorem z22 : tZ Tryd.prog 22 = some (.one (.slf [])) := by kernel_rfl
theorem ag24 : tAg Tryd.prog 24 = some (false, 1) := by kernel_rfl
theorem tk24 : tK Tryd.prog 24 = some .i64 := by kernel_rfl
theorem z24 : tZ Tryd.prog 24 = some (.one (.int .i64 0)) := by kernel_rfl
theorem un24 : (Tryd.prog.underlying 24).isSome = true := by kernel_rfl
theorem ag36 : tAg Tryd.prog 36 = some (true, 4) := by kernel_rfl
theorem pl36 : tPl Tryd.prog 36 = some (fun k => [(0, 1), (1, 1), (2, 1), (3, 1)][k]?) := by kernel_rfl
theorem fd36_0 : tFd Tryd.prog 36 0 = some (0, false, 1) := by kernel_rfl
theorem fd36_1 : tFd Tryd.prog 36 1 = some (1, false, 1) := by kernel_rfl
theorem fd36_2 : tFd Tryd.prog 36 2 = some (2, false, 1) := by kernel_rfl
theorem fd36_3 : tFd Tryd.prog 36 3 = some (3, false, 1) := by kernel_rfl
theorem z36 : tZ Tryd.prog 36 = some (.agg [.int .i64 0, .int .i64 0, .int .i64 0, .int .i64 0]) := by kernel_rfl
theorem ag38 : tAg Tryd.prog 38 = some (false, 1) := by kernel_rfl
theorem z38 : tZ Tryd.prog 38 = some (.one (.nilfn)) := by kernel_rfl
theorem ag40 : tAg Tryd.prog 40 = some (false, 1) := by kernel_rfl
theorem sl40 : tSl Tryd.prog 40 = some (5, 1, 1) := by kernel_rfl
theorem ar40 : tAr Tryd.prog 40 = none := by kernel_rfl
theorem z40 : tZ Tryd.prog 40 = some (.one (.slf [])) := by kernel_rfl
theorem ud40 : Tryd.prog.underlying 40 = some (.slice 5) := by kernel_rfl
theorem ag48 : tAg Tryd.prog 48 = some (false, 1) := by kernel_rfl
theorem sl48 : tSl Tryd.prog 48 = some (9, 1, 16) := by kernel_rfl
theorem ar48 : tAr Tryd.prog 48 = none := by kernel_rfl
theorem z48 : tZ Tryd.prog 48 = some (.one (.slf [])) := by kernel_rfl
theorem ag56 : tAg Tryd.prog 56 = some (false, 1) := by kernel_rfl
theorem sl56 : tSl Tryd.prog 56 = some (3, 1, 8) := by kernel_rfl
theorem ar56 : tAr Tryd.prog 56 = none := by kernel_rfl
theorem z56 : tZ Tryd.prog 56 = some (.one (.slf [])) := by kernel_rfl
theorem ag57 : tAg Tryd.prog 57 = some (false, 1) := by kernel_rfl
theorem tk57 : tK Tryd.prog 57 = some .u32 := by kernel_rfl
theorem z57 : tZ Tryd.prog 57 = some (.one (.int .u32 0)) := by kernel_rfl
theorem un57 : (Tryd.prog.underlying 57).isSome = true := by kernel_rfl
attribute [go_sem] lr36 vw36 lr5 vw5 lr9 vw9 lr3 vw3 eqt36 lit36 ag3 tk3 z3 un3 ag4 tb4 z4 ag5 tk5 z5 un5 ud5 ag9 ts9 z9 ud9 ag21 tk21 z21 un21 ag22 sl22 ar22 z22 ag24 tk24 z24 un24 ag36 pl36 fd36_0 fd36_1 fd36_2 fd36_3 z36 ag38 z38 ag40 sl40 ar40 z40 ud40 ag48 sl48 ar48 z48 ag56 sl56 ar56 z56 ag57 tk57 z57 un57
theorem mo : Tryd.prog.follows .mixedOrders = true := rfl
end Go.Lz

