/- SD: the types of the program as types of Lean, and as cells; the table of types. -/
import Derived.Test.YtakkdadfikcpoaaLw2
import Derived.Test.YtakkdadfikcpoaaProg
import Derived.KernelRfl
namespace Go.Lz
set_option linter.unusedVariables false
set_option linter.unusedSimpArgs false
open Go.Proofs
structure A2 (α : Type) where
  a0 : α
  a1 : α
  deriving DecidableEq
def eA2 {α : Type} (f : α → List C) (x : A2 α) : List C := f x.a0 ++ f x.a1
theorem eA2_def {α : Type} {f : α → List C} {x : A2 α} : eA2 f x = f x.a0 ++ f x.a1 := of_eq_true (eq_self _)
theorem Flat.A2 {α : Type} {f : α → List C} (h : Flat f) : Flat (eA2 f) := fun m x => by
  rw [eA2_def]; simp [ltRow_app, h m]
attribute [go_sem] eA2_def
structure A4 (α : Type) where
  a0 : α
  a1 : α
  a2 : α
  a3 : α
  deriving DecidableEq
def eA4 {α : Type} (f : α → List C) (x : A4 α) : List C := f x.a0 ++ f x.a1 ++ f x.a2 ++ f x.a3
theorem eA4_def {α : Type} {f : α → List C} {x : A4 α} : eA4 f x = f x.a0 ++ f x.a1 ++ f x.a2 ++ f x.a3 := of_eq_true (eq_self _)
theorem Flat.A4 {α : Type} {f : α → List C} (h : Flat f) : Flat (eA4 f) := fun m x => by
  rw [eA4_def]; simp [ltRow_app, h m]
attribute [go_sem] eA4_def
structure api_Lattice where
  Names : List Str
  Below : List (A2 Int)
def e_api_Lattice (x : api_Lattice) : List C := [.sl (x.Names.map eS), .sl (x.Below.map (eA2 eI))]
theorem e_api_Lattice_def {x : api_Lattice} : e_api_Lattice x = [.sl (x.Names.map eS), .sl (x.Below.map (eA2 eI))] := of_eq_true (eq_self _)
theorem Flat.api_Lattice : Flat e_api_Lattice := fun m x => by
  rw [e_api_Lattice_def]; simp [ltRow, C.lt, lt_eF, ltRows_flat Flat.S, ltRows_flat (Flat.A2 (Flat.K .i64))]
theorem len_api_Lattice {x : api_Lattice} : (e_api_Lattice x).length = 2 := by rw [e_api_Lattice_def]; rfl
attribute [go_sem] e_api_Lattice_def
structure api_Site where
  Name : Str
  From : Int
  To : Int
def e_api_Site (x : api_Site) : List C := [.str x.Name, .int .i64 x.From, .int .i64 x.To]
theorem e_api_Site_def {x : api_Site} : e_api_Site x = [.str x.Name, .int .i64 x.From, .int .i64 x.To] := of_eq_true (eq_self _)
theorem Flat.api_Site : Flat e_api_Site := fun m x => by
  rw [e_api_Site_def]; simp [ltRow, C.lt, lt_eF]
theorem len_api_Site {x : api_Site} : (e_api_Site x).length = 3 := by rw [e_api_Site_def]; rfl
attribute [go_sem] e_api_Site_def
structure api_Type where
  Kind : Int
  Low : Int
  Len : Int
def e_api_Type (x : api_Type) : List C := [.int .i64 x.Kind, .int .i64 x.Low, .int .i64 x.Len]
theorem e_api_Type_def {x : api_Type} : e_api_Type x = [.int .i64 x.Kind, .int .i64 x.Low, .int .i64 x.Len] := of_eq_true (eq_self _)
theorem Flat.api_Type : Flat e_api_Type := fun m x => by
  rw [e_api_Type_def]; simp [ltRow, C.lt, lt_eF]
theorem len_api_Type {x : api_Type} : (e_api_Type x).length = 3 := by rw [e_api_Type_def]; rfl
attribute [go_sem] e_api_Type_def
structure api_Var where
  Name : Str
  Type_ : api_Type
  Mode : Int
  Label : Int
  Safe : Int
def e_api_Var (x : api_Var) : List C := [.str x.Name, .int .i64 x.Type_.Kind, .int .i64 x.Type_.Low, .int .i64 x.Type_.Len, .int .i64 x.Mode, .int .i64 x.Label, .int .i64 x.Safe]
theorem e_api_Var_def {x : api_Var} : e_api_Var x = [.str x.Name, .int .i64 x.Type_.Kind, .int .i64 x.Type_.Low, .int .i64 x.Type_.Len, .int .i64 x.Mode, .int .i64 x.Label, .int .i64 x.Safe] := of_eq_true (eq_self _)
theorem Flat.api_Var : Flat e_api_Var := fun m x => by
  rw [e_api_Var_def]; simp [ltRow, C.lt, lt_eF]
theorem len_api_Var {x : api_Var} : (e_api_Var x).length = 7 := by rw [e_api_Var_def]; rfl
attribute [go_sem] e_api_Var_def
structure api_Block where
  Name : Str
  Kind : Str
  Label : Int
def e_api_Block (x : api_Block) : List C := [.str x.Name, .str x.Kind, .int .i64 x.Label]
theorem e_api_Block_def {x : api_Block} : e_api_Block x = [.str x.Name, .str x.Kind, .int .i64 x.Label] := of_eq_true (eq_self _)
theorem Flat.api_Block : Flat e_api_Block := fun m x => by
  rw [e_api_Block_def]; simp [ltRow, C.lt, lt_eF]
theorem len_api_Block {x : api_Block} : (e_api_Block x).length = 3 := by rw [e_api_Block_def]; rfl
attribute [go_sem] e_api_Block_def
structure api_Expr where
  Op : Int
  N : Int
  Kind : Int
  Name : Str
  Args : List api_Expr
mutual
def e_api_Expr : api_Expr → List C
  | ⟨Op, N, Kind, Name, Args⟩ => [.int .i64 Op, .int .i64 N, .int .i64 Kind, .str Name, .sl (es_api_Expr Args)]
def es_api_Expr : List api_Expr → List (List C)
  | [] => []
  | x :: xs => e_api_Expr x :: es_api_Expr xs
end
theorem es_api_Expr_eq : ∀ (xs : List api_Expr), es_api_Expr xs = xs.map e_api_Expr
  | [] => rfl
  | x :: xs => by rw [es_api_Expr, es_api_Expr_eq xs]; rfl
theorem e_api_Expr_def {x : api_Expr} : e_api_Expr x = [.int .i64 x.Op, .int .i64 x.N, .int .i64 x.Kind, .str x.Name, .sl (x.Args.map e_api_Expr)] := by
  cases x; simp only [e_api_Expr, es_api_Expr_eq]
mutual
theorem Flat.api_Expr_1 (m : Nat) : ∀ (x : api_Expr), ltRow m (e_api_Expr x) = true
  | ⟨Op, N, Kind, Name, Args⟩ => by
    rw [e_api_Expr]; simp [ltRow, C.lt, Flat.api_Expr_2 m Args]
theorem Flat.api_Expr_2 (m : Nat) : ∀ (xs : List api_Expr), ltRows m (es_api_Expr xs) = true
  | [] => rfl
  | x :: xs => by rw [es_api_Expr, ltRows, Flat.api_Expr_1 m x, Flat.api_Expr_2 m xs]; rfl
end
theorem Flat.api_Expr : Flat e_api_Expr := fun m x => Flat.api_Expr_1 m x
theorem len_api_Expr {x : api_Expr} : (e_api_Expr x).length = 5 := by rw [e_api_Expr_def]; rfl
attribute [go_sem] e_api_Expr_def
structure api_Stmt where
  Kind : Int
  Name : Str
  Target : api_Expr
  Value : api_Expr
  Args : List api_Expr
  Body : List api_Stmt
  Else : List api_Stmt
mutual
def e_api_Stmt : api_Stmt → List C
  | ⟨Kind, Name, Target, Value, Args, Body, Else⟩ => [.int .i64 Kind, .str Name, .int .i64 Target.Op, .int .i64 Target.N, .int .i64 Target.Kind, .str Target.Name, .sl (Target.Args.map e_api_Expr), .int .i64 Value.Op, .int .i64 Value.N, .int .i64 Value.Kind, .str Value.Name, .sl (Value.Args.map e_api_Expr), .sl (Args.map e_api_Expr), .sl (es_api_Stmt Body), .sl (es_api_Stmt Else)]
def es_api_Stmt : List api_Stmt → List (List C)
  | [] => []
  | x :: xs => e_api_Stmt x :: es_api_Stmt xs
end
theorem es_api_Stmt_eq : ∀ (xs : List api_Stmt), es_api_Stmt xs = xs.map e_api_Stmt
  | [] => rfl
  | x :: xs => by rw [es_api_Stmt, es_api_Stmt_eq xs]; rfl
theorem e_api_Stmt_def {x : api_Stmt} : e_api_Stmt x = [.int .i64 x.Kind, .str x.Name, .int .i64 x.Target.Op, .int .i64 x.Target.N, .int .i64 x.Target.Kind, .str x.Target.Name, .sl (x.Target.Args.map e_api_Expr), .int .i64 x.Value.Op, .int .i64 x.Value.N, .int .i64 x.Value.Kind, .str x.Value.Name, .sl (x.Value.Args.map e_api_Expr), .sl (x.Args.map e_api_Expr), .sl (x.Body.map e_api_Stmt), .sl (x.Else.map e_api_Stmt)] := by
  cases x; simp only [e_api_Stmt, es_api_Stmt_eq]
mutual
theorem Flat.api_Stmt_1 (m : Nat) : ∀ (x : api_Stmt), ltRow m (e_api_Stmt x) = true
  | ⟨Kind, Name, Target, Value, Args, Body, Else⟩ => by
    rw [e_api_Stmt]; simp [ltRow, C.lt, ltRows_flat Flat.api_Expr, ltRows_flat Flat.api_Expr, ltRows_flat Flat.api_Expr, Flat.api_Stmt_2 m Body, Flat.api_Stmt_2 m Else]
theorem Flat.api_Stmt_2 (m : Nat) : ∀ (xs : List api_Stmt), ltRows m (es_api_Stmt xs) = true
  | [] => rfl
  | x :: xs => by rw [es_api_Stmt, ltRows, Flat.api_Stmt_1 m x, Flat.api_Stmt_2 m xs]; rfl
end
theorem Flat.api_Stmt : Flat e_api_Stmt := fun m x => Flat.api_Stmt_1 m x
theorem len_api_Stmt {x : api_Stmt} : (e_api_Stmt x).length = 15 := by rw [e_api_Stmt_def]; rfl
attribute [go_sem] e_api_Stmt_def
structure api_Task where
  Every : Int
  Priority : Int
  Budget : List Int
  Body : List api_Stmt
def e_api_Task (x : api_Task) : List C := [.int .i64 x.Every, .int .i64 x.Priority, .sl (x.Budget.map eI), .sl (x.Body.map e_api_Stmt)]
theorem e_api_Task_def {x : api_Task} : e_api_Task x = [.int .i64 x.Every, .int .i64 x.Priority, .sl (x.Budget.map eI), .sl (x.Body.map e_api_Stmt)] := of_eq_true (eq_self _)
theorem Flat.api_Task : Flat e_api_Task := fun m x => by
  rw [e_api_Task_def]; simp [ltRow, C.lt, lt_eF, ltRows_flat (Flat.K .i64), ltRows_flat Flat.api_Stmt]
theorem len_api_Task {x : api_Task} : (e_api_Task x).length = 4 := by rw [e_api_Task_def]; rfl
attribute [go_sem] e_api_Task_def
structure api_Ins where
  Op : Int
  A : Int
  B_ : Int
  Label : Int
def e_api_Ins (x : api_Ins) : List C := [.int .i64 x.Op, .int .i64 x.A, .int .i64 x.B_, .int .i64 x.Label]
theorem e_api_Ins_def {x : api_Ins} : e_api_Ins x = [.int .i64 x.Op, .int .i64 x.A, .int .i64 x.B_, .int .i64 x.Label] := of_eq_true (eq_self _)
theorem Flat.api_Ins : Flat e_api_Ins := fun m x => by
  rw [e_api_Ins_def]; simp [ltRow, C.lt, lt_eF]
theorem len_api_Ins {x : api_Ins} : (e_api_Ins x).length = 4 := by rw [e_api_Ins_def]; rfl
attribute [go_sem] e_api_Ins_def
structure api_Image where
  Lattice : api_Lattice
  Sites : List api_Site
  Vars : List api_Var
  Blocks : List api_Block
  Tasks : List api_Task
  Code : List (List api_Ins)
def e_api_Image (x : api_Image) : List C := [.sl (x.Lattice.Names.map eS), .sl (x.Lattice.Below.map (eA2 eI)), .sl (x.Sites.map e_api_Site), .sl (x.Vars.map e_api_Var), .sl (x.Blocks.map e_api_Block), .sl (x.Tasks.map e_api_Task), .sl (x.Code.map (eL e_api_Ins))]
theorem e_api_Image_def {x : api_Image} : e_api_Image x = [.sl (x.Lattice.Names.map eS), .sl (x.Lattice.Below.map (eA2 eI)), .sl (x.Sites.map e_api_Site), .sl (x.Vars.map e_api_Var), .sl (x.Blocks.map e_api_Block), .sl (x.Tasks.map e_api_Task), .sl (x.Code.map (eL e_api_Ins))] := of_eq_true (eq_self _)
theorem Flat.api_Image : Flat e_api_Image := fun m x => by
  rw [e_api_Image_def]; simp [ltRow, C.lt, lt_eF, ltRows_flat Flat.S, ltRows_flat (Flat.A2 (Flat.K .i64)), ltRows_flat Flat.api_Site, ltRows_flat Flat.api_Var, ltRows_flat Flat.api_Block, ltRows_flat Flat.api_Task, ltRows_flat (Flat.L Flat.api_Ins)]
theorem len_api_Image {x : api_Image} : (e_api_Image x).length = 7 := by rw [e_api_Image_def]; rfl
attribute [go_sem] e_api_Image_def
structure image_writer where
  b : List Int
def e_image_writer (x : image_writer) : List C := [.sl (x.b.map (eK .u8))]
theorem e_image_writer_def {x : image_writer} : e_image_writer x = [.sl (x.b.map (eK .u8))] := of_eq_true (eq_self _)
theorem Flat.image_writer : Flat e_image_writer := fun m x => by
  rw [e_image_writer_def]; simp [ltRow, C.lt, lt_eF, ltRows_flat (Flat.K .u8)]
theorem len_image_writer {x : image_writer} : (e_image_writer x).length = 1 := by rw [e_image_writer_def]; rfl
attribute [go_sem] e_image_writer_def
structure image_reader where
  s : Str
  bad : Bool
def e_image_reader (x : image_reader) : List C := [.str x.s, .bool x.bad]
theorem e_image_reader_def {x : image_reader} : e_image_reader x = [.str x.s, .bool x.bad] := of_eq_true (eq_self _)
theorem Flat.image_reader : Flat e_image_reader := fun m x => by
  rw [e_image_reader_def]; simp [ltRow, C.lt, lt_eF]
theorem len_image_reader {x : image_reader} : (e_image_reader x).length = 2 := by rw [e_image_reader_def]; rfl
attribute [go_sem] e_image_reader_def
structure blocks_kind where
  in_ : List Int
  out : List Int
  step : Option Nat
def e_blocks_kind (x : blocks_kind) : List C := [.sl (x.in_.map eI), .sl (x.out.map eI), eF x.step]
theorem e_blocks_kind_def {x : blocks_kind} : e_blocks_kind x = [.sl (x.in_.map eI), .sl (x.out.map eI), eF x.step] := of_eq_true (eq_self _)
theorem Flat.blocks_kind : Flat e_blocks_kind := fun m x => by
  rw [e_blocks_kind_def]; simp [ltRow, C.lt, lt_eF, ltRows_flat (Flat.K .i64), ltRows_flat (Flat.K .i64)]
theorem len_blocks_kind {x : blocks_kind} : (e_blocks_kind x).length = 3 := by rw [e_blocks_kind_def]; rfl
attribute [go_sem] e_blocks_kind_def
theorem Plain.A2 {α : Type} {f : α → List C} (h : Plain f) : Plain (eA2 f) := fun H k x => by
  rw [eA2_def]; simp [h H k]
theorem Plain.A4 {α : Type} {f : α → List C} (h : Plain f) : Plain (eA4 f) := fun H k x => by
  rw [eA4_def]; simp [h H k]
theorem Plain.api_Lattice : Plain e_api_Lattice := fun H k x => by rw [e_api_Lattice_def]; simp [vn_int, vn_bool, vn_str, vn_sl, vn_eF]
theorem Plain.api_Site : Plain e_api_Site := fun H k x => by rw [e_api_Site_def]; simp [vn_int, vn_bool, vn_str, vn_sl, vn_eF]
theorem Plain.api_Type : Plain e_api_Type := fun H k x => by rw [e_api_Type_def]; simp [vn_int, vn_bool, vn_str, vn_sl, vn_eF]
theorem Plain.api_Var : Plain e_api_Var := fun H k x => by rw [e_api_Var_def]; simp [vn_int, vn_bool, vn_str, vn_sl, vn_eF]
theorem Plain.api_Block : Plain e_api_Block := fun H k x => by rw [e_api_Block_def]; simp [vn_int, vn_bool, vn_str, vn_sl, vn_eF]
theorem Plain.api_Expr : Plain e_api_Expr := fun H k x => by rw [e_api_Expr_def]; simp [vn_int, vn_bool, vn_str, vn_sl, vn_eF]
theorem Plain.api_Stmt : Plain e_api_Stmt := fun H k x => by rw [e_api_Stmt_def]; simp [vn_int, vn_bool, vn_str, vn_sl, vn_eF]
theorem Plain.api_Task : Plain e_api_Task := fun H k x => by rw [e_api_Task_def]; simp [vn_int, vn_bool, vn_str, vn_sl, vn_eF]
theorem Plain.api_Ins : Plain e_api_Ins := fun H k x => by rw [e_api_Ins_def]; simp [vn_int, vn_bool, vn_str, vn_sl, vn_eF]
theorem Plain.api_Image : Plain e_api_Image := fun H k x => by rw [e_api_Image_def]; simp [vn_int, vn_bool, vn_str, vn_sl, vn_eF]
theorem Plain.image_writer : Plain e_image_writer := fun H k x => by rw [e_image_writer_def]; simp [vn_int, vn_bool, vn_str, vn_sl, vn_eF]
theorem Plain.image_reader : Plain e_image_reader := fun H k x => by rw [e_image_reader_def]; simp [vn_int, vn_bool, vn_str, vn_sl, vn_eF]
theorem Plain.blocks_kind : Plain e_blocks_kind := fun H k x => by rw [e_blocks_kind_def]; simp [vn_int, vn_bool, vn_str, vn_sl, vn_eF]
theorem lr9 {m : Nat} {xs : List Str} : ltRows m (xs.map eS) = true := ltRows_flat Flat.S m xs
theorem vw9 {H : List O} {k : Nat} {xs : List Str} : viewRows H k (xs.map eS) = xs.map eS := viewRows_plain Plain.S H k xs
theorem lr55 {m : Nat} {xs : List (A2 Int)} : ltRows m (xs.map (eA2 eI)) = true := ltRows_flat (Flat.A2 (Flat.K .i64)) m xs
theorem vw55 {H : List O} {k : Nat} {xs : List (A2 Int)} : viewRows H k (xs.map (eA2 eI)) = xs.map (eA2 eI) := viewRows_plain (Plain.A2 (Plain.K .i64)) H k xs
theorem lr57 {m : Nat} {xs : List api_Site} : ltRows m (xs.map e_api_Site) = true := ltRows_flat Flat.api_Site m xs
theorem vw57 {H : List O} {k : Nat} {xs : List api_Site} : viewRows H k (xs.map e_api_Site) = xs.map e_api_Site := viewRows_plain Plain.api_Site H k xs
theorem lr61 {m : Nat} {xs : List api_Var} : ltRows m (xs.map e_api_Var) = true := ltRows_flat Flat.api_Var m xs
theorem vw61 {H : List O} {k : Nat} {xs : List api_Var} : viewRows H k (xs.map e_api_Var) = xs.map e_api_Var := viewRows_plain Plain.api_Var H k xs
theorem lr63 {m : Nat} {xs : List api_Block} : ltRows m (xs.map e_api_Block) = true := ltRows_flat Flat.api_Block m xs
theorem vw63 {H : List O} {k : Nat} {xs : List api_Block} : viewRows H k (xs.map e_api_Block) = xs.map e_api_Block := viewRows_plain Plain.api_Block H k xs
theorem lr46 {m : Nat} {xs : List api_Task} : ltRows m (xs.map e_api_Task) = true := ltRows_flat Flat.api_Task m xs
theorem vw46 {H : List O} {k : Nat} {xs : List api_Task} : viewRows H k (xs.map e_api_Task) = xs.map e_api_Task := viewRows_plain Plain.api_Task H k xs
theorem lr47 {m : Nat} {xs : List (List api_Ins)} : ltRows m (xs.map (eL e_api_Ins)) = true := ltRows_flat (Flat.L Flat.api_Ins) m xs
theorem vw47 {H : List O} {k : Nat} {xs : List (List api_Ins)} : viewRows H k (xs.map (eL e_api_Ins)) = xs.map (eL e_api_Ins) := viewRows_plain (Plain.L e_api_Ins) H k xs
theorem lr3 {m : Nat} {xs : List Int} : ltRows m (xs.map eI) = true := ltRows_flat (Flat.K .i64) m xs
theorem vw3 {H : List O} {k : Nat} {xs : List Int} : viewRows H k (xs.map eI) = xs.map eI := viewRows_plain (Plain.K .i64) H k xs
theorem lr146 {m : Nat} {xs : List api_Stmt} : ltRows m (xs.map e_api_Stmt) = true := ltRows_flat Flat.api_Stmt m xs
theorem vw146 {H : List O} {k : Nat} {xs : List api_Stmt} : viewRows H k (xs.map e_api_Stmt) = xs.map e_api_Stmt := viewRows_plain Plain.api_Stmt H k xs
theorem lr82 {m : Nat} {xs : List api_Ins} : ltRows m (xs.map e_api_Ins) = true := ltRows_flat Flat.api_Ins m xs
theorem vw82 {H : List O} {k : Nat} {xs : List api_Ins} : viewRows H k (xs.map e_api_Ins) = xs.map e_api_Ins := viewRows_plain Plain.api_Ins H k xs
theorem lr5 {m : Nat} {xs : List Int} : ltRows m (xs.map (eK .u8)) = true := ltRows_flat (Flat.K .u8) m xs
theorem vw5 {H : List O} {k : Nat} {xs : List Int} : viewRows H k (xs.map (eK .u8)) = xs.map (eK .u8) := viewRows_plain (Plain.K .u8) H k xs
theorem lr4 {m : Nat} {xs : List Bool} : ltRows m (xs.map eB) = true := ltRows_flat Flat.B m xs
theorem vw4 {H : List O} {k : Nat} {xs : List Bool} : viewRows H k (xs.map eB) = xs.map eB := viewRows_plain Plain.B H k xs
theorem lr144 {m : Nat} {xs : List api_Expr} : ltRows m (xs.map e_api_Expr) = true := ltRows_flat Flat.api_Expr m xs
theorem vw144 {H : List O} {k : Nat} {xs : List api_Expr} : viewRows H k (xs.map e_api_Expr) = xs.map e_api_Expr := viewRows_plain Plain.api_Expr H k xs
theorem eqt55 : eqT Try.prog 55 = true := by kernel_rfl
theorem lit55 {a0 : Int} {a1 : Int} : litC Try.prog 20 55 [.int .i64 a0, .int .i64 a1] = some [.i .i64 a0, .i .i64 a1] := by kernel_rfl
theorem eqt57 : eqT Try.prog 57 = true := by kernel_rfl
theorem lit57 {a0 : Str} {a1 : Int} {a2 : Int} : litC Try.prog 20 57 [.str a0, .int .i64 a1, .int .i64 a2] = some [.s a0, .i .i64 a1, .i .i64 a2] := by kernel_rfl
theorem eqt61 : eqT Try.prog 61 = true := by kernel_rfl
theorem lit61 {a0 : Str} {a1 : Int} {a2 : Int} {a3 : Int} {a4 : Int} {a5 : Int} {a6 : Int} : litC Try.prog 20 61 [.str a0, .int .i64 a1, .int .i64 a2, .int .i64 a3, .int .i64 a4, .int .i64 a5, .int .i64 a6] = some [.s a0, .i .i64 a1, .i .i64 a2, .i .i64 a3, .i .i64 a4, .i .i64 a5, .i .i64 a6] := by kernel_rfl
theorem eqt63 : eqT Try.prog 63 = true := by kernel_rfl
theorem lit63 {a0 : Str} {a1 : Str} {a2 : Int} : litC Try.prog 20 63 [.str a0, .str a1, .int .i64 a2] = some [.s a0, .s a1, .i .i64 a2] := by kernel_rfl
theorem eqt82 : eqT Try.prog 82 = true := by kernel_rfl
theorem lit82 {a0 : Int} {a1 : Int} {a2 : Int} {a3 : Int} : litC Try.prog 20 82 [.int .i64 a0, .int .i64 a1, .int .i64 a2, .int .i64 a3] = some [.i .i64 a0, .i .i64 a1, .i .i64 a2, .i .i64 a3] := by kernel_rfl
theorem pa55 : tPa Try.prog 55 = some 2 := by kernel_rfl
theorem ag3 : tAg Try.prog 3 = some (false, 1) := by kernel_rfl
theorem tk3 : tK Try.prog 3 = some .i64 := by kernel_rfl
theorem z3 : tZ Try.prog 3 = some (.one (.int .i64 0)) := by kernel_rfl
theorem un3 : (Try.prog.underlying 3).isSome = true := by kernel_rfl
theorem ag4 : tAg Try.prog 4 = some (false, 1) := by kernel_rfl
theorem tb4 : tIsBool Try.prog 4 = true := by kernel_rfl
theorem z4 : tZ Try.prog 4 = some (.one (.bool false)) := by kernel_rfl
theorem ag5 : tAg Try.prog 5 = some (false, 1) := by kernel_rfl
theorem tk5 : tK Try.prog 5 = some .u8 := by kernel_rfl
theorem z5 : tZ Try.prog 5 = some (.one (.int .u8 0)) := by kernel_rfl
theorem un5 : (Try.prog.underlying 5).isSome = true := by kernel_rfl
theorem ud5 : Try.prog.underlying 5 = some (.int .u8) := by kernel_rfl
theorem ag9 : tAg Try.prog 9 = some (false, 1) := by kernel_rfl
theorem ts9 : tIsStr Try.prog 9 = true := by kernel_rfl
theorem z9 : tZ Try.prog 9 = some (.one (.str [])) := by kernel_rfl
theorem ud9 : Try.prog.underlying 9 = some .string := by kernel_rfl
theorem ag22 : tAg Try.prog 22 = some (false, 1) := by kernel_rfl
theorem sl22 : tSl Try.prog 22 = some (9, 1, 16) := by kernel_rfl
theorem ar22 : tAr Try.prog 22 = none := by kernel_rfl
theorem z22 : tZ Try.prog 22 = some (.one (.slf [])) := by kernel_rfl
theorem ag23 : tAg Try.prog 23 = some (false, 1) := by kernel_rfl
theorem sl23 : tSl Try.prog 23 = some (55, 2, 16) := by kernel_rfl
theorem ar23 : tAr Try.prog 23 = none := by kernel_rfl
theorem z23 : tZ Try.prog 23 = some (.one (.slf [])) := by kernel_rfl
theorem ag25 : tAg Try.prog 25 = some (true, 2) := by kernel_rfl
theorem pl25 : tPl Try.prog 25 = some (fun k => [(0, 1), (1, 1)][k]?) := by kernel_rfl
theorem fd25_0 : tFd Try.prog 25 0 = some (0, false, 1) := by kernel_rfl
theorem fd25_1 : tFd Try.prog 25 1 = some (1, false, 1) := by kernel_rfl
theorem z25 : tZ Try.prog 25 = some (.agg [.slf [], .slf []]) := by kernel_rfl
theorem ag26 : tAg Try.prog 26 = some (false, 1) := by kernel_rfl
theorem sl26 : tSl Try.prog 26 = some (57, 3, 32) := by kernel_rfl
theorem ar26 : tAr Try.prog 26 = none := by kernel_rfl
theorem z26 : tZ Try.prog 26 = some (.one (.slf [])) := by kernel_rfl
theorem ag27 : tAg Try.prog 27 = some (false, 1) := by kernel_rfl
theorem sl27 : tSl Try.prog 27 = some (61, 7, 64) := by kernel_rfl
theorem ar27 : tAr Try.prog 27 = none := by kernel_rfl
theorem z27 : tZ Try.prog 27 = some (.one (.slf [])) := by kernel_rfl
theorem ag28 : tAg Try.prog 28 = some (false, 1) := by kernel_rfl
theorem sl28 : tSl Try.prog 28 = some (63, 3, 40) := by kernel_rfl
theorem ar28 : tAr Try.prog 28 = none := by kernel_rfl
theorem z28 : tZ Try.prog 28 = some (.one (.slf [])) := by kernel_rfl
theorem ag29 : tAg Try.prog 29 = some (false, 1) := by kernel_rfl
theorem sl29 : tSl Try.prog 29 = some (46, 4, 64) := by kernel_rfl
theorem ar29 : tAr Try.prog 29 = none := by kernel_rfl
theorem z29 : tZ Try.prog 29 = some (.one (.slf [])) := by kernel_rfl
theorem ag30 : tAg Try.prog 30 = some (false, 1) := by kernel_rfl
theorem sl30 : tSl Try.prog 30 = some (47, 1, 24) := by kernel_rfl
theorem ar30 : tAr Try.prog 30 = none := by kernel_rfl
theorem z30 : tZ Try.prog 30 = some (.one (.slf [])) := by kernel_rfl
theorem ag32 : tAg Try.prog 32 = some (true, 7) := by kernel_rfl
theorem pl32 : tPl Try.prog 32 = some (fun k => [(0, 2), (2, 1), (3, 1), (4, 1), (5, 1), (6, 1)][k]?) := by kernel_rfl
theorem fd32_0 : tFd Try.prog 32 0 = some (0, true, 2) := by kernel_rfl
theorem fd32_1 : tFd Try.prog 32 1 = some (2, false, 1) := by kernel_rfl
theorem fd32_2 : tFd Try.prog 32 2 = some (3, false, 1) := by kernel_rfl
theorem fd32_3 : tFd Try.prog 32 3 = some (4, false, 1) := by kernel_rfl
theorem fd32_4 : tFd Try.prog 32 4 = some (5, false, 1) := by kernel_rfl
theorem fd32_5 : tFd Try.prog 32 5 = some (6, false, 1) := by kernel_rfl
theorem z32 : tZ Try.prog 32 = some (.agg [.slf [], .slf [], .slf [], .slf [], .slf [], .slf [], .slf []]) := by kernel_rfl
theorem ag35 : tAg Try.prog 35 = some (false, 1) := by kernel_rfl
theorem tk35 : tK Try.prog 35 = some .i64 := by kernel_rfl
theorem z35 : tZ Try.prog 35 = some (.one (.int .i64 0)) := by kernel_rfl
theorem un35 : (Try.prog.underlying 35).isSome = true := by kernel_rfl
theorem ag42 : tAg Try.prog 42 = some (false, 1) := by kernel_rfl
theorem z42 : tZ Try.prog 42 = some (.one (.nilfn)) := by kernel_rfl
theorem ag43 : tAg Try.prog 43 = some (false, 1) := by kernel_rfl
theorem sl43 : tSl Try.prog 43 = some (3, 1, 8) := by kernel_rfl
theorem ar43 : tAr Try.prog 43 = none := by kernel_rfl
theorem z43 : tZ Try.prog 43 = some (.one (.slf [])) := by kernel_rfl
theorem ag44 : tAg Try.prog 44 = some (false, 1) := by kernel_rfl
theorem sl44 : tSl Try.prog 44 = some (146, 15, 224) := by kernel_rfl
theorem ar44 : tAr Try.prog 44 = none := by kernel_rfl
theorem z44 : tZ Try.prog 44 = some (.one (.slf [])) := by kernel_rfl
theorem ag46 : tAg Try.prog 46 = some (true, 4) := by kernel_rfl
theorem pl46 : tPl Try.prog 46 = some (fun k => [(0, 1), (1, 1), (2, 1), (3, 1)][k]?) := by kernel_rfl
theorem fd46_0 : tFd Try.prog 46 0 = some (0, false, 1) := by kernel_rfl
theorem fd46_1 : tFd Try.prog 46 1 = some (1, false, 1) := by kernel_rfl
theorem fd46_2 : tFd Try.prog 46 2 = some (2, false, 1) := by kernel_rfl
theorem fd46_3 : tFd Try.prog 46 3 = some (3, false, 1) := by kernel_rfl
theorem z46 : tZ Try.prog 46 = some (.agg [.int .i64 0, .int .i64 0, .slf [], .slf []]) := by kernel_rfl
theorem ag47 : tAg Try.prog 47 = some (false, 1) := by kernel_rfl
theorem sl47 : tSl Try.prog 47 = some (82, 4, 32) := by kernel_rfl
theorem ar47 : tAr Try.prog 47 = none := by kernel_rfl
theorem z47 : tZ Try.prog 47 = some (.one (.slf [])) := by kernel_rfl
theorem ag49 : tAg Try.prog 49 = some (false, 1) := by kernel_rfl
theorem z49 : tZ Try.prog 49 = some (.one (.nilp)) := by kernel_rfl
theorem ag50 : tAg Try.prog 50 = some (false, 1) := by kernel_rfl
theorem sl50 : tSl Try.prog 50 = some (5, 1, 1) := by kernel_rfl
theorem ar50 : tAr Try.prog 50 = none := by kernel_rfl
theorem z50 : tZ Try.prog 50 = some (.one (.slf [])) := by kernel_rfl
theorem ud50 : Try.prog.underlying 50 = some (.slice 5) := by kernel_rfl
theorem ag52 : tAg Try.prog 52 = some (true, 1) := by kernel_rfl
theorem pl52 : tPl Try.prog 52 = some (fun k => [(0, 1)][k]?) := by kernel_rfl
theorem fd52_0 : tFd Try.prog 52 0 = some (0, false, 1) := by kernel_rfl
theorem z52 : tZ Try.prog 52 = some (.agg [.slf []]) := by kernel_rfl
theorem ag55 : tAg Try.prog 55 = some (true, 2) := by kernel_rfl
theorem pl55 : tPl Try.prog 55 = some (fun k => some (k * 1, 1)) := by kernel_rfl
theorem ar55 : tAr Try.prog 55 = some (2, 3, 1) := by kernel_rfl
theorem z55 : tZ Try.prog 55 = some (.agg [.int .i64 0, .int .i64 0]) := by kernel_rfl
theorem ag57 : tAg Try.prog 57 = some (true, 3) := by kernel_rfl
theorem pl57 : tPl Try.prog 57 = some (fun k => [(0, 1), (1, 1), (2, 1)][k]?) := by kernel_rfl
theorem fd57_0 : tFd Try.prog 57 0 = some (0, false, 1) := by kernel_rfl
theorem fd57_1 : tFd Try.prog 57 1 = some (1, false, 1) := by kernel_rfl
theorem fd57_2 : tFd Try.prog 57 2 = some (2, false, 1) := by kernel_rfl
theorem z57 : tZ Try.prog 57 = some (.agg [.str [], .int .i64 0, .int .i64 0]) := by kernel_rfl
theorem ag59 : tAg Try.prog 59 = some (true, 3) := by kernel_rfl
theorem pl59 : tPl Try.prog 59 = some (fun k => [(0, 1), (1, 1), (2, 1)][k]?) := by kernel_rfl
theorem fd59_0 : tFd Try.prog 59 0 = some (0, false, 1) := by kernel_rfl
theorem fd59_1 : tFd Try.prog 59 1 = some (1, false, 1) := by kernel_rfl
theorem fd59_2 : tFd Try.prog 59 2 = some (2, false, 1) := by kernel_rfl
theorem z59 : tZ Try.prog 59 = some (.agg [.int .i64 0, .int .i64 0, .int .i64 0]) := by kernel_rfl
theorem ag61 : tAg Try.prog 61 = some (true, 7) := by kernel_rfl
theorem pl61 : tPl Try.prog 61 = some (fun k => [(0, 1), (1, 3), (4, 1), (5, 1), (6, 1)][k]?) := by kernel_rfl
theorem fd61_0 : tFd Try.prog 61 0 = some (0, false, 1) := by kernel_rfl
theorem fd61_1 : tFd Try.prog 61 1 = some (1, true, 3) := by kernel_rfl
theorem fd61_2 : tFd Try.prog 61 2 = some (4, false, 1) := by kernel_rfl
theorem fd61_3 : tFd Try.prog 61 3 = some (5, false, 1) := by kernel_rfl
theorem fd61_4 : tFd Try.prog 61 4 = some (6, false, 1) := by kernel_rfl
theorem z61 : tZ Try.prog 61 = some (.agg [.str [], .int .i64 0, .int .i64 0, .int .i64 0, .int .i64 0, .int .i64 0, .int .i64 0]) := by kernel_rfl
theorem ag63 : tAg Try.prog 63 = some (true, 3) := by kernel_rfl
theorem pl63 : tPl Try.prog 63 = some (fun k => [(0, 1), (1, 1), (2, 1)][k]?) := by kernel_rfl
theorem fd63_0 : tFd Try.prog 63 0 = some (0, false, 1) := by kernel_rfl
theorem fd63_1 : tFd Try.prog 63 1 = some (1, false, 1) := by kernel_rfl
theorem fd63_2 : tFd Try.prog 63 2 = some (2, false, 1) := by kernel_rfl
theorem z63 : tZ Try.prog 63 = some (.agg [.str [], .str [], .int .i64 0]) := by kernel_rfl
theorem ag65 : tAg Try.prog 65 = some (false, 1) := by kernel_rfl
theorem z65 : tZ Try.prog 65 = some (.one (.nilp)) := by kernel_rfl
theorem ag67 : tAg Try.prog 67 = some (true, 2) := by kernel_rfl
theorem pl67 : tPl Try.prog 67 = some (fun k => [(0, 1), (1, 1)][k]?) := by kernel_rfl
theorem fd67_0 : tFd Try.prog 67 0 = some (0, false, 1) := by kernel_rfl
theorem fd67_1 : tFd Try.prog 67 1 = some (1, false, 1) := by kernel_rfl
theorem z67 : tZ Try.prog 67 = some (.agg [.str [], .bool false]) := by kernel_rfl
theorem ag71 : tAg Try.prog 71 = some (false, 1) := by kernel_rfl
theorem z71 : tZ Try.prog 71 = some (.one (.nilfn)) := by kernel_rfl
theorem ag74 : tAg Try.prog 74 = some (false, 1) := by kernel_rfl
theorem z74 : tZ Try.prog 74 = some (.one (.nilfn)) := by kernel_rfl
theorem ag82 : tAg Try.prog 82 = some (true, 4) := by kernel_rfl
theorem pl82 : tPl Try.prog 82 = some (fun k => [(0, 1), (1, 1), (2, 1), (3, 1)][k]?) := by kernel_rfl
theorem fd82_0 : tFd Try.prog 82 0 = some (0, false, 1) := by kernel_rfl
theorem fd82_1 : tFd Try.prog 82 1 = some (1, false, 1) := by kernel_rfl
theorem fd82_2 : tFd Try.prog 82 2 = some (2, false, 1) := by kernel_rfl
theorem fd82_3 : tFd Try.prog 82 3 = some (3, false, 1) := by kernel_rfl
theorem z82 : tZ Try.prog 82 = some (.agg [.int .i64 0, .int .i64 0, .int .i64 0, .int .i64 0]) := by kernel_rfl
theorem ag93 : tAg Try.prog 93 = some (false, 1) := by kernel_rfl
theorem z93 : tZ Try.prog 93 = some (.one (.nilfn)) := by kernel_rfl
theorem ag95 : tAg Try.prog 95 = some (false, 1) := by kernel_rfl
theorem mp95 : tMp Try.prog 95 = some (9, none, 4) := by kernel_rfl
theorem z95 : tZ Try.prog 95 = some (.one (.nilm)) := by kernel_rfl
theorem ag104 : tAg Try.prog 104 = some (false, 1) := by kernel_rfl
theorem z104 : tZ Try.prog 104 = some (.one (.nilfn)) := by kernel_rfl
theorem ag108 : tAg Try.prog 108 = some (false, 1) := by kernel_rfl
theorem sl108 : tSl Try.prog 108 = some (4, 1, 1) := by kernel_rfl
theorem ar108 : tAr Try.prog 108 = none := by kernel_rfl
theorem z108 : tZ Try.prog 108 = some (.one (.slf [])) := by kernel_rfl
theorem ag111 : tAg Try.prog 111 = some (false, 1) := by kernel_rfl
theorem z111 : tZ Try.prog 111 = some (.one (.nilfn)) := by kernel_rfl
theorem ag112 : tAg Try.prog 112 = some (false, 1) := by kernel_rfl
theorem z112 : tZ Try.prog 112 = some (.one (.nilfn)) := by kernel_rfl
theorem ag114 : tAg Try.prog 114 = some (false, 1) := by kernel_rfl
theorem z114 : tZ Try.prog 114 = some (.one (.nilfn)) := by kernel_rfl
theorem ag116 : tAg Try.prog 116 = some (true, 3) := by kernel_rfl
theorem pl116 : tPl Try.prog 116 = some (fun k => [(0, 1), (1, 1), (2, 1)][k]?) := by kernel_rfl
theorem fd116_0 : tFd Try.prog 116 0 = some (0, false, 1) := by kernel_rfl
theorem fd116_1 : tFd Try.prog 116 1 = some (1, false, 1) := by kernel_rfl
theorem fd116_2 : tFd Try.prog 116 2 = some (2, false, 1) := by kernel_rfl
theorem z116 : tZ Try.prog 116 = some (.agg [.slf [], .slf [], .nilfn]) := by kernel_rfl
theorem ag124 : tAg Try.prog 124 = some (true, 4) := by kernel_rfl
theorem pl124 : tPl Try.prog 124 = some (fun k => some (k * 1, 1)) := by kernel_rfl
theorem ar124 : tAr Try.prog 124 = some (4, 3, 1) := by kernel_rfl
theorem z124 : tZ Try.prog 124 = some (.agg [.int .i64 0, .int .i64 0, .int .i64 0, .int .i64 0]) := by kernel_rfl
theorem ag127 : tAg Try.prog 127 = some (false, 1) := by kernel_rfl
theorem tk127 : tK Try.prog 127 = some .u64 := by kernel_rfl
theorem z127 : tZ Try.prog 127 = some (.one (.int .u64 0)) := by kernel_rfl
theorem un127 : (Try.prog.underlying 127).isSome = true := by kernel_rfl
theorem ag142 : tAg Try.prog 142 = some (false, 1) := by kernel_rfl
theorem sl142 : tSl Try.prog 142 = some (144, 5, 64) := by kernel_rfl
theorem ar142 : tAr Try.prog 142 = none := by kernel_rfl
theorem z142 : tZ Try.prog 142 = some (.one (.slf [])) := by kernel_rfl
theorem ag144 : tAg Try.prog 144 = some (true, 5) := by kernel_rfl
theorem pl144 : tPl Try.prog 144 = some (fun k => [(0, 1), (1, 1), (2, 1), (3, 1), (4, 1)][k]?) := by kernel_rfl
theorem fd144_0 : tFd Try.prog 144 0 = some (0, false, 1) := by kernel_rfl
theorem fd144_1 : tFd Try.prog 144 1 = some (1, false, 1) := by kernel_rfl
theorem fd144_2 : tFd Try.prog 144 2 = some (2, false, 1) := by kernel_rfl
theorem fd144_3 : tFd Try.prog 144 3 = some (3, false, 1) := by kernel_rfl
theorem fd144_4 : tFd Try.prog 144 4 = some (4, false, 1) := by kernel_rfl
theorem z144 : tZ Try.prog 144 = some (.agg [.int .i64 0, .int .i64 0, .int .i64 0, .str [], .slf []]) := by kernel_rfl
theorem ag146 : tAg Try.prog 146 = some (true, 15) := by kernel_rfl
theorem pl146 : tPl Try.prog 146 = some (fun k => [(0, 1), (1, 1), (2, 5), (7, 5), (12, 1), (13, 1), (14, 1)][k]?) := by kernel_rfl
theorem fd146_0 : tFd Try.prog 146 0 = some (0, false, 1) := by kernel_rfl
theorem fd146_1 : tFd Try.prog 146 1 = some (1, false, 1) := by kernel_rfl
theorem fd146_2 : tFd Try.prog 146 2 = some (2, true, 5) := by kernel_rfl
theorem fd146_3 : tFd Try.prog 146 3 = some (7, true, 5) := by kernel_rfl
theorem fd146_4 : tFd Try.prog 146 4 = some (12, false, 1) := by kernel_rfl
theorem fd146_5 : tFd Try.prog 146 5 = some (13, false, 1) := by kernel_rfl
theorem fd146_6 : tFd Try.prog 146 6 = some (14, false, 1) := by kernel_rfl
theorem z146 : tZ Try.prog 146 = some (.agg [.int .i64 0, .str [], .int .i64 0, .int .i64 0, .int .i64 0, .str [], .slf [], .int .i64 0, .int .i64 0, .int .i64 0, .str [], .slf [], .slf [], .slf [], .slf []]) := by kernel_rfl
attribute [go_sem] lr9 vw9 lr55 vw55 lr57 vw57 lr61 vw61 lr63 vw63 lr46 vw46 lr47 vw47 lr3 vw3 lr146 vw146 lr82 vw82 lr5 vw5 lr4 vw4 lr144 vw144 eqt55 lit55 eqt57 lit57 eqt61 lit61 eqt63 lit63 eqt82 lit82 pa55 ag3 tk3 z3 un3 ag4 tb4 z4 ag5 tk5 z5 un5 ud5 ag9 ts9 z9 ud9 ag22 sl22 ar22 z22 ag23 sl23 ar23 z23 ag25 pl25 fd25_0 fd25_1 z25 ag26 sl26 ar26 z26 ag27 sl27 ar27 z27 ag28 sl28 ar28 z28 ag29 sl29 ar29 z29 ag30 sl30 ar30 z30 ag32 pl32 fd32_0 fd32_1 fd32_2 fd32_3 fd32_4 fd32_5 z32 ag35 tk35 z35 un35 ag42 z42 ag43 sl43 ar43 z43 ag44 sl44 ar44 z44 ag46 pl46 fd46_0 fd46_1 fd46_2 fd46_3 z46 ag47 sl47 ar47 z47 ag49 z49 ag50 sl50 ar50 z50 ud50 ag52 pl52 fd52_0 z52 ag55 pl55 ar55 z55 ag57 pl57 fd57_0 fd57_1 fd57_2 z57 ag59 pl59 fd59_0 fd59_1 fd59_2 z59 ag61 pl61 fd61_0 fd61_1 fd61_2 fd61_3 fd61_4 z61 ag63 pl63 fd63_0 fd63_1 fd63_2 z63 ag65 z65 ag67 pl67 fd67_0 fd67_1 z67 ag71 z71 ag74 z74 ag82 pl82 fd82_0 fd82_1 fd82_2 fd82_3 z82 ag93 z93 ag95 mp95 z95 ag104 z104 ag108 sl108 ar108 z108 ag111 z111 ag112 z112 ag114 z114 ag116 pl116 fd116_0 fd116_1 fd116_2 z116 ag124 pl124 ar124 z124 ag127 tk127 z127 un127 ag142 sl142 ar142 z142 ag144 pl144 fd144_0 fd144_1 fd144_2 fd144_3 fd144_4 z144 ag146 pl146 fd146_0 fd146_1 fd146_2 fd146_3 fd146_4 fd146_5 fd146_6 z146
theorem mo : Try.prog.follows .mixedOrders = true := rfl
end Go.Lz

