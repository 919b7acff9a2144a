/- SD: the types of the program as types of Lean, and as cells; the table of types. -/
import Derived.Test.YtakkdadfikcpoaaGreatLw2
import Derived.Test.YtakkdadfikcpoaaGreatProg
import Derived.KernelRfl
namespace Go.Lz
set_option linter.unusedVariables false
set_option linter.unusedSimpArgs false
open Go.Proofs
structure A2 (α : Type) where
  a0 : α
  a1 : α
  deriving DecidableEq
def eA2 {α : Type} (f : α → List C) (x : A2 α) : List C := f x.a0 ++ f x.a1
theorem eA2_def {α : Type} {f : α → List C} {x : A2 α} : eA2 f x = f x.a0 ++ f x.a1 := of_eq_true (eq_self _)
theorem Flat.A2 {α : Type} {f : α → List C} (h : Flat f) : Flat (eA2 f) := fun m x => by
  rw [eA2_def]; simp [ltRow_app, h m]
attribute [go_sem] eA2_def
structure A4 (α : Type) where
  a0 : α
  a1 : α
  a2 : α
  a3 : α
  deriving DecidableEq
def eA4 {α : Type} (f : α → List C) (x : A4 α) : List C := f x.a0 ++ f x.a1 ++ f x.a2 ++ f x.a3
theorem eA4_def {α : Type} {f : α → List C} {x : A4 α} : eA4 f x = f x.a0 ++ f x.a1 ++ f x.a2 ++ f x.a3 := of_eq_true (eq_self _)
theorem Flat.A4 {α : Type} {f : α → List C} (h : Flat f) : Flat (eA4 f) := fun m x => by
  rw [eA4_def]; simp [ltRow_app, h m]
attribute [go_sem] eA4_def
structure api_Lattice where
  Names : List Str
  Below : List (A2 Int)
def e_api_Lattice (x : api_Lattice) : List C := [.sl (x.Names.map eS), .sl (x.Below.map (eA2 eI))]
theorem e_api_Lattice_def {x : api_Lattice} : e_api_Lattice x = [.sl (x.Names.map eS), .sl (x.Below.map (eA2 eI))] := of_eq_true (eq_self _)
theorem Flat.api_Lattice : Flat e_api_Lattice := fun m x => by
  rw [e_api_Lattice_def]; simp [ltRow, C.lt, lt_eF, ltRows_flat Flat.S, ltRows_flat (Flat.A2 (Flat.K .i64))]
theorem len_api_Lattice {x : api_Lattice} : (e_api_Lattice x).length = 2 := by rw [e_api_Lattice_def]; rfl
attribute [go_sem] e_api_Lattice_def
structure api_Site where
  Name : Str
  From : Int
  To : Int
def e_api_Site (x : api_Site) : List C := [.str x.Name, .int .i64 x.From, .int .i64 x.To]
theorem e_api_Site_def {x : api_Site} : e_api_Site x = [.str x.Name, .int .i64 x.From, .int .i64 x.To] := of_eq_true (eq_self _)
theorem Flat.api_Site : Flat e_api_Site := fun m x => by
  rw [e_api_Site_def]; simp [ltRow, C.lt, lt_eF]
theorem len_api_Site {x : api_Site} : (e_api_Site x).length = 3 := by rw [e_api_Site_def]; rfl
attribute [go_sem] e_api_Site_def
structure api_Type where
  Kind : Int
  Low : Int
  Len : Int
def e_api_Type (x : api_Type) : List C := [.int .i64 x.Kind, .int .i64 x.Low, .int .i64 x.Len]
theorem e_api_Type_def {x : api_Type} : e_api_Type x = [.int .i64 x.Kind, .int .i64 x.Low, .int .i64 x.Len] := of_eq_true (eq_self _)
theorem Flat.api_Type : Flat e_api_Type := fun m x => by
  rw [e_api_Type_def]; simp [ltRow, C.lt, lt_eF]
theorem len_api_Type {x : api_Type} : (e_api_Type x).length = 3 := by rw [e_api_Type_def]; rfl
attribute [go_sem] e_api_Type_def
structure api_Var where
  Name : Str
  Type_ : api_Type
  Mode : Int
  Label : Int
  Safe : Int
def e_api_Var (x : api_Var) : List C := [.str x.Name, .int .i64 x.Type_.Kind, .int .i64 x.Type_.Low, .int .i64 x.Type_.Len, .int .i64 x.Mode, .int .i64 x.Label, .int .i64 x.Safe]
theorem e_api_Var_def {x : api_Var} : e_api_Var x = [.str x.Name, .int .i64 x.Type_.Kind, .int .i64 x.Type_.Low, .int .i64 x.Type_.Len, .int .i64 x.Mode, .int .i64 x.Label, .int .i64 x.Safe] := of_eq_true (eq_self _)
theorem Flat.api_Var : Flat e_api_Var := fun m x => by
  rw [e_api_Var_def]; simp [ltRow, C.lt, lt_eF]
theorem len_api_Var {x : api_Var} : (e_api_Var x).length = 7 := by rw [e_api_Var_def]; rfl
attribute [go_sem] e_api_Var_def
structure api_Block where
  Name : Str
  Kind : Str
  Label : Int
def e_api_Block (x : api_Block) : List C := [.str x.Name, .str x.Kind, .int .i64 x.Label]
theorem e_api_Block_def {x : api_Block} : e_api_Block x = [.str x.Name, .str x.Kind, .int .i64 x.Label] := of_eq_true (eq_self _)
theorem Flat.api_Block : Flat e_api_Block := fun m x => by
  rw [e_api_Block_def]; simp [ltRow, C.lt, lt_eF]
theorem len_api_Block {x : api_Block} : (e_api_Block x).length = 3 := by rw [e_api_Block_def]; rfl
attribute [go_sem] e_api_Block_def
structure api_Expr where
  Op : Int
  N : Int
  Kind : Int
  Name : Str
  Args : List api_Expr
mutual
def e_api_Expr : api_Expr → List C
  | ⟨Op, N, Kind, Name, Args⟩ => [.int .i64 Op, .int .i64 N, .int .i64 Kind, .str Name, .sl (es_api_Expr Args)]
def es_api_Expr : List api_Expr → List (List C)
  | [] => []
  | x :: xs => e_api_Expr x :: es_api_Expr xs
end
theorem es_api_Expr_eq : ∀ (xs : List api_Expr), es_api_Expr xs = xs.map e_api_Expr
  | [] => rfl
  | x :: xs => by rw [es_api_Expr, es_api_Expr_eq xs]; rfl
theorem e_api_Expr_def {x : api_Expr} : e_api_Expr x = [.int .i64 x.Op, .int .i64 x.N, .int .i64 x.Kind, .str x.Name, .sl (x.Args.map e_api_Expr)] := by
  cases x; simp only [e_api_Expr, es_api_Expr_eq]
mutual
theorem Flat.api_Expr_1 (m : Nat) : ∀ (x : api_Expr), ltRow m (e_api_Expr x) = true
  | ⟨Op, N, Kind, Name, Args⟩ => by
    rw [e_api_Expr]; simp [ltRow, C.lt, Flat.api_Expr_2 m Args]
theorem Flat.api_Expr_2 (m : Nat) : ∀ (xs : List api_Expr), ltRows m (es_api_Expr xs) = true
  | [] => rfl
  | x :: xs => by rw [es_api_Expr, ltRows, Flat.api_Expr_1 m x, Flat.api_Expr_2 m xs]; rfl
end
theorem Flat.api_Expr : Flat e_api_Expr := fun m x => Flat.api_Expr_1 m x
theorem len_api_Expr {x : api_Expr} : (e_api_Expr x).length = 5 := by rw [e_api_Expr_def]; rfl
attribute [go_sem] e_api_Expr_def
structure api_Stmt where
  Kind : Int
  Name : Str
  Target : api_Expr
  Value : api_Expr
  Args : List api_Expr
  Body : List api_Stmt
  Else : List api_Stmt
mutual
def e_api_Stmt : api_Stmt → List C
  | ⟨Kind, Name, Target, Value, Args, Body, Else⟩ => [.int .i64 Kind, .str Name, .int .i64 Target.Op, .int .i64 Target.N, .int .i64 Target.Kind, .str Target.Name, .sl (Target.Args.map e_api_Expr), .int .i64 Value.Op, .int .i64 Value.N, .int .i64 Value.Kind, .str Value.Name, .sl (Value.Args.map e_api_Expr), .sl (Args.map e_api_Expr), .sl (es_api_Stmt Body), .sl (es_api_Stmt Else)]
def es_api_Stmt : List api_Stmt → List (List C)
  | [] => []
  | x :: xs => e_api_Stmt x :: es_api_Stmt xs
end
theorem es_api_Stmt_eq : ∀ (xs : List api_Stmt), es_api_Stmt xs = xs.map e_api_Stmt
  | [] => rfl
  | x :: xs => by rw [es_api_Stmt, es_api_Stmt_eq xs]; rfl
theorem e_api_Stmt_def {x : api_Stmt} : e_api_Stmt x = [.int .i64 x.Kind, .str x.Name, .int .i64 x.Target.Op, .int .i64 x.Target.N, .int .i64 x.Target.Kind, .str x.Target.Name, .sl (x.Target.Args.map e_api_Expr), .int .i64 x.Value.Op, .int .i64 x.Value.N, .int .i64 x.Value.Kind, .str x.Value.Name, .sl (x.Value.Args.map e_api_Expr), .sl (x.Args.map e_api_Expr), .sl (x.Body.map e_api_Stmt), .sl (x.Else.map e_api_Stmt)] := by
  cases x; simp only [e_api_Stmt, es_api_Stmt_eq]
mutual
theorem Flat.api_Stmt_1 (m : Nat) : ∀ (x : api_Stmt), ltRow m (e_api_Stmt x) = true
  | ⟨Kind, Name, Target, Value, Args, Body, Else⟩ => by
    rw [e_api_Stmt]; simp [ltRow, C.lt, ltRows_flat Flat.api_Expr, ltRows_flat Flat.api_Expr, ltRows_flat Flat.api_Expr, Flat.api_Stmt_2 m Body, Flat.api_Stmt_2 m Else]
theorem Flat.api_Stmt_2 (m : Nat) : ∀ (xs : List api_Stmt), ltRows m (es_api_Stmt xs) = true
  | [] => rfl
  | x :: xs => by rw [es_api_Stmt, ltRows, Flat.api_Stmt_1 m x, Flat.api_Stmt_2 m xs]; rfl
end
theorem Flat.api_Stmt : Flat e_api_Stmt := fun m x => Flat.api_Stmt_1 m x
theorem len_api_Stmt {x : api_Stmt} : (e_api_Stmt x).length = 15 := by rw [e_api_Stmt_def]; rfl
attribute [go_sem] e_api_Stmt_def
structure api_Task where
  Every : Int
  Priority : Int
  Budget : List Int
  Body : List api_Stmt
def e_api_Task (x : api_Task) : List C := [.int .i64 x.Every, .int .i64 x.Priority, .sl (x.Budget.map eI), .sl (x.Body.map e_api_Stmt)]
theorem e_api_Task_def {x : api_Task} : e_api_Task x = [.int .i64 x.Every, .int .i64 x.Priority, .sl (x.Budget.map eI), .sl (x.Body.map e_api_Stmt)] := of_eq_true (eq_self _)
theorem Flat.api_Task : Flat e_api_Task := fun m x => by
  rw [e_api_Task_def]; simp [ltRow, C.lt, lt_eF, ltRows_flat (Flat.K .i64), ltRows_flat Flat.api_Stmt]
theorem len_api_Task {x : api_Task} : (e_api_Task x).length = 4 := by rw [e_api_Task_def]; rfl
attribute [go_sem] e_api_Task_def
structure api_Ins where
  Op : Int
  A : Int
  B_ : Int
  Label : Int
def e_api_Ins (x : api_Ins) : List C := [.int .i64 x.Op, .int .i64 x.A, .int .i64 x.B_, .int .i64 x.Label]
theorem e_api_Ins_def {x : api_Ins} : e_api_Ins x = [.int .i64 x.Op, .int .i64 x.A, .int .i64 x.B_, .int .i64 x.Label] := of_eq_true (eq_self _)
theorem Flat.api_Ins : Flat e_api_Ins := fun m x => by
  rw [e_api_Ins_def]; simp [ltRow, C.lt, lt_eF]
theorem len_api_Ins {x : api_Ins} : (e_api_Ins x).length = 4 := by rw [e_api_Ins_def]; rfl
attribute [go_sem] e_api_Ins_def
structure api_Image where
  Lattice : api_Lattice
  Sites : List api_Site
  Vars : List api_Var
  Blocks : List api_Block
  Tasks : List api_Task
  Code : List (List api_Ins)
def e_api_Image (x : api_Image) : List C := [.sl (x.Lattice.Names.map eS), .sl (x.Lattice.Below.map (eA2 eI)), .sl (x.Sites.map e_api_Site), .sl (x.Vars.map e_api_Var), .sl (x.Blocks.map e_api_Block), .sl (x.Tasks.map e_api_Task), .sl (x.Code.map (eL e_api_Ins))]
theorem e_api_Image_def {x : api_Image} : e_api_Image x = [.sl (x.Lattice.Names.map eS), .sl (x.Lattice.Below.map (eA2 eI)), .sl (x.Sites.map e_api_Site), .sl (x.Vars.map e_api_Var), .sl (x.Blocks.map e_api_Block), .sl (x.Tasks.map e_api_Task), .sl (x.Code.map (eL e_api_Ins))] := of_eq_true (eq_self _)
theorem Flat.api_Image : Flat e_api_Image := fun m x => by
  rw [e_api_Image_def]; simp [ltRow, C.lt, lt_eF, ltRows_flat Flat.S, ltRows_flat (Flat.A2 (Flat.K .i64)), ltRows_flat Flat.api_Site, ltRows_flat Flat.api_Var, ltRows_flat Flat.api_Block, ltRows_flat Flat.api_Task, ltRows_flat (Flat.L Flat.api_Ins)]
theorem len_api_Image {x : api_Image} : (e_api_Image x).length = 7 := by rw [e_api_Image_def]; rfl
attribute [go_sem] e_api_Image_def
structure image_writer where
  b : List Int
def e_image_writer (x : image_writer) : List C := [.sl (x.b.map (eK .u8))]
theorem e_image_writer_def {x : image_writer} : e_image_writer x = [.sl (x.b.map (eK .u8))] := of_eq_true (eq_self _)
theorem Flat.image_writer : Flat e_image_writer := fun m x => by
  rw [e_image_writer_def]; simp [ltRow, C.lt, lt_eF, ltRows_flat (Flat.K .u8)]
theorem len_image_writer {x : image_writer} : (e_image_writer x).length = 1 := by rw [e_image_writer_def]; rfl
attribute [go_sem] e_image_writer_def
structure image_reader where
  s : Str
  bad : Bool
def e_image_reader (x : image_reader) : List C := [.str x.s, .bool x.bad]
theorem e_image_reader_def {x : image_reader} : e_image_reader x = [.str x.s, .bool x.bad] := of_eq_true (eq_self _)
theorem Flat.image_reader : Flat e_image_reader := fun m x => by
  rw [e_image_reader_def]; simp [ltRow, C.lt, lt_eF]
theorem len_image_reader {x : image_reader} : (e_image_reader x).length = 2 := by rw [e_image_reader_def]; rfl
attribute [go_sem] e_image_reader_def
structure lazarettoref18_P where
  S : Str
  Bad : Bool
def e_lazarettoref18_P (x : lazarettoref18_P) : List C := [.str x.S, .bool x.Bad]
theorem e_lazarettoref18_P_def {x : lazarettoref18_P} : e_lazarettoref18_P x = [.str x.S, .bool x.Bad] := of_eq_true (eq_self _)
theorem Flat.lazarettoref18_P : Flat e_lazarettoref18_P := fun m x => by
  rw [e_lazarettoref18_P_def]; simp [ltRow, C.lt, lt_eF]
theorem len_lazarettoref18_P {x : lazarettoref18_P} : (e_lazarettoref18_P x).length = 2 := by rw [e_lazarettoref18_P_def]; rfl
attribute [go_sem] e_lazarettoref18_P_def
structure lazarettoref18_W where
  B_ : List Int
def e_lazarettoref18_W (x : lazarettoref18_W) : List C := [.sl (x.B_.map (eK .u8))]
theorem e_lazarettoref18_W_def {x : lazarettoref18_W} : e_lazarettoref18_W x = [.sl (x.B_.map (eK .u8))] := of_eq_true (eq_self _)
theorem Flat.lazarettoref18_W : Flat e_lazarettoref18_W := fun m x => by
  rw [e_lazarettoref18_W_def]; simp [ltRow, C.lt, lt_eF, ltRows_flat (Flat.K .u8)]
theorem len_lazarettoref18_W {x : lazarettoref18_W} : (e_lazarettoref18_W x).length = 1 := by rw [e_lazarettoref18_W_def]; rfl
attribute [go_sem] e_lazarettoref18_W_def
structure blocks_kind where
  in_ : List Int
  out : List Int
  step : Option Nat
def e_blocks_kind (x : blocks_kind) : List C := [.sl (x.in_.map eI), .sl (x.out.map eI), eF x.step]
theorem e_blocks_kind_def {x : blocks_kind} : e_blocks_kind x = [.sl (x.in_.map eI), .sl (x.out.map eI), eF x.step] := of_eq_true (eq_self _)
theorem Flat.blocks_kind : Flat e_blocks_kind := fun m x => by
  rw [e_blocks_kind_def]; simp [ltRow, C.lt, lt_eF, ltRows_flat (Flat.K .i64), ltRows_flat (Flat.K .i64)]
theorem len_blocks_kind {x : blocks_kind} : (e_blocks_kind x).length = 3 := by rw [e_blocks_kind_def]; rfl
attribute [go_sem] e_blocks_kind_def
theorem Plain.A2 {α : Type} {f : α → List C} (h : Plain f) : Plain (eA2 f) := fun H k x => by
  rw [eA2_def]; simp [h H k]
theorem Plain.A4 {α : Type} {f : α → List C} (h : Plain f) : Plain (eA4 f) := fun H k x => by
  rw [eA4_def]; simp [h H k]
theorem Plain.api_Lattice : Plain e_api_Lattice := fun H k x => by rw [e_api_Lattice_def]; simp [vn_int, vn_bool, vn_str, vn_sl, vn_eF]
theorem Plain.api_Site : Plain e_api_Site := fun H k x => by rw [e_api_Site_def]; simp [vn_int, vn_bool, vn_str, vn_sl, vn_eF]
theorem Plain.api_Type : Plain e_api_Type := fun H k x => by rw [e_api_Type_def]; simp [vn_int, vn_bool, vn_str, vn_sl, vn_eF]
theorem Plain.api_Var : Plain e_api_Var := fun H k x => by rw [e_api_Var_def]; simp [vn_int, vn_bool, vn_str, vn_sl, vn_eF]
theorem Plain.api_Block : Plain e_api_Block := fun H k x => by rw [e_api_Block_def]; simp [vn_int, vn_bool, vn_str, vn_sl, vn_eF]
theorem Plain.api_Expr : Plain e_api_Expr := fun H k x => by rw [e_api_Expr_def]; simp [vn_int, vn_bool, vn_str, vn_sl, vn_eF]
theorem Plain.api_Stmt : Plain e_api_Stmt := fun H k x => by rw [e_api_Stmt_def]; simp [vn_int, vn_bool, vn_str, vn_sl, vn_eF]
theorem Plain.api_Task : Plain e_api_Task := fun H k x => by rw [e_api_Task_def]; simp [vn_int, vn_bool, vn_str, vn_sl, vn_eF]
theorem Plain.api_Ins : Plain e_api_Ins := fun H k x => by rw [e_api_Ins_def]; simp [vn_int, vn_bool, vn_str, vn_sl, vn_eF]
theorem Plain.api_Image : Plain e_api_Image := fun H k x => by rw [e_api_Image_def]; simp [vn_int, vn_bool, vn_str, vn_sl, vn_eF]
theorem Plain.image_writer : Plain e_image_writer := fun H k x => by rw [e_image_writer_def]; simp [vn_int, vn_bool, vn_str, vn_sl, vn_eF]
theorem Plain.image_reader : Plain e_image_reader := fun H k x => by rw [e_image_reader_def]; simp [vn_int, vn_bool, vn_str, vn_sl, vn_eF]
theorem Plain.lazarettoref18_P : Plain e_lazarettoref18_P := fun H k x => by rw [e_lazarettoref18_P_def]; simp [vn_int, vn_bool, vn_str, vn_sl, vn_eF]
theorem Plain.lazarettoref18_W : Plain e_lazarettoref18_W := fun H k x => by rw [e_lazarettoref18_W_def]; simp [vn_int, vn_bool, vn_str, vn_sl, vn_eF]
theorem Plain.blocks_kind : Plain e_blocks_kind := fun H k x => by rw [e_blocks_kind_def]; simp [vn_int, vn_bool, vn_str, vn_sl, vn_eF]
theorem lr9 {m : Nat} {xs : List Str} : ltRows m (xs.map eS) = true := ltRows_flat Flat.S m xs
theorem vw9 {H : List O} {k : Nat} {xs : List Str} : viewRows H k (xs.map eS) = xs.map eS := viewRows_plain Plain.S H k xs
theorem lr59 {m : Nat} {xs : List (A2 Int)} : ltRows m (xs.map (eA2 eI)) = true := ltRows_flat (Flat.A2 (Flat.K .i64)) m xs
theorem vw59 {H : List O} {k : Nat} {xs : List (A2 Int)} : viewRows H k (xs.map (eA2 eI)) = xs.map (eA2 eI) := viewRows_plain (Plain.A2 (Plain.K .i64)) H k xs
theorem lr61 {m : Nat} {xs : List api_Site} : ltRows m (xs.map e_api_Site) = true := ltRows_flat Flat.api_Site m xs
theorem vw61 {H : List O} {k : Nat} {xs : List api_Site} : viewRows H k (xs.map e_api_Site) = xs.map e_api_Site := viewRows_plain Plain.api_Site H k xs
theorem lr65 {m : Nat} {xs : List api_Var} : ltRows m (xs.map e_api_Var) = true := ltRows_flat Flat.api_Var m xs
theorem vw65 {H : List O} {k : Nat} {xs : List api_Var} : viewRows H k (xs.map e_api_Var) = xs.map e_api_Var := viewRows_plain Plain.api_Var H k xs
theorem lr67 {m : Nat} {xs : List api_Block} : ltRows m (xs.map e_api_Block) = true := ltRows_flat Flat.api_Block m xs
theorem vw67 {H : List O} {k : Nat} {xs : List api_Block} : viewRows H k (xs.map e_api_Block) = xs.map e_api_Block := viewRows_plain Plain.api_Block H k xs
theorem lr51 {m : Nat} {xs : List api_Task} : ltRows m (xs.map e_api_Task) = true := ltRows_flat Flat.api_Task m xs
theorem vw51 {H : List O} {k : Nat} {xs : List api_Task} : viewRows H k (xs.map e_api_Task) = xs.map e_api_Task := viewRows_plain Plain.api_Task H k xs
theorem lr52 {m : Nat} {xs : List (List api_Ins)} : ltRows m (xs.map (eL e_api_Ins)) = true := ltRows_flat (Flat.L Flat.api_Ins) m xs
theorem vw52 {H : List O} {k : Nat} {xs : List (List api_Ins)} : viewRows H k (xs.map (eL e_api_Ins)) = xs.map (eL e_api_Ins) := viewRows_plain (Plain.L e_api_Ins) H k xs
theorem lr3 {m : Nat} {xs : List Int} : ltRows m (xs.map eI) = true := ltRows_flat (Flat.K .i64) m xs
theorem vw3 {H : List O} {k : Nat} {xs : List Int} : viewRows H k (xs.map eI) = xs.map eI := viewRows_plain (Plain.K .i64) H k xs
theorem lr165 {m : Nat} {xs : List api_Stmt} : ltRows m (xs.map e_api_Stmt) = true := ltRows_flat Flat.api_Stmt m xs
theorem vw165 {H : List O} {k : Nat} {xs : List api_Stmt} : viewRows H k (xs.map e_api_Stmt) = xs.map e_api_Stmt := viewRows_plain Plain.api_Stmt H k xs
theorem lr91 {m : Nat} {xs : List api_Ins} : ltRows m (xs.map e_api_Ins) = true := ltRows_flat Flat.api_Ins m xs
theorem vw91 {H : List O} {k : Nat} {xs : List api_Ins} : viewRows H k (xs.map e_api_Ins) = xs.map e_api_Ins := viewRows_plain Plain.api_Ins H k xs
theorem lr5 {m : Nat} {xs : List Int} : ltRows m (xs.map (eK .u8)) = true := ltRows_flat (Flat.K .u8) m xs
theorem vw5 {H : List O} {k : Nat} {xs : List Int} : viewRows H k (xs.map (eK .u8)) = xs.map (eK .u8) := viewRows_plain (Plain.K .u8) H k xs
theorem lr4 {m : Nat} {xs : List Bool} : ltRows m (xs.map eB) = true := ltRows_flat Flat.B m xs
theorem vw4 {H : List O} {k : Nat} {xs : List Bool} : viewRows H k (xs.map eB) = xs.map eB := viewRows_plain Plain.B H k xs
theorem lr163 {m : Nat} {xs : List api_Expr} : ltRows m (xs.map e_api_Expr) = true := ltRows_flat Flat.api_Expr m xs
theorem vw163 {H : List O} {k : Nat} {xs : List api_Expr} : viewRows H k (xs.map e_api_Expr) = xs.map e_api_Expr := viewRows_plain Plain.api_Expr H k xs
theorem eqt59 : eqT Tryz.prog 59 = true := by kernel_rfl
theorem lit59 {a0 : Int} {a1 : Int} : litC Tryz.prog 20 59 [.int .i64 a0, .int .i64 a1] = some [.i .i64 a0, .i .i64 a1] := by kernel_rfl
theorem eqt61 : eqT Tryz.prog 61 = true := by kernel_rfl
theorem lit61 {a0 : Str} {a1 : Int} {a2 : Int} : litC Tryz.prog 20 61 [.str a0, .int .i64 a1, .int .i64 a2] = some [.s a0, .i .i64 a1, .i .i64 a2] := by kernel_rfl
theorem eqt65 : eqT Tryz.prog 65 = true := by kernel_rfl
theorem lit65 {a0 : Str} {a1 : Int} {a2 : Int} {a3 : Int} {a4 : Int} {a5 : Int} {a6 : Int} : litC Tryz.prog 20 65 [.str a0, .int .i64 a1, .int .i64 a2, .int .i64 a3, .int .i64 a4, .int .i64 a5, .int .i64 a6] = some [.s a0, .i .i64 a1, .i .i64 a2, .i .i64 a3, .i .i64 a4, .i .i64 a5, .i .i64 a6] := by kernel_rfl
theorem eqt67 : eqT Tryz.prog 67 = true := by kernel_rfl
theorem lit67 {a0 : Str} {a1 : Str} {a2 : Int} : litC Tryz.prog 20 67 [.str a0, .str a1, .int .i64 a2] = some [.s a0, .s a1, .i .i64 a2] := by kernel_rfl
theorem eqt91 : eqT Tryz.prog 91 = true := by kernel_rfl
theorem lit91 {a0 : Int} {a1 : Int} {a2 : Int} {a3 : Int} : litC Tryz.prog 20 91 [.int .i64 a0, .int .i64 a1, .int .i64 a2, .int .i64 a3] = some [.i .i64 a0, .i .i64 a1, .i .i64 a2, .i .i64 a3] := by kernel_rfl
theorem pa59 : tPa Tryz.prog 59 = some 2 := by kernel_rfl
theorem ag3 : tAg Tryz.prog 3 = some (false, 1) := by kernel_rfl
theorem tk3 : tK Tryz.prog 3 = some .i64 := by kernel_rfl
theorem z3 : tZ Tryz.prog 3 = some (.one (.int .i64 0)) := by kernel_rfl
theorem un3 : (Tryz.prog.underlying 3).isSome = true := by kernel_rfl
theorem ag4 : tAg Tryz.prog 4 = some (false, 1) := by kernel_rfl
theorem tb4 : tIsBool Tryz.prog 4 = true := by kernel_rfl
theorem z4 : tZ Tryz.prog 4 = some (.one (.bool false)) := by kernel_rfl
theorem ag5 : tAg Tryz.prog 5 = some (false, 1) := by kernel_rfl
theorem tk5 : tK Tryz.prog 5 = some .u8 := by kernel_rfl
theorem z5 : tZ Tryz.prog 5 = some (.one (.int .u8 0)) := by kernel_rfl
theorem un5 : (Tryz.prog.underlying 5).isSome = true := by kernel_rfl
theorem ud5 : Tryz.prog.underlying 5 = some (.int .u8) := by kernel_rfl
theorem ag9 : tAg Tryz.prog 9 = some (false, 1) := by kernel_rfl
theorem ts9 : tIsStr Tryz.prog 9 = true := by kernel_rfl
theorem z9 : tZ Tryz.prog 9 = some (.one (.str [])) := by kernel_rfl
theorem ud9 : Tryz.prog.underlying 9 = some .string := by kernel_rfl
theorem ag21 : tAg Tryz.prog 21 = some (false, 1) := by kernel_rfl
theorem tk21 : tK Tryz.prog 21 = some .i32 := by kernel_rfl
theorem z21 : tZ Tryz.prog 21 = some (.one (.int .i32 0)) := by kernel_rfl
theorem un21 : (Tryz.prog.underlying 21).isSome = true := by kernel_rfl
theorem ag22 : tAg Tryz.prog 22 = some (false, 1) := by kernel_rfl
theorem sl22 : tSl Tryz.prog 22 = some (9, 1, 16) := by kernel_rfl
theorem ar22 : tAr Tryz.prog 22 = none := by kernel_rfl
theorem z22 : tZ Tryz.prog 22 = some (.one (.slf [])) := by kernel_rfl
theorem ag23 : tAg Tryz.prog 23 = some (false, 1) := by kernel_rfl
theorem sl23 : tSl Tryz.prog 23 = some (59, 2, 16) := by kernel_rfl
theorem ar23 : tAr Tryz.prog 23 = none := by kernel_rfl
theorem z23 : tZ Tryz.prog 23 = some (.one (.slf [])) := by kernel_rfl
theorem ag25 : tAg Tryz.prog 25 = some (true, 2) := by kernel_rfl
theorem pl25 : tPl Tryz.prog 25 = some (fun k => [(0, 1), (1, 1)][k]?) := by kernel_rfl
theorem fd25_0 : tFd Tryz.prog 25 0 = some (0, false, 1) := by kernel_rfl
theorem fd25_1 : tFd Tryz.prog 25 1 = some (1, false, 1) := by kernel_rfl
theorem z25 : tZ Tryz.prog 25 = some (.agg [.slf [], .slf []]) := by kernel_rfl
theorem ag26 : tAg Tryz.prog 26 = some (false, 1) := by kernel_rfl
theorem sl26 : tSl Tryz.prog 26 = some (61, 3, 32) := by kernel_rfl
theorem ar26 : tAr Tryz.prog 26 = none := by kernel_rfl
theorem z26 : tZ Tryz.prog 26 = some (.one (.slf [])) := by kernel_rfl
theorem ag27 : tAg Tryz.prog 27 = some (false, 1) := by kernel_rfl
theorem sl27 : tSl Tryz.prog 27 = some (65, 7, 64) := by kernel_rfl
theorem ar27 : tAr Tryz.prog 27 = none := by kernel_rfl
theorem z27 : tZ Tryz.prog 27 = some (.one (.slf [])) := by kernel_rfl
theorem ag28 : tAg Tryz.prog 28 = some (false, 1) := by kernel_rfl
theorem sl28 : tSl Tryz.prog 28 = some (67, 3, 40) := by kernel_rfl
theorem ar28 : tAr Tryz.prog 28 = none := by kernel_rfl
theorem z28 : tZ Tryz.prog 28 = some (.one (.slf [])) := by kernel_rfl
theorem ag29 : tAg Tryz.prog 29 = some (false, 1) := by kernel_rfl
theorem sl29 : tSl Tryz.prog 29 = some (51, 4, 64) := by kernel_rfl
theorem ar29 : tAr Tryz.prog 29 = none := by kernel_rfl
theorem z29 : tZ Tryz.prog 29 = some (.one (.slf [])) := by kernel_rfl
theorem ag30 : tAg Tryz.prog 30 = some (false, 1) := by kernel_rfl
theorem sl30 : tSl Tryz.prog 30 = some (52, 1, 24) := by kernel_rfl
theorem ar30 : tAr Tryz.prog 30 = none := by kernel_rfl
theorem z30 : tZ Tryz.prog 30 = some (.one (.slf [])) := by kernel_rfl
theorem ag32 : tAg Tryz.prog 32 = some (true, 7) := by kernel_rfl
theorem pl32 : tPl Tryz.prog 32 = some (fun k => [(0, 2), (2, 1), (3, 1), (4, 1), (5, 1), (6, 1)][k]?) := by kernel_rfl
theorem fd32_0 : tFd Tryz.prog 32 0 = some (0, true, 2) := by kernel_rfl
theorem fd32_1 : tFd Tryz.prog 32 1 = some (2, false, 1) := by kernel_rfl
theorem fd32_2 : tFd Tryz.prog 32 2 = some (3, false, 1) := by kernel_rfl
theorem fd32_3 : tFd Tryz.prog 32 3 = some (4, false, 1) := by kernel_rfl
theorem fd32_4 : tFd Tryz.prog 32 4 = some (5, false, 1) := by kernel_rfl
theorem fd32_5 : tFd Tryz.prog 32 5 = some (6, false, 1) := by kernel_rfl
theorem z32 : tZ Tryz.prog 32 = some (.agg [.slf [], .slf [], .slf [], .slf [], .slf [], .slf [], .slf []]) := by kernel_rfl
theorem ag35 : tAg Tryz.prog 35 = some (false, 1) := by kernel_rfl
theorem tk35 : tK Tryz.prog 35 = some .i64 := by kernel_rfl
theorem z35 : tZ Tryz.prog 35 = some (.one (.int .i64 0)) := by kernel_rfl
theorem un35 : (Tryz.prog.underlying 35).isSome = true := by kernel_rfl
theorem ag47 : tAg Tryz.prog 47 = some (false, 1) := by kernel_rfl
theorem z47 : tZ Tryz.prog 47 = some (.one (.nilfn)) := by kernel_rfl
theorem ag48 : tAg Tryz.prog 48 = some (false, 1) := by kernel_rfl
theorem sl48 : tSl Tryz.prog 48 = some (3, 1, 8) := by kernel_rfl
theorem ar48 : tAr Tryz.prog 48 = none := by kernel_rfl
theorem z48 : tZ Tryz.prog 48 = some (.one (.slf [])) := by kernel_rfl
theorem ag49 : tAg Tryz.prog 49 = some (false, 1) := by kernel_rfl
theorem sl49 : tSl Tryz.prog 49 = some (165, 15, 224) := by kernel_rfl
theorem ar49 : tAr Tryz.prog 49 = none := by kernel_rfl
theorem z49 : tZ Tryz.prog 49 = some (.one (.slf [])) := by kernel_rfl
theorem ag51 : tAg Tryz.prog 51 = some (true, 4) := by kernel_rfl
theorem pl51 : tPl Tryz.prog 51 = some (fun k => [(0, 1), (1, 1), (2, 1), (3, 1)][k]?) := by kernel_rfl
theorem fd51_0 : tFd Tryz.prog 51 0 = some (0, false, 1) := by kernel_rfl
theorem fd51_1 : tFd Tryz.prog 51 1 = some (1, false, 1) := by kernel_rfl
theorem fd51_2 : tFd Tryz.prog 51 2 = some (2, false, 1) := by kernel_rfl
theorem fd51_3 : tFd Tryz.prog 51 3 = some (3, false, 1) := by kernel_rfl
theorem z51 : tZ Tryz.prog 51 = some (.agg [.int .i64 0, .int .i64 0, .slf [], .slf []]) := by kernel_rfl
theorem ag52 : tAg Tryz.prog 52 = some (false, 1) := by kernel_rfl
theorem sl52 : tSl Tryz.prog 52 = some (91, 4, 32) := by kernel_rfl
theorem ar52 : tAr Tryz.prog 52 = none := by kernel_rfl
theorem z52 : tZ Tryz.prog 52 = some (.one (.slf [])) := by kernel_rfl
theorem ag53 : tAg Tryz.prog 53 = some (false, 1) := by kernel_rfl
theorem z53 : tZ Tryz.prog 53 = some (.one (.nilp)) := by kernel_rfl
theorem ag54 : tAg Tryz.prog 54 = some (false, 1) := by kernel_rfl
theorem sl54 : tSl Tryz.prog 54 = some (5, 1, 1) := by kernel_rfl
theorem ar54 : tAr Tryz.prog 54 = none := by kernel_rfl
theorem z54 : tZ Tryz.prog 54 = some (.one (.slf [])) := by kernel_rfl
theorem ud54 : Tryz.prog.underlying 54 = some (.slice 5) := by kernel_rfl
theorem ag56 : tAg Tryz.prog 56 = some (true, 1) := by kernel_rfl
theorem pl56 : tPl Tryz.prog 56 = some (fun k => [(0, 1)][k]?) := by kernel_rfl
theorem fd56_0 : tFd Tryz.prog 56 0 = some (0, false, 1) := by kernel_rfl
theorem z56 : tZ Tryz.prog 56 = some (.agg [.slf []]) := by kernel_rfl
theorem ag59 : tAg Tryz.prog 59 = some (true, 2) := by kernel_rfl
theorem pl59 : tPl Tryz.prog 59 = some (fun k => some (k * 1, 1)) := by kernel_rfl
theorem ar59 : tAr Tryz.prog 59 = some (2, 3, 1) := by kernel_rfl
theorem z59 : tZ Tryz.prog 59 = some (.agg [.int .i64 0, .int .i64 0]) := by kernel_rfl
theorem ag61 : tAg Tryz.prog 61 = some (true, 3) := by kernel_rfl
theorem pl61 : tPl Tryz.prog 61 = some (fun k => [(0, 1), (1, 1), (2, 1)][k]?) := by kernel_rfl
theorem fd61_0 : tFd Tryz.prog 61 0 = some (0, false, 1) := by kernel_rfl
theorem fd61_1 : tFd Tryz.prog 61 1 = some (1, false, 1) := by kernel_rfl
theorem fd61_2 : tFd Tryz.prog 61 2 = some (2, false, 1) := by kernel_rfl
theorem z61 : tZ Tryz.prog 61 = some (.agg [.str [], .int .i64 0, .int .i64 0]) := by kernel_rfl
theorem ag63 : tAg Tryz.prog 63 = some (true, 3) := by kernel_rfl
theorem pl63 : tPl Tryz.prog 63 = some (fun k => [(0, 1), (1, 1), (2, 1)][k]?) := by kernel_rfl
theorem fd63_0 : tFd Tryz.prog 63 0 = some (0, false, 1) := by kernel_rfl
theorem fd63_1 : tFd Tryz.prog 63 1 = some (1, false, 1) := by kernel_rfl
theorem fd63_2 : tFd Tryz.prog 63 2 = some (2, false, 1) := by kernel_rfl
theorem z63 : tZ Tryz.prog 63 = some (.agg [.int .i64 0, .int .i64 0, .int .i64 0]) := by kernel_rfl
theorem ag65 : tAg Tryz.prog 65 = some (true, 7) := by kernel_rfl
theorem pl65 : tPl Tryz.prog 65 = some (fun k => [(0, 1), (1, 3), (4, 1), (5, 1), (6, 1)][k]?) := by kernel_rfl
theorem fd65_0 : tFd Tryz.prog 65 0 = some (0, false, 1) := by kernel_rfl
theorem fd65_1 : tFd Tryz.prog 65 1 = some (1, true, 3) := by kernel_rfl
theorem fd65_2 : tFd Tryz.prog 65 2 = some (4, false, 1) := by kernel_rfl
theorem fd65_3 : tFd Tryz.prog 65 3 = some (5, false, 1) := by kernel_rfl
theorem fd65_4 : tFd Tryz.prog 65 4 = some (6, false, 1) := by kernel_rfl
theorem z65 : tZ Tryz.prog 65 = some (.agg [.str [], .int .i64 0, .int .i64 0, .int .i64 0, .int .i64 0, .int .i64 0, .int .i64 0]) := by kernel_rfl
theorem ag67 : tAg Tryz.prog 67 = some (true, 3) := by kernel_rfl
theorem pl67 : tPl Tryz.prog 67 = some (fun k => [(0, 1), (1, 1), (2, 1)][k]?) := by kernel_rfl
theorem fd67_0 : tFd Tryz.prog 67 0 = some (0, false, 1) := by kernel_rfl
theorem fd67_1 : tFd Tryz.prog 67 1 = some (1, false, 1) := by kernel_rfl
theorem fd67_2 : tFd Tryz.prog 67 2 = some (2, false, 1) := by kernel_rfl
theorem z67 : tZ Tryz.prog 67 = some (.agg [.str [], .str [], .int .i64 0]) := by kernel_rfl
theorem ag72 : tAg Tryz.prog 72 = some (false, 1) := by kernel_rfl
theorem z72 : tZ Tryz.prog 72 = some (.one (.nilp)) := by kernel_rfl
theorem ag74 : tAg Tryz.prog 74 = some (true, 2) := by kernel_rfl
theorem pl74 : tPl Tryz.prog 74 = some (fun k => [(0, 1), (1, 1)][k]?) := by kernel_rfl
theorem fd74_0 : tFd Tryz.prog 74 0 = some (0, false, 1) := by kernel_rfl
theorem fd74_1 : tFd Tryz.prog 74 1 = some (1, false, 1) := by kernel_rfl
theorem z74 : tZ Tryz.prog 74 = some (.agg [.str [], .bool false]) := by kernel_rfl
theorem ag76 : tAg Tryz.prog 76 = some (false, 1) := by kernel_rfl
theorem z76 : tZ Tryz.prog 76 = some (.one (.nilp)) := by kernel_rfl
theorem ag78 : tAg Tryz.prog 78 = some (true, 2) := by kernel_rfl
theorem pl78 : tPl Tryz.prog 78 = some (fun k => [(0, 1), (1, 1)][k]?) := by kernel_rfl
theorem fd78_0 : tFd Tryz.prog 78 0 = some (0, false, 1) := by kernel_rfl
theorem fd78_1 : tFd Tryz.prog 78 1 = some (1, false, 1) := by kernel_rfl
theorem z78 : tZ Tryz.prog 78 = some (.agg [.str [], .bool false]) := by kernel_rfl
theorem ag81 : tAg Tryz.prog 81 = some (false, 1) := by kernel_rfl
theorem z81 : tZ Tryz.prog 81 = some (.one (.nilfn)) := by kernel_rfl
theorem ag83 : tAg Tryz.prog 83 = some (false, 1) := by kernel_rfl
theorem z83 : tZ Tryz.prog 83 = some (.one (.nilfn)) := by kernel_rfl
theorem ag91 : tAg Tryz.prog 91 = some (true, 4) := by kernel_rfl
theorem pl91 : tPl Tryz.prog 91 = some (fun k => [(0, 1), (1, 1), (2, 1), (3, 1)][k]?) := by kernel_rfl
theorem fd91_0 : tFd Tryz.prog 91 0 = some (0, false, 1) := by kernel_rfl
theorem fd91_1 : tFd Tryz.prog 91 1 = some (1, false, 1) := by kernel_rfl
theorem fd91_2 : tFd Tryz.prog 91 2 = some (2, false, 1) := by kernel_rfl
theorem fd91_3 : tFd Tryz.prog 91 3 = some (3, false, 1) := by kernel_rfl
theorem z91 : tZ Tryz.prog 91 = some (.agg [.int .i64 0, .int .i64 0, .int .i64 0, .int .i64 0]) := by kernel_rfl
theorem ag95 : tAg Tryz.prog 95 = some (false, 1) := by kernel_rfl
theorem z95 : tZ Tryz.prog 95 = some (.one (.nilp)) := by kernel_rfl
theorem ag97 : tAg Tryz.prog 97 = some (true, 1) := by kernel_rfl
theorem pl97 : tPl Tryz.prog 97 = some (fun k => [(0, 1)][k]?) := by kernel_rfl
theorem fd97_0 : tFd Tryz.prog 97 0 = some (0, false, 1) := by kernel_rfl
theorem z97 : tZ Tryz.prog 97 = some (.agg [.slf []]) := by kernel_rfl
theorem ag100 : tAg Tryz.prog 100 = some (false, 1) := by kernel_rfl
theorem z100 : tZ Tryz.prog 100 = some (.one (.nilfn)) := by kernel_rfl
theorem ag102 : tAg Tryz.prog 102 = some (false, 1) := by kernel_rfl
theorem mp102 : tMp Tryz.prog 102 = some (9, none, 4) := by kernel_rfl
theorem z102 : tZ Tryz.prog 102 = some (.one (.nilm)) := by kernel_rfl
theorem ag119 : tAg Tryz.prog 119 = some (false, 1) := by kernel_rfl
theorem z119 : tZ Tryz.prog 119 = some (.one (.nilfn)) := by kernel_rfl
theorem ag123 : tAg Tryz.prog 123 = some (false, 1) := by kernel_rfl
theorem sl123 : tSl Tryz.prog 123 = some (4, 1, 1) := by kernel_rfl
theorem ar123 : tAr Tryz.prog 123 = none := by kernel_rfl
theorem z123 : tZ Tryz.prog 123 = some (.one (.slf [])) := by kernel_rfl
theorem ag126 : tAg Tryz.prog 126 = some (false, 1) := by kernel_rfl
theorem z126 : tZ Tryz.prog 126 = some (.one (.nilfn)) := by kernel_rfl
theorem ag127 : tAg Tryz.prog 127 = some (false, 1) := by kernel_rfl
theorem z127 : tZ Tryz.prog 127 = some (.one (.nilfn)) := by kernel_rfl
theorem ag129 : tAg Tryz.prog 129 = some (false, 1) := by kernel_rfl
theorem z129 : tZ Tryz.prog 129 = some (.one (.nilfn)) := by kernel_rfl
theorem ag131 : tAg Tryz.prog 131 = some (true, 3) := by kernel_rfl
theorem pl131 : tPl Tryz.prog 131 = some (fun k => [(0, 1), (1, 1), (2, 1)][k]?) := by kernel_rfl
theorem fd131_0 : tFd Tryz.prog 131 0 = some (0, false, 1) := by kernel_rfl
theorem fd131_1 : tFd Tryz.prog 131 1 = some (1, false, 1) := by kernel_rfl
theorem fd131_2 : tFd Tryz.prog 131 2 = some (2, false, 1) := by kernel_rfl
theorem z131 : tZ Tryz.prog 131 = some (.agg [.slf [], .slf [], .nilfn]) := by kernel_rfl
theorem ag137 : tAg Tryz.prog 137 = some (false, 1) := by kernel_rfl
theorem tk137 : tK Tryz.prog 137 = some .u32 := by kernel_rfl
theorem z137 : tZ Tryz.prog 137 = some (.one (.int .u32 0)) := by kernel_rfl
theorem un137 : (Tryz.prog.underlying 137).isSome = true := by kernel_rfl
theorem ag144 : tAg Tryz.prog 144 = some (true, 4) := by kernel_rfl
theorem pl144 : tPl Tryz.prog 144 = some (fun k => some (k * 1, 1)) := by kernel_rfl
theorem ar144 : tAr Tryz.prog 144 = some (4, 3, 1) := by kernel_rfl
theorem z144 : tZ Tryz.prog 144 = some (.agg [.int .i64 0, .int .i64 0, .int .i64 0, .int .i64 0]) := by kernel_rfl
theorem ag147 : tAg Tryz.prog 147 = some (false, 1) := by kernel_rfl
theorem tk147 : tK Tryz.prog 147 = some .u64 := by kernel_rfl
theorem z147 : tZ Tryz.prog 147 = some (.one (.int .u64 0)) := by kernel_rfl
theorem un147 : (Tryz.prog.underlying 147).isSome = true := by kernel_rfl
theorem ag161 : tAg Tryz.prog 161 = some (false, 1) := by kernel_rfl
theorem sl161 : tSl Tryz.prog 161 = some (163, 5, 64) := by kernel_rfl
theorem ar161 : tAr Tryz.prog 161 = none := by kernel_rfl
theorem z161 : tZ Tryz.prog 161 = some (.one (.slf [])) := by kernel_rfl
theorem ag163 : tAg Tryz.prog 163 = some (true, 5) := by kernel_rfl
theorem pl163 : tPl Tryz.prog 163 = some (fun k => [(0, 1), (1, 1), (2, 1), (3, 1), (4, 1)][k]?) := by kernel_rfl
theorem fd163_0 : tFd Tryz.prog 163 0 = some (0, false, 1) := by kernel_rfl
theorem fd163_1 : tFd Tryz.prog 163 1 = some (1, false, 1) := by kernel_rfl
theorem fd163_2 : tFd Tryz.prog 163 2 = some (2, false, 1) := by kernel_rfl
theorem fd163_3 : tFd Tryz.prog 163 3 = some (3, false, 1) := by kernel_rfl
theorem fd163_4 : tFd Tryz.prog 163 4 = some (4, false, 1) := by kernel_rfl
theorem z163 : tZ Tryz.prog 163 = some (.agg [.int .i64 0, .int .i64 0, .int .i64 0, .str [], .slf []]) := by kernel_rfl
theorem ag165 : tAg Tryz.prog 165 = some (true, 15) := by kernel_rfl
theorem pl165 : tPl Tryz.prog 165 = some (fun k => [(0, 1), (1, 1), (2, 5), (7, 5), (12, 1), (13, 1), (14, 1)][k]?) := by kernel_rfl
theorem fd165_0 : tFd Tryz.prog 165 0 = some (0, false, 1) := by kernel_rfl
theorem fd165_1 : tFd Tryz.prog 165 1 = some (1, false, 1) := by kernel_rfl
theorem fd165_2 : tFd Tryz.prog 165 2 = some (2, true, 5) := by kernel_rfl
theorem fd165_3 : tFd Tryz.prog 165 3 = some (7, true, 5) := by kernel_rfl
theorem fd165_4 : tFd Tryz.prog 165 4 = some (12, false, 1) := by kernel_rfl
theorem fd165_5 : tFd Tryz.prog 165 5 = some (13, false, 1) := by kernel_rfl
theorem fd165_6 : tFd Tryz.prog 165 6 = some (14, false, 1) := by kernel_rfl
theorem z165 : tZ Tryz.prog 165 = some (.agg [.int .i64 0, .str [], .int .i64 0, .int .i64 0, .int .i64 0, .str [], .slf [], .int .i64 0, .int .i64 0, .int .i64 0, .str [], .slf [], .slf [], .slf [], .slf []]) := by kernel_rfl
attribute [go_sem] lr9 vw9 lr59 vw59 lr61 vw61 lr65 vw65 lr67 vw67 lr51 vw51 lr52 vw52 lr3 vw3 lr165 vw165 lr91 vw91 lr5 vw5 lr4 vw4 lr163 vw163 eqt59 lit59 eqt61 lit61 eqt65 lit65 eqt67 lit67 eqt91 lit91 pa59 ag3 tk3 z3 un3 ag4 tb4 z4 ag5 tk5 z5 un5 ud5 ag9 ts9 z9 ud9 ag21 tk21 z21 un21 ag22 sl22 ar22 z22 ag23 sl23 ar23 z23 ag25 pl25 fd25_0 fd25_1 z25 ag26 sl26 ar26 z26 ag27 sl27 ar27 z27 ag28 sl28 ar28 z28 ag29 sl29 ar29 z29 ag30 sl30 ar30 z30 ag32 pl32 fd32_0 fd32_1 fd32_2 fd32_3 fd32_4 fd32_5 z32 ag35 tk35 z35 un35 ag47 z47 ag48 sl48 ar48 z48 ag49 sl49 ar49 z49 ag51 pl51 fd51_0 fd51_1 fd51_2 fd51_3 z51 ag52 sl52 ar52 z52 ag53 z53 ag54 sl54 ar54 z54 ud54 ag56 pl56 fd56_0 z56 ag59 pl59 ar59 z59 ag61 pl61 fd61_0 fd61_1 fd61_2 z61 ag63 pl63 fd63_0 fd63_1 fd63_2 z63 ag65 pl65 fd65_0 fd65_1 fd65_2 fd65_3 fd65_4 z65 ag67 pl67 fd67_0 fd67_1 fd67_2 z67 ag72 z72 ag74 pl74 fd74_0 fd74_1 z74 ag76 z76 ag78 pl78 fd78_0 fd78_1 z78 ag81 z81 ag83 z83 ag91 pl91 fd91_0 fd91_1 fd91_2 fd91_3 z91 ag95 z95 ag97 pl97 fd97_0 z97 ag100 z100 ag102 mp102 z102 ag119 z119 ag123 sl123 ar123 z123 ag126 z126 ag127 z127 ag129 z129 ag131 pl131 fd131_0 fd131_1 fd131_2 z131 ag137 tk137 z137 un137 ag144 pl144 ar144 z144 ag147 tk147 z147 un147 ag161 sl161 ar161 z161 ag163 pl163 fd163_0 fd163_1 fd163_2 fd163_3 fd163_4 z163 ag165 pl165 fd165_0 fd165_1 fd165_2 fd165_3 fd165_4 fd165_5 fd165_6 z165
theorem mo : Tryz.prog.follows .mixedOrders = true := rfl
end Go.Lz

