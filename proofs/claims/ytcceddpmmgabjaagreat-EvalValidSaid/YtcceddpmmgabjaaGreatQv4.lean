/- The parts of a proof: SD -/
import Derived.Test.YtcceddpmmgabjaaGreatQv3
import Derived.Test.YtcceddpmmgabjaaGreatProg
import Derived.KernelRfl
set_option linter.unusedVariables false
set_option linter.unusedSimpArgs false
section
namespace Go.Lz
open Go.Proofs
structure A2 (α:Type)where
 a0:α
 a1:α
 deriving DecidableEq
def eA2 {α:Type} (f:α->List C) (x:A2 α):List C:=f x.a0++f x.a1
theorem z4u {α:Type} {f:α->List C} {x:A2 α}:eA2 f x=f x.a0++f x.a1:=of_eq_true (eq_self _)
theorem Flat.A2 {α:Type} {f:α->List C} (h:Flat f):Flat (eA2 f):=fun m x=>by
 rw[z4u];simp[zza,h m]
attribute [go_sem] z4u
structure A3 (α:Type)where
 a0:α
 a1:α
 a2:α
 deriving DecidableEq
def eA3 {α:Type} (f:α->List C) (x:A3 α):List C:=f x.a0++f x.a1++f x.a2
theorem z4t {α:Type} {f:α->List C} {x:A3 α}:eA3 f x=f x.a0++f x.a1++f x.a2:=of_eq_true (eq_self _)
theorem Flat.A3 {α:Type} {f:α->List C} (h:Flat f):Flat (eA3 f):=fun m x=>by
 rw[z4t];simp[zza,h m]
attribute [go_sem] z4t
structure A4 (α:Type)where
 a0:α
 a1:α
 a2:α
 a3:α
 deriving DecidableEq
def eA4 {α:Type} (f:α->List C) (x:A4 α):List C:=f x.a0++f x.a1++f x.a2++f x.a3
theorem z4s {α:Type} {f:α->List C} {x:A4 α}:eA4 f x=f x.a0++f x.a1++f x.a2++f x.a3:=of_eq_true (eq_self _)
theorem Flat.A4 {α:Type} {f:α->List C} (h:Flat f):Flat (eA4 f):=fun m x=>by
 rw[z4s];simp[zza,h m]
attribute [go_sem] z4s
structure xr4 where
 Names:List Str
 Below:List (A2 Int)
def xsf (x:xr4):List C:=[.sl (x.Names.map eS),.sl (x.Below.map (eA2 eI))]
theorem xsn {x:xr4}:xsf x=[.sl (x.Names.map eS),.sl (x.Below.map (eA2 eI))]:=of_eq_true (eq_self _)
theorem Flat.xr4:Flat xsf:=fun m x=>by
 rw[xsn];simp[zed,C.lt,zq0,zal Flat.S,zal (Flat.A2 (Flat.K .i64))]
attribute [go_sem] xsn
structure xsb where
 Name:Str
 From:Int
 To:Int
def xrz (x:xsb):List C:=[.str x.Name,.int .i64 x.From,.int .i64 x.To]
theorem xso {x:xsb}:xrz x=[.str x.Name,.int .i64 x.From,.int .i64 x.To]:=of_eq_true (eq_self _)
theorem Flat.xsb:Flat xrz:=fun m x=>by
 rw[xso];simp[zed,C.lt,zq0]
attribute [go_sem] xso
structure xsc where
 Kind:Int
 Low:Int
 Len:Int
def xsi (x:xsc):List C:=[.int .i64 x.Kind,.int .i64 x.Low,.int .i64 x.Len]
theorem xsp {x:xsc}:xsi x=[.int .i64 x.Kind,.int .i64 x.Low,.int .i64 x.Len]:=of_eq_true (eq_self _)
theorem Flat.xsc:Flat xsi:=fun m x=>by
 rw[xsp];simp[zed,C.lt,zq0]
attribute [go_sem] xsp
structure xr7 where
 Name:Str
 Type_:xsc
 Mode:Int
 Label:Int
 Safe:Int
def xr0 (x:xr7):List C:=[.str x.Name,.int .i64 x.Type_.Kind,.int .i64 x.Type_.Low,.int .i64 x.Type_.Len,.int .i64 x.Mode,.int .i64 x.Label,.int .i64 x.Safe]
theorem xsq {x:xr7}:xr0 x=[.str x.Name,.int .i64 x.Type_.Kind,.int .i64 x.Type_.Low,.int .i64 x.Type_.Len,.int .i64 x.Mode,.int .i64 x.Label,.int .i64 x.Safe]:=of_eq_true (eq_self _)
theorem Flat.xr7:Flat xr0:=fun m x=>by
 rw[xsq];simp[zed,C.lt,zq0]
attribute [go_sem] xsq
structure xr9 where
 Name:Str
 Kind:Str
 Label:Int
def xr1 (x:xr9):List C:=[.str x.Name,.str x.Kind,.int .i64 x.Label]
theorem xsr {x:xr9}:xr1 x=[.str x.Name,.str x.Kind,.int .i64 x.Label]:=of_eq_true (eq_self _)
theorem Flat.xr9:Flat xr1:=fun m x=>by
 rw[xsr];simp[zed,C.lt,zq0]
attribute [go_sem] xsr
structure xrx where
 Op:Int
 N:Int
 Kind:Int
 Name:Str
 Args:List xrx
mutual
def xr3:xrx->List C
 |⟨Op,N,Kind,Name,Args⟩=>[.int .i64 Op,.int .i64 N,.int .i64 Kind,.str Name,.sl (zmj Args)]
def zmj:List xrx->List (List C)
 |[]=>[]
 |x::xs=>xr3 x::zmj xs
end
theorem zu9:∀(xs:List xrx),zmj xs=xs.map xr3
 |[]=>rfl
 |x::xs=>by rw[zmj,zu9 xs];rfl
theorem xss {x:xrx}:xr3 x=[.int .i64 x.Op,.int .i64 x.N,.int .i64 x.Kind,.str x.Name,.sl (x.Args.map xr3)]:=by
 cases x;simp only[xr3,zu9]
mutual
theorem Flat.xs4 (m:Nat):∀(x:xrx),zed m (xr3 x)=true
 |⟨Op,N,Kind,Name,Args⟩=>by
  rw[xr3];simp[zed,C.lt,Flat.xs5 m Args]
theorem Flat.xs5 (m:Nat):∀(xs:List xrx),zcg m (zmj xs)=true
 |[]=>rfl
 |x::xs=>by rw[zmj,zcg,Flat.xs4 m x,Flat.xs5 m xs];rfl
end
theorem Flat.xrx:Flat xr3:=fun m x=>Flat.xs4 m x
attribute [go_sem] xss
structure xry where
 Kind:Int
 Name:Str
 Target:xrx
 Value:xrx
 Args:List xrx
 Body:List xry
 Else:List xry
mutual
def xr6:xry->List C
 |⟨Kind,Name,Target,Value,Args,Body,Else⟩=>[.int .i64 Kind,.str Name,.int .i64 Target.Op,.int .i64 Target.N,.int .i64 Target.Kind,.str Target.Name,.sl (Target.Args.map xr3),.int .i64 Value.Op,.int .i64 Value.N,.int .i64 Value.Kind,.str Value.Name,.sl (Value.Args.map xr3),.sl (Args.map xr3),.sl (zk3 Body),.sl (zk3 Else)]
def zk3:List xry->List (List C)
 |[]=>[]
 |x::xs=>xr6 x::zk3 xs
end
theorem zu8:∀(xs:List xry),zk3 xs=xs.map xr6
 |[]=>rfl
 |x::xs=>by rw[zk3,zu8 xs];rfl
theorem xs6 {x:xry}:xr6 x=[.int .i64 x.Kind,.str x.Name,.int .i64 x.Target.Op,.int .i64 x.Target.N,.int .i64 x.Target.Kind,.str x.Target.Name,.sl (x.Target.Args.map xr3),.int .i64 x.Value.Op,.int .i64 x.Value.N,.int .i64 x.Value.Kind,.str x.Value.Name,.sl (x.Value.Args.map xr3),.sl (x.Args.map xr3),.sl (x.Body.map xr6),.sl (x.Else.map xr6)]:=by
 cases x;simp only[xr6,zu8]
mutual
theorem Flat.xs7 (m:Nat):∀(x:xry),zed m (xr6 x)=true
 |⟨Kind,Name,Target,Value,Args,Body,Else⟩=>by
  rw[xr6];simp[zed,C.lt,zal Flat.xrx,zal Flat.xrx,zal Flat.xrx,Flat.xst m Body,Flat.xst m Else]
theorem Flat.xst (m:Nat):∀(xs:List xry),zcg m (zk3 xs)=true
 |[]=>rfl
 |x::xs=>by rw[zk3,zcg,Flat.xs7 m x,Flat.xst m xs];rfl
end
theorem Flat.xry:Flat xr6:=fun m x=>Flat.xs7 m x
attribute [go_sem] xs6
structure xse where
 Every:Int
 Priority:Int
 Budget:List Int
 Body:List xry
def xr2 (x:xse):List C:=[.int .i64 x.Every,.int .i64 x.Priority,.sl (x.Budget.map eI),.sl (x.Body.map xr6)]
theorem xsu {x:xse}:xr2 x=[.int .i64 x.Every,.int .i64 x.Priority,.sl (x.Budget.map eI),.sl (x.Body.map xr6)]:=of_eq_true (eq_self _)
theorem Flat.xse:Flat xr2:=fun m x=>by
 rw[xsu];simp[zed,C.lt,zq0,zal (Flat.K .i64),zal Flat.xry]
attribute [go_sem] xsu
structure xrw where
 Lattice:xr4
 Sites:List xsb
 Vars:List xr7
 Blocks:List xr9
 Tasks:List xse
def xr5 (x:xrw):List C:=[.sl (x.Lattice.Names.map eS),.sl (x.Lattice.Below.map (eA2 eI)),.sl (x.Sites.map xrz),.sl (x.Vars.map xr0),.sl (x.Blocks.map xr1),.sl (x.Tasks.map xr2)]
theorem xsm {x:xrw}:xr5 x=[.sl (x.Lattice.Names.map eS),.sl (x.Lattice.Below.map (eA2 eI)),.sl (x.Sites.map xrz),.sl (x.Vars.map xr0),.sl (x.Blocks.map xr1),.sl (x.Tasks.map xr2)]:=of_eq_true (eq_self _)
theorem Flat.xrw:Flat xr5:=fun m x=>by
 rw[xsm];simp[zed,C.lt,zq0,zal Flat.S,zal (Flat.A2 (Flat.K .i64)),zal Flat.xsb,zal Flat.xr7,zal Flat.xr9,zal Flat.xse]
attribute [go_sem] xsm
structure xsg where
 Cells:List (List Int)
 Blocks:List (A4 Int)
def xsl (x:xsg):List C:=[.sl (x.Cells.map (eL eI)),.sl (x.Blocks.map (eA4 eI))]
theorem xsv {x:xsg}:xsl x=[.sl (x.Cells.map (eL eI)),.sl (x.Blocks.map (eA4 eI))]:=of_eq_true (eq_self _)
theorem Flat.xsg:Flat xsl:=fun m x=>by
 rw[xsv];simp[zed,C.lt,zq0,zal (Flat.L (Flat.K .i64)),zal (Flat.A4 (Flat.K .i64))]
attribute [go_sem] xsv
structure xsa where
 Site:Int
 Value:Int
def xr8 (x:xsa):List C:=[.int .i64 x.Site,.int .i64 x.Value]
theorem xsw {x:xsa}:xr8 x=[.int .i64 x.Site,.int .i64 x.Value]:=of_eq_true (eq_self _)
theorem Flat.xsa:Flat xr8:=fun m x=>by
 rw[xsw];simp[zed,C.lt,zq0]
attribute [go_sem] xsw
structure xsd where
 Memory:xsg
 Left:List Int
 Latches:List Int
 Events:List xsa
 Now:Int
def xsk (x:xsd):List C:=[.sl (x.Memory.Cells.map (eL eI)),.sl (x.Memory.Blocks.map (eA4 eI)),.sl (x.Left.map eI),.sl (x.Latches.map eI),.sl (x.Events.map xr8),.int .i64 x.Now]
theorem xsx {x:xsd}:xsk x=[.sl (x.Memory.Cells.map (eL eI)),.sl (x.Memory.Blocks.map (eA4 eI)),.sl (x.Left.map eI),.sl (x.Latches.map eI),.sl (x.Events.map xr8),.int .i64 x.Now]:=of_eq_true (eq_self _)
theorem Flat.xsd:Flat xsk:=fun m x=>by
 rw[xsx];simp[zed,C.lt,zq0,zal (Flat.L (Flat.K .i64)),zal (Flat.A4 (Flat.K .i64)),zal (Flat.K .i64),zal (Flat.K .i64),zal Flat.xsa]
attribute [go_sem] xsx
structure blocks_kind where
 in_:List Int
 out:List Int
 step:Option Nat
def zns (x:blocks_kind):List C:=[.sl (x.in_.map eI),.sl (x.out.map eI),eF x.step]
theorem zmk {x:blocks_kind}:zns x=[.sl (x.in_.map eI),.sl (x.out.map eI),eF x.step]:=of_eq_true (eq_self _)
theorem Flat.blocks_kind:Flat zns:=fun m x=>by
 rw[zmk];simp[zed,C.lt,zq0,zal (Flat.K .i64),zal (Flat.K .i64)]
attribute [go_sem] zmk
structure typing_value where
 kind:Int
def zpj (x:typing_value):List C:=[.int .i64 x.kind]
theorem zl0 {x:typing_value}:zpj x=[.int .i64 x.kind]:=of_eq_true (eq_self _)
theorem Flat.typing_value:Flat zpj:=fun m x=>by
 rw[zl0];simp[zed,C.lt,zq0]
attribute [go_sem] zl0
structure typing_scalar where
 v:xr7
def zob (x:typing_scalar):List C:=[.str x.v.Name,.int .i64 x.v.Type_.Kind,.int .i64 x.v.Type_.Low,.int .i64 x.v.Type_.Len,.int .i64 x.v.Mode,.int .i64 x.v.Label,.int .i64 x.v.Safe]
theorem zk4 {x:typing_scalar}:zob x=[.str x.v.Name,.int .i64 x.v.Type_.Kind,.int .i64 x.v.Type_.Low,.int .i64 x.v.Type_.Len,.int .i64 x.v.Mode,.int .i64 x.v.Label,.int .i64 x.v.Safe]:=of_eq_true (eq_self _)
theorem Flat.typing_scalar:Flat zob:=fun m x=>by
 rw[zk4];simp[zed,C.lt,zq0]
attribute [go_sem] zk4
structure typing_array where
 v:xr7
def zpk (x:typing_array):List C:=[.str x.v.Name,.int .i64 x.v.Type_.Kind,.int .i64 x.v.Type_.Low,.int .i64 x.v.Type_.Len,.int .i64 x.v.Mode,.int .i64 x.v.Label,.int .i64 x.v.Safe]
theorem zl1 {x:typing_array}:zpk x=[.str x.v.Name,.int .i64 x.v.Type_.Kind,.int .i64 x.v.Type_.Low,.int .i64 x.v.Type_.Len,.int .i64 x.v.Mode,.int .i64 x.v.Label,.int .i64 x.v.Safe]:=of_eq_true (eq_self _)
theorem Flat.typing_array:Flat zpk:=fun m x=>by
 rw[zl1];simp[zed,C.lt,zq0]
attribute [go_sem] zl1
structure typing_output where
 b:xr9
 n:Int
def zod (x:typing_output):List C:=[.str x.b.Name,.str x.b.Kind,.int .i64 x.b.Label,.int .i64 x.n]
theorem zk6 {x:typing_output}:zod x=[.str x.b.Name,.str x.b.Kind,.int .i64 x.b.Label,.int .i64 x.n]:=of_eq_true (eq_self _)
theorem Flat.typing_output:Flat zod:=fun m x=>by
 rw[zk6];simp[zed,C.lt,zq0]
attribute [go_sem] zk6
structure typing_release where
 ok:Bool
def zne (x:typing_release):List C:=[.bool x.ok]
theorem zkq {x:typing_release}:zne x=[.bool x.ok]:=of_eq_true (eq_self _)
theorem Flat.typing_release:Flat zne:=fun m x=>by
 rw[zkq];simp[zed,C.lt,zq0]
attribute [go_sem] zkq
structure typing_result where
 op:Int
def zoc (x:typing_result):List C:=[.int .i64 x.op]
theorem zk5 {x:typing_result}:zoc x=[.int .i64 x.op]:=of_eq_true (eq_self _)
theorem Flat.typing_result:Flat zoc:=fun m x=>by
 rw[zk5];simp[zed,C.lt,zq0]
attribute [go_sem] zk5
structure flow_desk where
 p:xrw
def zao (x:flow_desk):List C:=[.sl (x.p.Lattice.Names.map eS),.sl (x.p.Lattice.Below.map (eA2 eI)),.sl (x.p.Sites.map xrz),.sl (x.p.Vars.map xr0),.sl (x.p.Blocks.map xr1),.sl (x.p.Tasks.map xr2)]
theorem zoe {x:flow_desk}:zao x=[.sl (x.p.Lattice.Names.map eS),.sl (x.p.Lattice.Below.map (eA2 eI)),.sl (x.p.Sites.map xrz),.sl (x.p.Vars.map xr0),.sl (x.p.Blocks.map xr1),.sl (x.p.Tasks.map xr2)]:=of_eq_true (eq_self _)
theorem Flat.flow_desk:Flat zao:=fun m x=>by
 rw[zoe];simp[zed,C.lt,zq0,zal Flat.S,zal (Flat.A2 (Flat.K .i64)),zal Flat.xsb,zal Flat.xr7,zal Flat.xr9,zal Flat.xse]
attribute [go_sem] zoe
theorem Plain.A2 {α:Type} {f:α->List C} (h:Plain f):Plain (eA2 f):=fun H k x=>by
 rw[z4u];simp[h H k]
theorem Plain.A3 {α:Type} {f:α->List C} (h:Plain f):Plain (eA3 f):=fun H k x=>by
 rw[z4t];simp[h H k]
theorem Plain.A4 {α:Type} {f:α->List C} (h:Plain f):Plain (eA4 f):=fun H k x=>by
 rw[z4s];simp[h H k]
theorem Plain.xr4:Plain xsf:=fun H k x=>by rw[xsn];simp[zki,zhw,zkh,zol,zox]
theorem Plain.xsb:Plain xrz:=fun H k x=>by rw[xso];simp[zki,zhw,zkh,zol,zox]
theorem Plain.xsc:Plain xsi:=fun H k x=>by rw[xsp];simp[zki,zhw,zkh,zol,zox]
theorem Plain.xr7:Plain xr0:=fun H k x=>by rw[xsq];simp[zki,zhw,zkh,zol,zox]
theorem Plain.xr9:Plain xr1:=fun H k x=>by rw[xsr];simp[zki,zhw,zkh,zol,zox]
theorem Plain.xrx:Plain xr3:=fun H k x=>by rw[xss];simp[zki,zhw,zkh,zol,zox]
theorem Plain.xry:Plain xr6:=fun H k x=>by rw[xs6];simp[zki,zhw,zkh,zol,zox]
theorem Plain.xse:Plain xr2:=fun H k x=>by rw[xsu];simp[zki,zhw,zkh,zol,zox]
theorem Plain.xrw:Plain xr5:=fun H k x=>by rw[xsm];simp[zki,zhw,zkh,zol,zox]
theorem Plain.xsg:Plain xsl:=fun H k x=>by rw[xsv];simp[zki,zhw,zkh,zol,zox]
theorem Plain.xsa:Plain xr8:=fun H k x=>by rw[xsw];simp[zki,zhw,zkh,zol,zox]
theorem Plain.xsd:Plain xsk:=fun H k x=>by rw[xsx];simp[zki,zhw,zkh,zol,zox]
theorem Plain.blocks_kind:Plain zns:=fun H k x=>by rw[zmk];simp[zki,zhw,zkh,zol,zox]
theorem Plain.typing_value:Plain zpj:=fun H k x=>by rw[zl0];simp[zki,zhw,zkh,zol,zox]
theorem Plain.typing_scalar:Plain zob:=fun H k x=>by rw[zk4];simp[zki,zhw,zkh,zol,zox]
theorem Plain.typing_array:Plain zpk:=fun H k x=>by rw[zl1];simp[zki,zhw,zkh,zol,zox]
theorem Plain.typing_output:Plain zod:=fun H k x=>by rw[zk6];simp[zki,zhw,zkh,zol,zox]
theorem Plain.typing_release:Plain zne:=fun H k x=>by rw[zkq];simp[zki,zhw,zkh,zol,zox]
theorem Plain.typing_result:Plain zoc:=fun H k x=>by rw[zk5];simp[zki,zhw,zkh,zol,zox]
theorem Plain.flow_desk:Plain zao:=fun H k x=>by rw[zoe];simp[zki,zhw,zkh,zol,zox]
theorem lr9 {m:Nat} {xs:List Str}:zcg m (xs.map eS)=true:=zal Flat.S m xs
theorem vw9 {H:List O} {k:Nat} {xs:List Str}:zbq H k (xs.map eS)=xs.map eS:=zb1 Plain.S H k xs
theorem rn9 {g:Nat->Nat} {xs:List Str}:za8 g (xs.map eS)=xs.map eS:=zv0 Flat.S
theorem rf9 {p:Nat->Bool} {xs:List Str}:zax p (xs.map eS)=true:=zv1 Flat.S
theorem yp3 {m:Nat} {xs:List (A2 Int)}:zcg m (xs.map (eA2 eI))=true:=zal (Flat.A2 (Flat.K .i64)) m xs
theorem yno {H:List O} {k:Nat} {xs:List (A2 Int)}:zbq H k (xs.map (eA2 eI))=xs.map (eA2 eI):=zb1 (Plain.A2 (Plain.K .i64)) H k xs
theorem yo4 {g:Nat->Nat} {xs:List (A2 Int)}:za8 g (xs.map (eA2 eI))=xs.map (eA2 eI):=zv0 (Flat.A2 (Flat.K .i64))
theorem yo7 {p:Nat->Bool} {xs:List (A2 Int)}:zax p (xs.map (eA2 eI))=true:=zv1 (Flat.A2 (Flat.K .i64))
theorem yp1 {m:Nat} {xs:List xsb}:zcg m (xs.map xrz)=true:=zal Flat.xsb m xs
theorem ynm {H:List O} {k:Nat} {xs:List xsb}:zbq H k (xs.map xrz)=xs.map xrz:=zb1 Plain.xsb H k xs
theorem yo2 {g:Nat->Nat} {xs:List xsb}:za8 g (xs.map xrz)=xs.map xrz:=zv0 Flat.xsb
theorem yo5 {p:Nat->Bool} {xs:List xsb}:zax p (xs.map xrz)=true:=zv1 Flat.xsb
theorem lr66 {m:Nat} {xs:List xr7}:zcg m (xs.map xr0)=true:=zal Flat.xr7 m xs
theorem vw66 {H:List O} {k:Nat} {xs:List xr7}:zbq H k (xs.map xr0)=xs.map xr0:=zb1 Plain.xr7 H k xs
theorem rn66 {g:Nat->Nat} {xs:List xr7}:za8 g (xs.map xr0)=xs.map xr0:=zv0 Flat.xr7
theorem rf66 {p:Nat->Bool} {xs:List xr7}:zax p (xs.map xr0)=true:=zv1 Flat.xr7
theorem lr69 {m:Nat} {xs:List xr9}:zcg m (xs.map xr1)=true:=zal Flat.xr9 m xs
theorem vw69 {H:List O} {k:Nat} {xs:List xr9}:zbq H k (xs.map xr1)=xs.map xr1:=zb1 Plain.xr9 H k xs
theorem rn69 {g:Nat->Nat} {xs:List xr9}:za8 g (xs.map xr1)=xs.map xr1:=zv0 Flat.xr9
theorem rf69 {p:Nat->Bool} {xs:List xr9}:zax p (xs.map xr1)=true:=zv1 Flat.xr9
theorem lr78 {m:Nat} {xs:List xse}:zcg m (xs.map xr2)=true:=zal Flat.xse m xs
theorem vw78 {H:List O} {k:Nat} {xs:List xse}:zbq H k (xs.map xr2)=xs.map xr2:=zb1 Plain.xse H k xs
theorem rn78 {g:Nat->Nat} {xs:List xse}:za8 g (xs.map xr2)=xs.map xr2:=zv0 Flat.xse
theorem rf78 {p:Nat->Bool} {xs:List xse}:zax p (xs.map xr2)=true:=zv1 Flat.xse
theorem lr36 {m:Nat} {xs:List (List Int)}:zcg m (xs.map (eL eI))=true:=zal (Flat.L (Flat.K .i64)) m xs
theorem vw36 {H:List O} {k:Nat} {xs:List (List Int)}:zbq H k (xs.map (eL eI))=xs.map (eL eI):=zb1 (Plain.L eI) H k xs
theorem rn36 {g:Nat->Nat} {xs:List (List Int)}:za8 g (xs.map (eL eI))=xs.map (eL eI):=zv0 (Flat.L (Flat.K .i64))
theorem rf36 {p:Nat->Bool} {xs:List (List Int)}:zax p (xs.map (eL eI))=true:=zv1 (Flat.L (Flat.K .i64))
theorem lr71 {m:Nat} {xs:List (A4 Int)}:zcg m (xs.map (eA4 eI))=true:=zal (Flat.A4 (Flat.K .i64)) m xs
theorem vw71 {H:List O} {k:Nat} {xs:List (A4 Int)}:zbq H k (xs.map (eA4 eI))=xs.map (eA4 eI):=zb1 (Plain.A4 (Plain.K .i64)) H k xs
theorem rn71 {g:Nat->Nat} {xs:List (A4 Int)}:za8 g (xs.map (eA4 eI))=xs.map (eA4 eI):=zv0 (Flat.A4 (Flat.K .i64))
theorem rf71 {p:Nat->Bool} {xs:List (A4 Int)}:zax p (xs.map (eA4 eI))=true:=zv1 (Flat.A4 (Flat.K .i64))
theorem lr3 {m:Nat} {xs:List Int}:zcg m (xs.map eI)=true:=zal (Flat.K .i64) m xs
theorem vw3 {H:List O} {k:Nat} {xs:List Int}:zbq H k (xs.map eI)=xs.map eI:=zb1 (Plain.K .i64) H k xs
theorem rn3 {g:Nat->Nat} {xs:List Int}:za8 g (xs.map eI)=xs.map eI:=zv0 (Flat.K .i64)
theorem rf3 {p:Nat->Bool} {xs:List Int}:zax p (xs.map eI)=true:=zv1 (Flat.K .i64)
theorem yp2 {m:Nat} {xs:List xsa}:zcg m (xs.map xr8)=true:=zal Flat.xsa m xs
theorem ynn {H:List O} {k:Nat} {xs:List xsa}:zbq H k (xs.map xr8)=xs.map xr8:=zb1 Plain.xsa H k xs
theorem yo3 {g:Nat->Nat} {xs:List xsa}:za8 g (xs.map xr8)=xs.map xr8:=zv0 Flat.xsa
theorem yo6 {p:Nat->Bool} {xs:List xsa}:zax p (xs.map xr8)=true:=zv1 Flat.xsa
theorem lr42 {m:Nat} {xs:List xrx}:zcg m (xs.map xr3)=true:=zal Flat.xrx m xs
theorem vw42 {H:List O} {k:Nat} {xs:List xrx}:zbq H k (xs.map xr3)=xs.map xr3:=zb1 Plain.xrx H k xs
theorem rn42 {g:Nat->Nat} {xs:List xrx}:za8 g (xs.map xr3)=xs.map xr3:=zv0 Flat.xrx
theorem rf42 {p:Nat->Bool} {xs:List xrx}:zax p (xs.map xr3)=true:=zv1 Flat.xrx
theorem lr76 {m:Nat} {xs:List xry}:zcg m (xs.map xr6)=true:=zal Flat.xry m xs
theorem vw76 {H:List O} {k:Nat} {xs:List xry}:zbq H k (xs.map xr6)=xs.map xr6:=zb1 Plain.xry H k xs
theorem rn76 {g:Nat->Nat} {xs:List xry}:za8 g (xs.map xr6)=xs.map xr6:=zv0 Flat.xry
theorem rf76 {p:Nat->Bool} {xs:List xry}:zax p (xs.map xr6)=true:=zv1 Flat.xry
theorem lr4 {m:Nat} {xs:List Bool}:zcg m (xs.map eB)=true:=zal Flat.B m xs
theorem vw4 {H:List O} {k:Nat} {xs:List Bool}:zbq H k (xs.map eB)=xs.map eB:=zb1 Plain.B H k xs
theorem rn4 {g:Nat->Nat} {xs:List Bool}:za8 g (xs.map eB)=xs.map eB:=zv0 Flat.B
theorem rf4 {p:Nat->Bool} {xs:List Bool}:zax p (xs.map eB)=true:=zv1 Flat.B
theorem lr5 {m:Nat} {xs:List Int}:zcg m (xs.map (eK .u8))=true:=zal (Flat.K .u8) m xs
theorem vw5 {H:List O} {k:Nat} {xs:List Int}:zbq H k (xs.map (eK .u8))=xs.map (eK .u8):=zb1 (Plain.K .u8) H k xs
theorem rn5 {g:Nat->Nat} {xs:List Int}:za8 g (xs.map (eK .u8))=xs.map (eK .u8):=zv0 (Flat.K .u8)
theorem rf5 {p:Nat->Bool} {xs:List Int}:zax p (xs.map (eK .u8))=true:=zv1 (Flat.K .u8)
theorem yqw:eqT Tryz.prog 66=true:=by kernel_rfl
theorem yp6 {a0:Str} {a1:Int} {a2:Int} {a3:Int} {I:Int} {U:Int} {a6:Int}:litC Tryz.prog 20 66 [.str a0,.int .i64 a1,.int .i64 a2,.int .i64 a3,.int .i64 I,.int .i64 U,.int .i64 a6]=some [.s a0,.i .i64 a1,.i .i64 a2,.i .i64 a3,.i .i64 I,.i .i64 U,.i .i64 a6]:=by kernel_rfl
theorem yqv:eqT Tryz.prog 69=true:=by kernel_rfl
theorem yp5 {a0:Str} {a1:Str} {a2:Int}:litC Tryz.prog 20 69 [.str a0,.str a1,.int .i64 a2]=some [.s a0,.s a1,.i .i64 a2]:=by kernel_rfl
theorem yqu:eqT Tryz.prog 71=true:=by kernel_rfl
theorem yp4 {a0:Int} {a1:Int} {a2:Int} {a3:Int}:litC Tryz.prog 20 71 [.int .i64 a0,.int .i64 a1,.int .i64 a2,.int .i64 a3]=some [.i .i64 a0,.i .i64 a1,.i .i64 a2,.i .i64 a3]:=by kernel_rfl
theorem ymu:eqT Tryz.prog 103=true:=by kernel_rfl
theorem ykz {a0:Int} {a1:Int}:litC Tryz.prog 20 103 [.int .i64 a0,.int .i64 a1]=some [.i .i64 a0,.i .i64 a1]:=by kernel_rfl
theorem ymt:eqT Tryz.prog 111=true:=by kernel_rfl
theorem yky {a0:Int} {a1:Int}:litC Tryz.prog 20 111 [.int .i64 a0,.int .i64 a1]=some [.i .i64 a0,.i .i64 a1]:=by kernel_rfl
theorem yms:eqT Tryz.prog 129=true:=by kernel_rfl
theorem ykx {a0:Str} {a1:Int} {a2:Int}:litC Tryz.prog 20 129 [.str a0,.int .i64 a1,.int .i64 a2]=some [.s a0,.i .i64 a1,.i .i64 a2]:=by kernel_rfl
theorem ag3:tAg Tryz.prog 3=some (false,1):=by kernel_rfl
theorem tk3:tK Tryz.prog 3=some .i64:=by kernel_rfl
theorem z3:tZ Tryz.prog 3=some (.one (.int .i64 0)):=by kernel_rfl
theorem un3:(Tryz.prog.underlying 3).isSome=true:=by kernel_rfl
theorem ag4:tAg Tryz.prog 4=some (false,1):=by kernel_rfl
theorem tb4:z0z Tryz.prog 4=true:=by kernel_rfl
theorem z4:tZ Tryz.prog 4=some (.one (.bool false)):=by kernel_rfl
theorem ag5:tAg Tryz.prog 5=some (false,1):=by kernel_rfl
theorem tk5:tK Tryz.prog 5=some .u8:=by kernel_rfl
theorem z5:tZ Tryz.prog 5=some (.one (.int .u8 0)):=by kernel_rfl
theorem un5:(Tryz.prog.underlying 5).isSome=true:=by kernel_rfl
theorem ud5:Tryz.prog.underlying 5=some (.int .u8):=by kernel_rfl
theorem ag9:tAg Tryz.prog 9=some (false,1):=by kernel_rfl
theorem ts9:zxp Tryz.prog 9=true:=by kernel_rfl
theorem z9:tZ Tryz.prog 9=some (.one (.str [])):=by kernel_rfl
theorem ud9:Tryz.prog.underlying 9=some .string:=by kernel_rfl
theorem ag20:tAg Tryz.prog 20=some (false,1):=by kernel_rfl
theorem ag22:tAg Tryz.prog 22=some (false,1):=by kernel_rfl
theorem sl22:tSl Tryz.prog 22=some (9,1,16):=by kernel_rfl
theorem ar22:tAr Tryz.prog 22=none:=by kernel_rfl
theorem z22:tZ Tryz.prog 22=some (.one (.slf [])):=by kernel_rfl
theorem ag23:tAg Tryz.prog 23=some (false,1):=by kernel_rfl
theorem sl23:tSl Tryz.prog 23=some (103,2,16):=by kernel_rfl
theorem ar23:tAr Tryz.prog 23=none:=by kernel_rfl
theorem z23:tZ Tryz.prog 23=some (.one (.slf [])):=by kernel_rfl
theorem ag25:tAg Tryz.prog 25=some (true,2):=by kernel_rfl
theorem pl25:tPl Tryz.prog 25=some (fun k=>[(0,1),(1,1)][k]?):=by kernel_rfl
theorem ymp:tFd Tryz.prog 25 0=some (0,false,1):=by kernel_rfl
theorem ymo:tFd Tryz.prog 25 1=some (1,false,1):=by kernel_rfl
theorem z25:tZ Tryz.prog 25=some (.agg [.slf [],.slf []]):=by kernel_rfl
theorem ag26:tAg Tryz.prog 26=some (false,1):=by kernel_rfl
theorem sl26:tSl Tryz.prog 26=some (129,3,32):=by kernel_rfl
theorem ar26:tAr Tryz.prog 26=none:=by kernel_rfl
theorem z26:tZ Tryz.prog 26=some (.one (.slf [])):=by kernel_rfl
theorem ag27:tAg Tryz.prog 27=some (false,1):=by kernel_rfl
theorem sl27:tSl Tryz.prog 27=some (66,7,64):=by kernel_rfl
theorem ar27:tAr Tryz.prog 27=none:=by kernel_rfl
theorem z27:tZ Tryz.prog 27=some (.one (.slf [])):=by kernel_rfl
theorem ag28:tAg Tryz.prog 28=some (false,1):=by kernel_rfl
theorem sl28:tSl Tryz.prog 28=some (69,3,40):=by kernel_rfl
theorem ar28:tAr Tryz.prog 28=none:=by kernel_rfl
theorem z28:tZ Tryz.prog 28=some (.one (.slf [])):=by kernel_rfl
theorem ag29:tAg Tryz.prog 29=some (false,1):=by kernel_rfl
theorem sl29:tSl Tryz.prog 29=some (78,4,64):=by kernel_rfl
theorem ar29:tAr Tryz.prog 29=none:=by kernel_rfl
theorem z29:tZ Tryz.prog 29=some (.one (.slf [])):=by kernel_rfl
theorem ag31:tAg Tryz.prog 31=some (true,6):=by kernel_rfl
theorem pl31:tPl Tryz.prog 31=some (fun k=>[(0,2),(2,1),(3,1),(4,1),(5,1)][k]?):=by kernel_rfl
theorem ymn:tFd Tryz.prog 31 0=some (0,true,2):=by kernel_rfl
theorem ymm:tFd Tryz.prog 31 1=some (2,false,1):=by kernel_rfl
theorem yml:tFd Tryz.prog 31 2=some (3,false,1):=by kernel_rfl
theorem ymk:tFd Tryz.prog 31 3=some (4,false,1):=by kernel_rfl
theorem ymj:tFd Tryz.prog 31 4=some (5,false,1):=by kernel_rfl
theorem z31:tZ Tryz.prog 31=some (.agg [.slf [],.slf [],.slf [],.slf [],.slf [],.slf []]):=by kernel_rfl
theorem ag32:tAg Tryz.prog 32=some (false,1):=by kernel_rfl
theorem sl32:tSl Tryz.prog 32=some (36,1,24):=by kernel_rfl
theorem ar32:tAr Tryz.prog 32=none:=by kernel_rfl
theorem z32:tZ Tryz.prog 32=some (.one (.slf [])):=by kernel_rfl
theorem ag33:tAg Tryz.prog 33=some (false,1):=by kernel_rfl
theorem sl33:tSl Tryz.prog 33=some (71,4,32):=by kernel_rfl
theorem ar33:tAr Tryz.prog 33=none:=by kernel_rfl
theorem z33:tZ Tryz.prog 33=some (.one (.slf [])):=by kernel_rfl
theorem ag35:tAg Tryz.prog 35=some (true,2):=by kernel_rfl
theorem pl35:tPl Tryz.prog 35=some (fun k=>[(0,1),(1,1)][k]?):=by kernel_rfl
theorem ymi:tFd Tryz.prog 35 0=some (0,false,1):=by kernel_rfl
theorem ymh:tFd Tryz.prog 35 1=some (1,false,1):=by kernel_rfl
theorem z35:tZ Tryz.prog 35=some (.agg [.slf [],.slf []]):=by kernel_rfl
theorem ag36:tAg Tryz.prog 36=some (false,1):=by kernel_rfl
theorem sl36:tSl Tryz.prog 36=some (3,1,8):=by kernel_rfl
theorem ar36:tAr Tryz.prog 36=none:=by kernel_rfl
theorem z36:tZ Tryz.prog 36=some (.one (.slf [])):=by kernel_rfl
theorem ag37:tAg Tryz.prog 37=some (false,1):=by kernel_rfl
theorem sl37:tSl Tryz.prog 37=some (111,2,16):=by kernel_rfl
theorem ar37:tAr Tryz.prog 37=none:=by kernel_rfl
theorem z37:tZ Tryz.prog 37=some (.one (.slf [])):=by kernel_rfl
theorem ag39:tAg Tryz.prog 39=some (true,6):=by kernel_rfl
theorem pl39:tPl Tryz.prog 39=some (fun k=>[(0,2),(2,1),(3,1),(4,1),(5,1)][k]?):=by kernel_rfl
theorem ymg:tFd Tryz.prog 39 0=some (0,true,2):=by kernel_rfl
theorem ymf:tFd Tryz.prog 39 1=some (2,false,1):=by kernel_rfl
theorem yme:tFd Tryz.prog 39 2=some (3,false,1):=by kernel_rfl
theorem ymd:tFd Tryz.prog 39 3=some (4,false,1):=by kernel_rfl
theorem ymc:tFd Tryz.prog 39 4=some (5,false,1):=by kernel_rfl
theorem z39:tZ Tryz.prog 39=some (.agg [.slf [],.slf [],.slf [],.slf [],.slf [],.int .i64 0]):=by kernel_rfl
theorem ag40:tAg Tryz.prog 40=some (false,1):=by kernel_rfl
theorem sl40:tSl Tryz.prog 40=some (42,5,64):=by kernel_rfl
theorem ar40:tAr Tryz.prog 40=none:=by kernel_rfl
theorem z40:tZ Tryz.prog 40=some (.one (.slf [])):=by kernel_rfl
theorem ag42:tAg Tryz.prog 42=some (true,5):=by kernel_rfl
theorem pl42:tPl Tryz.prog 42=some (fun k=>[(0,1),(1,1),(2,1),(3,1),(4,1)][k]?):=by kernel_rfl
theorem ymb:tFd Tryz.prog 42 0=some (0,false,1):=by kernel_rfl
theorem yma:tFd Tryz.prog 42 1=some (1,false,1):=by kernel_rfl
theorem yl9:tFd Tryz.prog 42 2=some (2,false,1):=by kernel_rfl
theorem yl8:tFd Tryz.prog 42 3=some (3,false,1):=by kernel_rfl
theorem yl7:tFd Tryz.prog 42 4=some (4,false,1):=by kernel_rfl
theorem z42:tZ Tryz.prog 42=some (.agg [.int .i64 0,.int .i64 0,.int .i64 0,.str [],.slf []]):=by kernel_rfl
theorem ag54:tAg Tryz.prog 54=some (false,1):=by kernel_rfl
theorem z54:tZ Tryz.prog 54=some (.one (.nilfn)):=by kernel_rfl
theorem ag58:tAg Tryz.prog 58=some (true,12):=by kernel_rfl
theorem pl58:tPl Tryz.prog 58=some (fun k=>some (k*6,6)):=by kernel_rfl
theorem ar58:tAr Tryz.prog 58=some (2,39,6):=by kernel_rfl
theorem z58:tZ Tryz.prog 58=some (.agg [.slf [],.slf [],.slf [],.slf [],.slf [],.int .i64 0,.slf [],.slf [],.slf [],.slf [],.slf [],.int .i64 0]):=by kernel_rfl
theorem ag64:tAg Tryz.prog 64=some (true,3):=by kernel_rfl
theorem pl64:tPl Tryz.prog 64=some (fun k=>[(0,1),(1,1),(2,1)][k]?):=by kernel_rfl
theorem yl6:tFd Tryz.prog 64 0=some (0,false,1):=by kernel_rfl
theorem yl5:tFd Tryz.prog 64 1=some (1,false,1):=by kernel_rfl
theorem yl4:tFd Tryz.prog 64 2=some (2,false,1):=by kernel_rfl
theorem z64:tZ Tryz.prog 64=some (.agg [.int .i64 0,.int .i64 0,.int .i64 0]):=by kernel_rfl
theorem ag66:tAg Tryz.prog 66=some (true,7):=by kernel_rfl
theorem pl66:tPl Tryz.prog 66=some (fun k=>[(0,1),(1,3),(4,1),(5,1),(6,1)][k]?):=by kernel_rfl
theorem yl3:tFd Tryz.prog 66 0=some (0,false,1):=by kernel_rfl
theorem yl2:tFd Tryz.prog 66 1=some (1,true,3):=by kernel_rfl
theorem yl1:tFd Tryz.prog 66 2=some (4,false,1):=by kernel_rfl
theorem yl0:tFd Tryz.prog 66 3=some (5,false,1):=by kernel_rfl
theorem ylz:tFd Tryz.prog 66 4=some (6,false,1):=by kernel_rfl
theorem z66:tZ Tryz.prog 66=some (.agg [.str [],.int .i64 0,.int .i64 0,.int .i64 0,.int .i64 0,.int .i64 0,.int .i64 0]):=by kernel_rfl
theorem ag69:tAg Tryz.prog 69=some (true,3):=by kernel_rfl
theorem pl69:tPl Tryz.prog 69=some (fun k=>[(0,1),(1,1),(2,1)][k]?):=by kernel_rfl
theorem yly:tFd Tryz.prog 69 0=some (0,false,1):=by kernel_rfl
theorem ylx:tFd Tryz.prog 69 1=some (1,false,1):=by kernel_rfl
theorem ylw:tFd Tryz.prog 69 2=some (2,false,1):=by kernel_rfl
theorem z69:tZ Tryz.prog 69=some (.agg [.str [],.str [],.int .i64 0]):=by kernel_rfl
theorem ag71:tAg Tryz.prog 71=some (true,4):=by kernel_rfl
theorem pl71:tPl Tryz.prog 71=some (fun k=>some (k*1,1)):=by kernel_rfl
theorem ar71:tAr Tryz.prog 71=some (4,3,1):=by kernel_rfl
theorem z71:tZ Tryz.prog 71=some (.agg [.int .i64 0,.int .i64 0,.int .i64 0,.int .i64 0]):=by kernel_rfl
theorem ag74:tAg Tryz.prog 74=some (false,1):=by kernel_rfl
theorem sl74:tSl Tryz.prog 74=some (76,15,224):=by kernel_rfl
theorem ar74:tAr Tryz.prog 74=none:=by kernel_rfl
theorem z74:tZ Tryz.prog 74=some (.one (.slf [])):=by kernel_rfl
theorem ag76:tAg Tryz.prog 76=some (true,15):=by kernel_rfl
theorem pl76:tPl Tryz.prog 76=some (fun k=>[(0,1),(1,1),(2,5),(7,5),(12,1),(13,1),(14,1)][k]?):=by kernel_rfl
theorem ylv:tFd Tryz.prog 76 0=some (0,false,1):=by kernel_rfl
theorem ylu:tFd Tryz.prog 76 1=some (1,false,1):=by kernel_rfl
theorem ylt:tFd Tryz.prog 76 2=some (2,true,5):=by kernel_rfl
theorem yls:tFd Tryz.prog 76 3=some (7,true,5):=by kernel_rfl
theorem ylr:tFd Tryz.prog 76 4=some (12,false,1):=by kernel_rfl
theorem ylq:tFd Tryz.prog 76 5=some (13,false,1):=by kernel_rfl
theorem ylp:tFd Tryz.prog 76 6=some (14,false,1):=by kernel_rfl
theorem z76:tZ Tryz.prog 76=some (.agg [.int .i64 0,.str [],.int .i64 0,.int .i64 0,.int .i64 0,.str [],.slf [],.int .i64 0,.int .i64 0,.int .i64 0,.str [],.slf [],.slf [],.slf [],.slf []]):=by kernel_rfl
theorem ag78:tAg Tryz.prog 78=some (true,4):=by kernel_rfl
theorem pl78:tPl Tryz.prog 78=some (fun k=>[(0,1),(1,1),(2,1),(3,1)][k]?):=by kernel_rfl
theorem ylo:tFd Tryz.prog 78 0=some (0,false,1):=by kernel_rfl
theorem yln:tFd Tryz.prog 78 1=some (1,false,1):=by kernel_rfl
theorem ylm:tFd Tryz.prog 78 2=some (2,false,1):=by kernel_rfl
theorem yll:tFd Tryz.prog 78 3=some (3,false,1):=by kernel_rfl
theorem z78:tZ Tryz.prog 78=some (.agg [.int .i64 0,.int .i64 0,.slf [],.slf []]):=by kernel_rfl
theorem ag84:tAg Tryz.prog 84=some (false,1):=by kernel_rfl
theorem z84:tZ Tryz.prog 84=some (.one (.nilp)):=by kernel_rfl
theorem ag86:tAg Tryz.prog 86=some (false,1):=by kernel_rfl
theorem z86:tZ Tryz.prog 86=some (.one (.nilp)):=by kernel_rfl
theorem yru:tAg Tryz.prog 102=some (false,1):=by kernel_rfl
theorem yor:tSl Tryz.prog 102=some (4,1,1):=by kernel_rfl
theorem yq4:tAr Tryz.prog 102=none:=by kernel_rfl
theorem z102:tZ Tryz.prog 102=some (.one (.slf [])):=by kernel_rfl
theorem yrt:tAg Tryz.prog 103=some (true,2):=by kernel_rfl
theorem ypu:tPl Tryz.prog 103=some (fun k=>some (k*1,1)):=by kernel_rfl
theorem yq3:tAr Tryz.prog 103=some (2,3,1):=by kernel_rfl
theorem z103:tZ Tryz.prog 103=some (.agg [.int .i64 0,.int .i64 0]):=by kernel_rfl
theorem yrs:tAg Tryz.prog 111=some (true,2):=by kernel_rfl
theorem ypt:tPl Tryz.prog 111=some (fun k=>[(0,1),(1,1)][k]?):=by kernel_rfl
theorem yh8:tFd Tryz.prog 111 0=some (0,false,1):=by kernel_rfl
theorem yh7:tFd Tryz.prog 111 1=some (1,false,1):=by kernel_rfl
theorem z111:tZ Tryz.prog 111=some (.agg [.int .i64 0,.int .i64 0]):=by kernel_rfl
theorem yrr:tAg Tryz.prog 113=some (true,8):=by kernel_rfl
theorem yps:tPl Tryz.prog 113=some (fun k=>[(0,1),(1,6),(7,1)][k]?):=by kernel_rfl
theorem yh6:tFd Tryz.prog 113 0=some (0,false,1):=by kernel_rfl
theorem yh5:tFd Tryz.prog 113 1=some (1,true,6):=by kernel_rfl
theorem yh4:tFd Tryz.prog 113 2=some (7,false,1):=by kernel_rfl
theorem z113:tZ Tryz.prog 113=some (.agg [.nilp,.slf [],.slf [],.slf [],.slf [],.slf [],.slf [],.slf []]):=by kernel_rfl
theorem yrq:tAg Tryz.prog 129=some (true,3):=by kernel_rfl
theorem ypr:tPl Tryz.prog 129=some (fun k=>[(0,1),(1,1),(2,1)][k]?):=by kernel_rfl
theorem yh3:tFd Tryz.prog 129 0=some (0,false,1):=by kernel_rfl
theorem yh2:tFd Tryz.prog 129 1=some (1,false,1):=by kernel_rfl
theorem yh1:tFd Tryz.prog 129 2=some (2,false,1):=by kernel_rfl
theorem z129:tZ Tryz.prog 129=some (.agg [.str [],.int .i64 0,.int .i64 0]):=by kernel_rfl
theorem yrp:tAg Tryz.prog 135=some (false,1):=by kernel_rfl
theorem z135:tZ Tryz.prog 135=some (.one (.nilfn)):=by kernel_rfl
theorem yro:tAg Tryz.prog 138=some (false,1):=by kernel_rfl
theorem z138:tZ Tryz.prog 138=some (.one (.nilfn)):=by kernel_rfl
theorem yrn:tAg Tryz.prog 139=some (false,1):=by kernel_rfl
theorem z139:tZ Tryz.prog 139=some (.one (.nilfn)):=by kernel_rfl
theorem yrm:tAg Tryz.prog 141=some (true,3):=by kernel_rfl
theorem ypq:tPl Tryz.prog 141=some (fun k=>[(0,1),(1,1),(2,1)][k]?):=by kernel_rfl
theorem yh0:tFd Tryz.prog 141 0=some (0,false,1):=by kernel_rfl
theorem yhz:tFd Tryz.prog 141 1=some (1,false,1):=by kernel_rfl
theorem yhy:tFd Tryz.prog 141 2=some (2,false,1):=by kernel_rfl
theorem z141:tZ Tryz.prog 141=some (.agg [.slf [],.slf [],.nilfn]):=by kernel_rfl
theorem yrl:tAg Tryz.prog 144=some (true,3):=by kernel_rfl
theorem ypp:tPl Tryz.prog 144=some (fun k=>some (k*1,1)):=by kernel_rfl
theorem yq2:tAr Tryz.prog 144=some (3,3,1):=by kernel_rfl
theorem z144:tZ Tryz.prog 144=some (.agg [.int .i64 0,.int .i64 0,.int .i64 0]):=by kernel_rfl
theorem yrk:tAg Tryz.prog 146=some (false,1):=by kernel_rfl
theorem z146:tZ Tryz.prog 146=some (.one (.nilfn)):=by kernel_rfl
theorem yrj:tAg Tryz.prog 159=some (false,1):=by kernel_rfl
theorem z159:tZ Tryz.prog 159=some (.one (.nilfn)):=by kernel_rfl
theorem yri:tAg Tryz.prog 160=some (false,1):=by kernel_rfl
theorem ynz:tK Tryz.prog 160=some .i64:=by kernel_rfl
theorem z160:tZ Tryz.prog 160=some (.one (.int .i64 0)):=by kernel_rfl
theorem yns:(Tryz.prog.underlying 160).isSome=true:=by kernel_rfl
theorem yrh:tAg Tryz.prog 163=some (false,1):=by kernel_rfl
theorem z163:tZ Tryz.prog 163=some (.one (.nilfn)):=by kernel_rfl
theorem yrg:tAg Tryz.prog 167=some (false,1):=by kernel_rfl
theorem z167:tZ Tryz.prog 167=some (.one (.nilfn)):=by kernel_rfl
theorem yrf:tAg Tryz.prog 170=some (true,1):=by kernel_rfl
theorem ypo:tPl Tryz.prog 170=some (fun k=>[(0,1)][k]?):=by kernel_rfl
theorem yhx:tFd Tryz.prog 170 0=some (0,false,1):=by kernel_rfl
theorem z170:tZ Tryz.prog 170=some (.agg [.int .i64 0]):=by kernel_rfl
theorem yre:tAg Tryz.prog 172=some (true,7):=by kernel_rfl
theorem ypn:tPl Tryz.prog 172=some (fun k=>[(0,7)][k]?):=by kernel_rfl
theorem yhw:tFd Tryz.prog 172 0=some (0,true,7):=by kernel_rfl
theorem z172:tZ Tryz.prog 172=some (.agg [.str [],.int .i64 0,.int .i64 0,.int .i64 0,.int .i64 0,.int .i64 0,.int .i64 0]):=by kernel_rfl
theorem yrd:tAg Tryz.prog 173=some (true,7):=by kernel_rfl
theorem ypm:tPl Tryz.prog 173=some (fun k=>[(0,7)][k]?):=by kernel_rfl
theorem yhv:tFd Tryz.prog 173 0=some (0,true,7):=by kernel_rfl
theorem z173:tZ Tryz.prog 173=some (.agg [.str [],.int .i64 0,.int .i64 0,.int .i64 0,.int .i64 0,.int .i64 0,.int .i64 0]):=by kernel_rfl
theorem yrc:tAg Tryz.prog 175=some (true,4):=by kernel_rfl
theorem ypl:tPl Tryz.prog 175=some (fun k=>[(0,3),(3,1)][k]?):=by kernel_rfl
theorem yhu:tFd Tryz.prog 175 0=some (0,true,3):=by kernel_rfl
theorem yht:tFd Tryz.prog 175 1=some (3,false,1):=by kernel_rfl
theorem z175:tZ Tryz.prog 175=some (.agg [.str [],.str [],.int .i64 0,.int .i64 0]):=by kernel_rfl
theorem yrb:tAg Tryz.prog 177=some (true,1):=by kernel_rfl
theorem ypk:tPl Tryz.prog 177=some (fun k=>[(0,1)][k]?):=by kernel_rfl
theorem yhs:tFd Tryz.prog 177 0=some (0,false,1):=by kernel_rfl
theorem z177:tZ Tryz.prog 177=some (.agg [.bool false]):=by kernel_rfl
theorem yra:tAg Tryz.prog 179=some (true,1):=by kernel_rfl
theorem ypj:tPl Tryz.prog 179=some (fun k=>[(0,1)][k]?):=by kernel_rfl
theorem yhr:tFd Tryz.prog 179 0=some (0,false,1):=by kernel_rfl
theorem z179:tZ Tryz.prog 179=some (.agg [.int .i64 0]):=by kernel_rfl
theorem yq9:tAg Tryz.prog 181=some (false,1):=by kernel_rfl
theorem z181:tZ Tryz.prog 181=some (.one (.nilfn)):=by kernel_rfl
theorem yq8:tAg Tryz.prog 199=some (true,6):=by kernel_rfl
theorem ypi:tPl Tryz.prog 199=some (fun k=>[(0,6)][k]?):=by kernel_rfl
theorem yhq:tFd Tryz.prog 199 0=some (0,true,6):=by kernel_rfl
theorem z199:tZ Tryz.prog 199=some (.agg [.slf [],.slf [],.slf [],.slf [],.slf [],.slf []]):=by kernel_rfl
theorem yq7:tAg Tryz.prog 201=some (false,1):=by kernel_rfl
theorem z201:tZ Tryz.prog 201=some (.one (.nilfn)):=by kernel_rfl
theorem yq6:tAg Tryz.prog 214=some (false,1):=by kernel_rfl
theorem yny:tK Tryz.prog 214=some .u64:=by kernel_rfl
theorem z214:tZ Tryz.prog 214=some (.one (.int .u64 0)):=by kernel_rfl
theorem ynr:(Tryz.prog.underlying 214).isSome=true:=by kernel_rfl
theorem yq5:tAg Tryz.prog 219=some (false,1):=by kernel_rfl
theorem yoq:tSl Tryz.prog 219=some (5,1,1):=by kernel_rfl
theorem yq1:tAr Tryz.prog 219=none:=by kernel_rfl
theorem z219:tZ Tryz.prog 219=some (.one (.slf [])):=by kernel_rfl
theorem ynt:Tryz.prog.underlying 219=some (.slice 5):=by kernel_rfl
attribute [go_sem] lr9 vw9 rn9 rf9 yp3 yno yo4 yo7 yp1 ynm yo2 yo5 lr66 vw66 rn66 rf66 lr69 vw69 rn69 rf69 lr78 vw78 rn78 rf78 lr36 vw36 rn36 rf36 lr71 vw71 rn71 rf71 lr3 vw3 rn3 rf3 yp2 ynn yo3 yo6 lr42 vw42 rn42 rf42 lr76 vw76 rn76 rf76 lr4 vw4 rn4 rf4 lr5 vw5 rn5 rf5 yqw yp6 yqv yp5 yqu yp4 ymu ykz ymt yky yms ykx ag3 tk3 z3 un3 ag4 tb4 z4 ag5 tk5 z5 un5 ud5 ag9 ts9 z9 ud9 ag20 ag22 sl22 ar22 z22 ag23 sl23 ar23 z23 ag25 pl25 ymp ymo z25 ag26 sl26 ar26 z26 ag27 sl27 ar27 z27 ag28 sl28 ar28 z28 ag29 sl29 ar29 z29 ag31 pl31 ymn ymm yml ymk ymj z31 ag32 sl32 ar32 z32 ag33 sl33 ar33 z33 ag35 pl35 ymi ymh z35 ag36 sl36 ar36 z36 ag37 sl37 ar37 z37 ag39 pl39 ymg ymf yme ymd ymc z39 ag40 sl40 ar40 z40 ag42 pl42 ymb yma yl9 yl8 yl7 z42 ag54 z54 ag58 pl58 ar58 z58 ag64 pl64 yl6 yl5 yl4 z64 ag66 pl66 yl3 yl2 yl1 yl0 ylz z66 ag69 pl69 yly ylx ylw z69 ag71 pl71 ar71 z71 ag74 sl74 ar74 z74 ag76 pl76 ylv ylu ylt yls ylr ylq ylp z76 ag78 pl78 ylo yln ylm yll z78 ag84 z84 ag86 z86 yru yor yq4 z102 yrt ypu yq3 z103 yrs ypt yh8 yh7 z111 yrr yps yh6 yh5 yh4 z113 yrq ypr yh3 yh2 yh1 z129 yrp z135 yro z138 yrn z139 yrm ypq yh0 yhz yhy z141 yrl ypp yq2 z144 yrk z146 yrj z159 yri ynz z160 yns yrh z163 yrg z167 yrf ypo yhx z170 yre ypn yhw z172 yrd ypm yhv z173 yrc ypl yhu yht z175 yrb ypk yhs z177 yra ypj yhr z179 yq9 z181 yq8 ypi yhq z199 yq7 z201 yq6 yny z214 ynr yq5 yoq yq1 z219 ynt
theorem mo:Tryz.prog.follows .mixedOrders=true:=rfl
end Go.Lz

end
