/- The parts of a proof: SD -/
import Derived.Test.YtcceddpmmgabjaaGreatQl3
import Derived.Test.YtcceddpmmgabjaaGreatProg
import Derived.KernelRfl
set_option linter.unusedVariables false
set_option linter.unusedSimpArgs false
open Go.Proofs.Tryz
section
namespace Go.Lz
open Go.Proofs
structure A2 (α:Type)where
 a0:α
 a1:α
 deriving DecidableEq
def eA2 {α:Type} (f:α->List C) (x:A2 α):List C:=f x.a0++f x.a1
theorem z5h {α:Type} {f:α->List C} {x:A2 α}:eA2 f x=f x.a0++f x.a1:=of_eq_true (eq_self _)
theorem Flat.A2 {α:Type} {f:α->List C} (h:Flat f):Flat (eA2 f):=fun m x=>by
 rw[z5h];simp[zzv,h m]
attribute [go_sem] z5h
structure A3 (α:Type)where
 a0:α
 a1:α
 a2:α
 deriving DecidableEq
def eA3 {α:Type} (f:α->List C) (x:A3 α):List C:=f x.a0++f x.a1++f x.a2
theorem z5g {α:Type} {f:α->List C} {x:A3 α}:eA3 f x=f x.a0++f x.a1++f x.a2:=of_eq_true (eq_self _)
theorem Flat.A3 {α:Type} {f:α->List C} (h:Flat f):Flat (eA3 f):=fun m x=>by
 rw[z5g];simp[zzv,h m]
attribute [go_sem] z5g
structure A4 (α:Type)where
 a0:α
 a1:α
 a2:α
 a3:α
 deriving DecidableEq
def eA4 {α:Type} (f:α->List C) (x:A4 α):List C:=f x.a0++f x.a1++f x.a2++f x.a3
theorem z5f {α:Type} {f:α->List C} {x:A4 α}:eA4 f x=f x.a0++f x.a1++f x.a2++f x.a3:=of_eq_true (eq_self _)
theorem Flat.A4 {α:Type} {f:α->List C} (h:Flat f):Flat (eA4 f):=fun m x=>by
 rw[z5f];simp[zzv,h m]
attribute [go_sem] z5f
structure xsn where
 Names:List Str
 Below:List (A2 Int)
def xs3 (x:xsn):List C:=[.sl (x.Names.map eS),.sl (x.Below.map (eA2 eI))]
theorem xtb {x:xsn}:xs3 x=[.sl (x.Names.map eS),.sl (x.Below.map (eA2 eI))]:=of_eq_true (eq_self _)
theorem Flat.xsn:Flat xs3:=fun m x=>by
 rw[xtb];simp[zej,C.lt,zrg,zal Flat.S,zal (Flat.A2 (Flat.K .i64))]
attribute [go_sem] xtb
structure xsy where
 Name:Str
 From:Int
 To:Int
def xsr (x:xsy):List C:=[.str x.Name,.int .i64 x.From,.int .i64 x.To]
theorem xtc {x:xsy}:xsr x=[.str x.Name,.int .i64 x.From,.int .i64 x.To]:=of_eq_true (eq_self _)
theorem Flat.xsy:Flat xsr:=fun m x=>by
 rw[xtc];simp[zej,C.lt,zrg]
attribute [go_sem] xtc
structure xsz where
 Kind:Int
 Low:Int
 Len:Int
def xs7 (x:xsz):List C:=[.int .i64 x.Kind,.int .i64 x.Low,.int .i64 x.Len]
theorem xtd {x:xsz}:xs7 x=[.int .i64 x.Kind,.int .i64 x.Low,.int .i64 x.Len]:=of_eq_true (eq_self _)
theorem Flat.xsz:Flat xs7:=fun m x=>by
 rw[xtd];simp[zej,C.lt,zrg]
attribute [go_sem] xtd
structure xsq where
 Name:Str
 Type_:xsz
 Mode:Int
 Label:Int
 Safe:Int
def xst (x:xsq):List C:=[.str x.Name,.int .i64 x.Type_.Kind,.int .i64 x.Type_.Low,.int .i64 x.Type_.Len,.int .i64 x.Mode,.int .i64 x.Label,.int .i64 x.Safe]
theorem xte {x:xsq}:xst x=[.str x.Name,.int .i64 x.Type_.Kind,.int .i64 x.Type_.Low,.int .i64 x.Type_.Len,.int .i64 x.Mode,.int .i64 x.Label,.int .i64 x.Safe]:=of_eq_true (eq_self _)
theorem Flat.xsq:Flat xst:=fun m x=>by
 rw[xte];simp[zej,C.lt,zrg]
attribute [go_sem] xte
structure xsw where
 Name:Str
 Kind:Str
 Label:Int
def xsu (x:xsw):List C:=[.str x.Name,.str x.Kind,.int .i64 x.Label]
theorem xtf {x:xsw}:xsu x=[.str x.Name,.str x.Kind,.int .i64 x.Label]:=of_eq_true (eq_self _)
theorem Flat.xsw:Flat xsu:=fun m x=>by
 rw[xtf];simp[zej,C.lt,zrg]
attribute [go_sem] xtf
structure xsk where
 Op:Int
 N:Int
 Kind:Int
 Name:Str
 Args:List xsk
mutual
def xsm:xsk->List C
 |⟨Op,N,Kind,Name,Args⟩=>[.int .i64 Op,.int .i64 N,.int .i64 Kind,.str Name,.sl (zmv Args)]
def zmv:List xsk->List (List C)
 |[]=>[]
 |x::xs=>xsm x::zmv xs
end
theorem zvq:∀(xs:List xsk),zmv xs=xs.map xsm
 |[]=>rfl
 |x::xs=>by rw[zmv,zvq xs];rfl
theorem xtg {x:xsk}:xsm x=[.int .i64 x.Op,.int .i64 x.N,.int .i64 x.Kind,.str x.Name,.sl (x.Args.map xsm)]:=by
 cases x;simp only[xsm,zvq]
mutual
theorem Flat.xts (m:Nat):∀(x:xsk),zej m (xsm x)=true
 |⟨Op,N,Kind,Name,Args⟩=>by
  rw[xsm];simp[zej,C.lt,Flat.xtt m Args]
theorem Flat.xtt (m:Nat):∀(xs:List xsk),zci m (zmv xs)=true
 |[]=>rfl
 |x::xs=>by rw[zmv,zci,Flat.xts m x,Flat.xtt m xs];rfl
end
theorem Flat.xsk:Flat xsm:=fun m x=>Flat.xts m x
attribute [go_sem] xtg
structure xsl where
 Kind:Int
 Name:Str
 Target:xsk
 Value:xsk
 Args:List xsk
 Body:List xsl
 Else:List xsl
mutual
def xsp:xsl->List C
 |⟨Kind,Name,Target,Value,Args,Body,Else⟩=>[.int .i64 Kind,.str Name,.int .i64 Target.Op,.int .i64 Target.N,.int .i64 Target.Kind,.str Target.Name,.sl (Target.Args.map xsm),.int .i64 Value.Op,.int .i64 Value.N,.int .i64 Value.Kind,.str Value.Name,.sl (Value.Args.map xsm),.sl (Args.map xsm),.sl (zlc Body),.sl (zlc Else)]
def zlc:List xsl->List (List C)
 |[]=>[]
 |x::xs=>xsp x::zlc xs
end
theorem zvp:∀(xs:List xsl),zlc xs=xs.map xsp
 |[]=>rfl
 |x::xs=>by rw[zlc,zvp xs];rfl
theorem xtu {x:xsl}:xsp x=[.int .i64 x.Kind,.str x.Name,.int .i64 x.Target.Op,.int .i64 x.Target.N,.int .i64 x.Target.Kind,.str x.Target.Name,.sl (x.Target.Args.map xsm),.int .i64 x.Value.Op,.int .i64 x.Value.N,.int .i64 x.Value.Kind,.str x.Value.Name,.sl (x.Value.Args.map xsm),.sl (x.Args.map xsm),.sl (x.Body.map xsp),.sl (x.Else.map xsp)]:=by
 cases x;simp only[xsp,zvp]
mutual
theorem Flat.xtv (m:Nat):∀(x:xsl),zej m (xsp x)=true
 |⟨Kind,Name,Target,Value,Args,Body,Else⟩=>by
  rw[xsp];simp[zej,C.lt,zal Flat.xsk,zal Flat.xsk,zal Flat.xsk,Flat.xth m Body,Flat.xth m Else]
theorem Flat.xth (m:Nat):∀(xs:List xsl),zci m (zlc xs)=true
 |[]=>rfl
 |x::xs=>by rw[zlc,zci,Flat.xtv m x,Flat.xth m xs];rfl
end
theorem Flat.xsl:Flat xsp:=fun m x=>Flat.xtv m x
attribute [go_sem] xtu
structure xs2 where
 Every:Int
 Priority:Int
 Budget:List Int
 Body:List xsl
def xsv (x:xs2):List C:=[.int .i64 x.Every,.int .i64 x.Priority,.sl (x.Budget.map eI),.sl (x.Body.map xsp)]
theorem xti {x:xs2}:xsv x=[.int .i64 x.Every,.int .i64 x.Priority,.sl (x.Budget.map eI),.sl (x.Body.map xsp)]:=of_eq_true (eq_self _)
theorem Flat.xs2:Flat xsv:=fun m x=>by
 rw[xti];simp[zej,C.lt,zrg,zal (Flat.K .i64),zal Flat.xsl]
attribute [go_sem] xti
structure xsj where
 Lattice:xsn
 Sites:List xsy
 Vars:List xsq
 Blocks:List xsw
 Tasks:List xs2
def xso (x:xsj):List C:=[.sl (x.Lattice.Names.map eS),.sl (x.Lattice.Below.map (eA2 eI)),.sl (x.Sites.map xsr),.sl (x.Vars.map xst),.sl (x.Blocks.map xsu),.sl (x.Tasks.map xsv)]
theorem xta {x:xsj}:xso x=[.sl (x.Lattice.Names.map eS),.sl (x.Lattice.Below.map (eA2 eI)),.sl (x.Sites.map xsr),.sl (x.Vars.map xst),.sl (x.Blocks.map xsu),.sl (x.Tasks.map xsv)]:=of_eq_true (eq_self _)
theorem Flat.xsj:Flat xso:=fun m x=>by
 rw[xta];simp[zej,C.lt,zrg,zal Flat.S,zal (Flat.A2 (Flat.K .i64)),zal Flat.xsy,zal Flat.xsq,zal Flat.xsw,zal Flat.xs2]
attribute [go_sem] xta
structure xs4 where
 Cells:List (List Int)
 Blocks:List (A4 Int)
def xs9 (x:xs4):List C:=[.sl (x.Cells.map (eL eI)),.sl (x.Blocks.map (eA4 eI))]
theorem xtj {x:xs4}:xs9 x=[.sl (x.Cells.map (eL eI)),.sl (x.Blocks.map (eA4 eI))]:=of_eq_true (eq_self _)
theorem Flat.xs4:Flat xs9:=fun m x=>by
 rw[xtj];simp[zej,C.lt,zrg,zal (Flat.L (Flat.K .i64)),zal (Flat.A4 (Flat.K .i64))]
attribute [go_sem] xtj
structure xsx where
 Site:Int
 Value:Int
def xss (x:xsx):List C:=[.int .i64 x.Site,.int .i64 x.Value]
theorem xtk {x:xsx}:xss x=[.int .i64 x.Site,.int .i64 x.Value]:=of_eq_true (eq_self _)
theorem Flat.xsx:Flat xss:=fun m x=>by
 rw[xtk];simp[zej,C.lt,zrg]
attribute [go_sem] xtk
structure xs1 where
 Memory:xs4
 Left:List Int
 Latches:List Int
 Events:List xsx
 Now:Int
def xs6 (x:xs1):List C:=[.sl (x.Memory.Cells.map (eL eI)),.sl (x.Memory.Blocks.map (eA4 eI)),.sl (x.Left.map eI),.sl (x.Latches.map eI),.sl (x.Events.map xss),.int .i64 x.Now]
theorem xtl {x:xs1}:xs6 x=[.sl (x.Memory.Cells.map (eL eI)),.sl (x.Memory.Blocks.map (eA4 eI)),.sl (x.Left.map eI),.sl (x.Latches.map eI),.sl (x.Events.map xss),.int .i64 x.Now]:=of_eq_true (eq_self _)
theorem Flat.xs1:Flat xs6:=fun m x=>by
 rw[xtl];simp[zej,C.lt,zrg,zal (Flat.L (Flat.K .i64)),zal (Flat.A4 (Flat.K .i64)),zal (Flat.K .i64),zal (Flat.K .i64),zal Flat.xsx]
attribute [go_sem] xtl
structure blocks_kind where
 in_:List Int
 out:List Int
 step:Option Nat
def zn6 (x:blocks_kind):List C:=[.sl (x.in_.map eI),.sl (x.out.map eI),eF x.step]
theorem zmw {x:blocks_kind}:zn6 x=[.sl (x.in_.map eI),.sl (x.out.map eI),eF x.step]:=of_eq_true (eq_self _)
theorem Flat.blocks_kind:Flat zn6:=fun m x=>by
 rw[zmw];simp[zej,C.lt,zrg,zal (Flat.K .i64),zal (Flat.K .i64)]
attribute [go_sem] zmw
structure typing_value where
 kind:Int
def zp1 (x:typing_value):List C:=[.int .i64 x.kind]
theorem zmb {x:typing_value}:zp1 x=[.int .i64 x.kind]:=of_eq_true (eq_self _)
theorem Flat.typing_value:Flat zp1:=fun m x=>by
 rw[zmb];simp[zej,C.lt,zrg]
attribute [go_sem] zmb
structure typing_scalar where
 v:xsq
def zor (x:typing_scalar):List C:=[.str x.v.Name,.int .i64 x.v.Type_.Kind,.int .i64 x.v.Type_.Low,.int .i64 x.v.Type_.Len,.int .i64 x.v.Mode,.int .i64 x.v.Label,.int .i64 x.v.Safe]
theorem zld {x:typing_scalar}:zor x=[.str x.v.Name,.int .i64 x.v.Type_.Kind,.int .i64 x.v.Type_.Low,.int .i64 x.v.Type_.Len,.int .i64 x.v.Mode,.int .i64 x.v.Label,.int .i64 x.v.Safe]:=of_eq_true (eq_self _)
theorem Flat.typing_scalar:Flat zor:=fun m x=>by
 rw[zld];simp[zej,C.lt,zrg]
attribute [go_sem] zld
structure typing_array where
 v:xsq
def zp2 (x:typing_array):List C:=[.str x.v.Name,.int .i64 x.v.Type_.Kind,.int .i64 x.v.Type_.Low,.int .i64 x.v.Type_.Len,.int .i64 x.v.Mode,.int .i64 x.v.Label,.int .i64 x.v.Safe]
theorem zmc {x:typing_array}:zp2 x=[.str x.v.Name,.int .i64 x.v.Type_.Kind,.int .i64 x.v.Type_.Low,.int .i64 x.v.Type_.Len,.int .i64 x.v.Mode,.int .i64 x.v.Label,.int .i64 x.v.Safe]:=of_eq_true (eq_self _)
theorem Flat.typing_array:Flat zp2:=fun m x=>by
 rw[zmc];simp[zej,C.lt,zrg]
attribute [go_sem] zmc
structure typing_output where
 b:xsw
 n:Int
def zot (x:typing_output):List C:=[.str x.b.Name,.str x.b.Kind,.int .i64 x.b.Label,.int .i64 x.n]
theorem zlf {x:typing_output}:zot x=[.str x.b.Name,.str x.b.Kind,.int .i64 x.b.Label,.int .i64 x.n]:=of_eq_true (eq_self _)
theorem Flat.typing_output:Flat zot:=fun m x=>by
 rw[zlf];simp[zej,C.lt,zrg]
attribute [go_sem] zlf
structure typing_release where
 ok:Bool
def znr (x:typing_release):List C:=[.bool x.ok]
theorem zk0 {x:typing_release}:znr x=[.bool x.ok]:=of_eq_true (eq_self _)
theorem Flat.typing_release:Flat znr:=fun m x=>by
 rw[zk0];simp[zej,C.lt,zrg]
attribute [go_sem] zk0
structure typing_result where
 op:Int
def zos (x:typing_result):List C:=[.int .i64 x.op]
theorem zle {x:typing_result}:zos x=[.int .i64 x.op]:=of_eq_true (eq_self _)
theorem Flat.typing_result:Flat zos:=fun m x=>by
 rw[zle];simp[zej,C.lt,zrg]
attribute [go_sem] zle
structure flow_desk where
 p:xsj
def zap (x:flow_desk):List C:=[.sl (x.p.Lattice.Names.map eS),.sl (x.p.Lattice.Below.map (eA2 eI)),.sl (x.p.Sites.map xsr),.sl (x.p.Vars.map xst),.sl (x.p.Blocks.map xsu),.sl (x.p.Tasks.map xsv)]
theorem zou {x:flow_desk}:zap x=[.sl (x.p.Lattice.Names.map eS),.sl (x.p.Lattice.Below.map (eA2 eI)),.sl (x.p.Sites.map xsr),.sl (x.p.Vars.map xst),.sl (x.p.Blocks.map xsu),.sl (x.p.Tasks.map xsv)]:=of_eq_true (eq_self _)
theorem Flat.flow_desk:Flat zap:=fun m x=>by
 rw[zou];simp[zej,C.lt,zrg,zal Flat.S,zal (Flat.A2 (Flat.K .i64)),zal Flat.xsy,zal Flat.xsq,zal Flat.xsw,zal Flat.xs2]
attribute [go_sem] zou
theorem Plain.A2 {α:Type} {f:α->List C} (h:Plain f):Plain (eA2 f):=fun H k x=>by
 rw[z5h];simp[h H k]
theorem Plain.A3 {α:Type} {f:α->List C} (h:Plain f):Plain (eA3 f):=fun H k x=>by
 rw[z5g];simp[h H k]
theorem Plain.A4 {α:Type} {f:α->List C} (h:Plain f):Plain (eA4 f):=fun H k x=>by
 rw[z5f];simp[h H k]
theorem Plain.xsn:Plain xs3:=fun H k x=>by rw[xtb];simp[zks,zia,zkr,zo0,zpe]
theorem Plain.xsy:Plain xsr:=fun H k x=>by rw[xtc];simp[zks,zia,zkr,zo0,zpe]
theorem Plain.xsz:Plain xs7:=fun H k x=>by rw[xtd];simp[zks,zia,zkr,zo0,zpe]
theorem Plain.xsq:Plain xst:=fun H k x=>by rw[xte];simp[zks,zia,zkr,zo0,zpe]
theorem Plain.xsw:Plain xsu:=fun H k x=>by rw[xtf];simp[zks,zia,zkr,zo0,zpe]
theorem Plain.xsk:Plain xsm:=fun H k x=>by rw[xtg];simp[zks,zia,zkr,zo0,zpe]
theorem Plain.xsl:Plain xsp:=fun H k x=>by rw[xtu];simp[zks,zia,zkr,zo0,zpe]
theorem Plain.xs2:Plain xsv:=fun H k x=>by rw[xti];simp[zks,zia,zkr,zo0,zpe]
theorem Plain.xsj:Plain xso:=fun H k x=>by rw[xta];simp[zks,zia,zkr,zo0,zpe]
theorem Plain.xs4:Plain xs9:=fun H k x=>by rw[xtj];simp[zks,zia,zkr,zo0,zpe]
theorem Plain.xsx:Plain xss:=fun H k x=>by rw[xtk];simp[zks,zia,zkr,zo0,zpe]
theorem Plain.xs1:Plain xs6:=fun H k x=>by rw[xtl];simp[zks,zia,zkr,zo0,zpe]
theorem Plain.blocks_kind:Plain zn6:=fun H k x=>by rw[zmw];simp[zks,zia,zkr,zo0,zpe]
theorem Plain.typing_value:Plain zp1:=fun H k x=>by rw[zmb];simp[zks,zia,zkr,zo0,zpe]
theorem Plain.typing_scalar:Plain zor:=fun H k x=>by rw[zld];simp[zks,zia,zkr,zo0,zpe]
theorem Plain.typing_array:Plain zp2:=fun H k x=>by rw[zmc];simp[zks,zia,zkr,zo0,zpe]
theorem Plain.typing_output:Plain zot:=fun H k x=>by rw[zlf];simp[zks,zia,zkr,zo0,zpe]
theorem Plain.typing_release:Plain znr:=fun H k x=>by rw[zk0];simp[zks,zia,zkr,zo0,zpe]
theorem Plain.typing_result:Plain zos:=fun H k x=>by rw[zle];simp[zks,zia,zkr,zo0,zpe]
theorem Plain.flow_desk:Plain zap:=fun H k x=>by rw[zou];simp[zks,zia,zkr,zo0,zpe]
theorem lr9 {m:Nat} {xs:List Str}:zci m (xs.map eS)=true:=zal Flat.S m xs
theorem vw9 {H:List O} {k:Nat} {xs:List Str}:zbr H k (xs.map eS)=xs.map eS:=zb1 Plain.S H k xs
theorem rn9 {g:Nat->Nat} {xs:List Str}:za6 g (xs.map eS)=xs.map eS:=zwi Flat.S
theorem rf9 {p:Nat->Bool} {xs:List Str}:zax p (xs.map eS)=true:=zwj Flat.S
theorem yqo {m:Nat} {xs:List (A2 Int)}:zci m (xs.map (eA2 eI))=true:=zal (Flat.A2 (Flat.K .i64)) m xs
theorem yn8 {H:List O} {k:Nat} {xs:List (A2 Int)}:zbr H k (xs.map (eA2 eI))=xs.map (eA2 eI):=zb1 (Plain.A2 (Plain.K .i64)) H k xs
theorem ypo {g:Nat->Nat} {xs:List (A2 Int)}:za6 g (xs.map (eA2 eI))=xs.map (eA2 eI):=zwi (Flat.A2 (Flat.K .i64))
theorem ypr {p:Nat->Bool} {xs:List (A2 Int)}:zax p (xs.map (eA2 eI))=true:=zwj (Flat.A2 (Flat.K .i64))
theorem yqm {m:Nat} {xs:List xsy}:zci m (xs.map xsr)=true:=zal Flat.xsy m xs
theorem yn6 {H:List O} {k:Nat} {xs:List xsy}:zbr H k (xs.map xsr)=xs.map xsr:=zb1 Plain.xsy H k xs
theorem ypm {g:Nat->Nat} {xs:List xsy}:za6 g (xs.map xsr)=xs.map xsr:=zwi Flat.xsy
theorem ypp {p:Nat->Bool} {xs:List xsy}:zax p (xs.map xsr)=true:=zwj Flat.xsy
theorem lr66 {m:Nat} {xs:List xsq}:zci m (xs.map xst)=true:=zal Flat.xsq m xs
theorem vw66 {H:List O} {k:Nat} {xs:List xsq}:zbr H k (xs.map xst)=xs.map xst:=zb1 Plain.xsq H k xs
theorem rn66 {g:Nat->Nat} {xs:List xsq}:za6 g (xs.map xst)=xs.map xst:=zwi Flat.xsq
theorem rf66 {p:Nat->Bool} {xs:List xsq}:zax p (xs.map xst)=true:=zwj Flat.xsq
theorem lr69 {m:Nat} {xs:List xsw}:zci m (xs.map xsu)=true:=zal Flat.xsw m xs
theorem vw69 {H:List O} {k:Nat} {xs:List xsw}:zbr H k (xs.map xsu)=xs.map xsu:=zb1 Plain.xsw H k xs
theorem rn69 {g:Nat->Nat} {xs:List xsw}:za6 g (xs.map xsu)=xs.map xsu:=zwi Flat.xsw
theorem rf69 {p:Nat->Bool} {xs:List xsw}:zax p (xs.map xsu)=true:=zwj Flat.xsw
theorem lr78 {m:Nat} {xs:List xs2}:zci m (xs.map xsv)=true:=zal Flat.xs2 m xs
theorem vw78 {H:List O} {k:Nat} {xs:List xs2}:zbr H k (xs.map xsv)=xs.map xsv:=zb1 Plain.xs2 H k xs
theorem rn78 {g:Nat->Nat} {xs:List xs2}:za6 g (xs.map xsv)=xs.map xsv:=zwi Flat.xs2
theorem rf78 {p:Nat->Bool} {xs:List xs2}:zax p (xs.map xsv)=true:=zwj Flat.xs2
theorem lr36 {m:Nat} {xs:List (List Int)}:zci m (xs.map (eL eI))=true:=zal (Flat.L (Flat.K .i64)) m xs
theorem vw36 {H:List O} {k:Nat} {xs:List (List Int)}:zbr H k (xs.map (eL eI))=xs.map (eL eI):=zb1 (Plain.L eI) H k xs
theorem rn36 {g:Nat->Nat} {xs:List (List Int)}:za6 g (xs.map (eL eI))=xs.map (eL eI):=zwi (Flat.L (Flat.K .i64))
theorem rf36 {p:Nat->Bool} {xs:List (List Int)}:zax p (xs.map (eL eI))=true:=zwj (Flat.L (Flat.K .i64))
theorem lr71 {m:Nat} {xs:List (A4 Int)}:zci m (xs.map (eA4 eI))=true:=zal (Flat.A4 (Flat.K .i64)) m xs
theorem vw71 {H:List O} {k:Nat} {xs:List (A4 Int)}:zbr H k (xs.map (eA4 eI))=xs.map (eA4 eI):=zb1 (Plain.A4 (Plain.K .i64)) H k xs
theorem rn71 {g:Nat->Nat} {xs:List (A4 Int)}:za6 g (xs.map (eA4 eI))=xs.map (eA4 eI):=zwi (Flat.A4 (Flat.K .i64))
theorem rf71 {p:Nat->Bool} {xs:List (A4 Int)}:zax p (xs.map (eA4 eI))=true:=zwj (Flat.A4 (Flat.K .i64))
theorem lr3 {m:Nat} {xs:List Int}:zci m (xs.map eI)=true:=zal (Flat.K .i64) m xs
theorem vw3 {H:List O} {k:Nat} {xs:List Int}:zbr H k (xs.map eI)=xs.map eI:=zb1 (Plain.K .i64) H k xs
theorem rn3 {g:Nat->Nat} {xs:List Int}:za6 g (xs.map eI)=xs.map eI:=zwi (Flat.K .i64)
theorem rf3 {p:Nat->Bool} {xs:List Int}:zax p (xs.map eI)=true:=zwj (Flat.K .i64)
theorem yqn {m:Nat} {xs:List xsx}:zci m (xs.map xss)=true:=zal Flat.xsx m xs
theorem yn7 {H:List O} {k:Nat} {xs:List xsx}:zbr H k (xs.map xss)=xs.map xss:=zb1 Plain.xsx H k xs
theorem ypn {g:Nat->Nat} {xs:List xsx}:za6 g (xs.map xss)=xs.map xss:=zwi Flat.xsx
theorem ypq {p:Nat->Bool} {xs:List xsx}:zax p (xs.map xss)=true:=zwj Flat.xsx
theorem lr42 {m:Nat} {xs:List xsk}:zci m (xs.map xsm)=true:=zal Flat.xsk m xs
theorem vw42 {H:List O} {k:Nat} {xs:List xsk}:zbr H k (xs.map xsm)=xs.map xsm:=zb1 Plain.xsk H k xs
theorem rn42 {g:Nat->Nat} {xs:List xsk}:za6 g (xs.map xsm)=xs.map xsm:=zwi Flat.xsk
theorem rf42 {p:Nat->Bool} {xs:List xsk}:zax p (xs.map xsm)=true:=zwj Flat.xsk
theorem lr76 {m:Nat} {xs:List xsl}:zci m (xs.map xsp)=true:=zal Flat.xsl m xs
theorem vw76 {H:List O} {k:Nat} {xs:List xsl}:zbr H k (xs.map xsp)=xs.map xsp:=zb1 Plain.xsl H k xs
theorem rn76 {g:Nat->Nat} {xs:List xsl}:za6 g (xs.map xsp)=xs.map xsp:=zwi Flat.xsl
theorem rf76 {p:Nat->Bool} {xs:List xsl}:zax p (xs.map xsp)=true:=zwj Flat.xsl
theorem lr4 {m:Nat} {xs:List Bool}:zci m (xs.map eB)=true:=zal Flat.B m xs
theorem vw4 {H:List O} {k:Nat} {xs:List Bool}:zbr H k (xs.map eB)=xs.map eB:=zb1 Plain.B H k xs
theorem rn4 {g:Nat->Nat} {xs:List Bool}:za6 g (xs.map eB)=xs.map eB:=zwi Flat.B
theorem rf4 {p:Nat->Bool} {xs:List Bool}:zax p (xs.map eB)=true:=zwj Flat.B
theorem lr5 {m:Nat} {xs:List Int}:zci m (xs.map (eK .u8))=true:=zal (Flat.K .u8) m xs
theorem vw5 {H:List O} {k:Nat} {xs:List Int}:zbr H k (xs.map (eK .u8))=xs.map (eK .u8):=zb1 (Plain.K .u8) H k xs
theorem rn5 {g:Nat->Nat} {xs:List Int}:za6 g (xs.map (eK .u8))=xs.map (eK .u8):=zwi (Flat.K .u8)
theorem rf5 {p:Nat->Bool} {xs:List Int}:zax p (xs.map (eK .u8))=true:=zwj (Flat.K .u8)
theorem yrh:eqT prog 66=true:=by kernel_rfl
theorem yqr {a0:Str} {a1:Int} {a2:Int} {a3:Int} {I:Int} {U:Int} {a6:Int}:litC prog 20 66 [.str a0,.int .i64 a1,.int .i64 a2,.int .i64 a3,.int .i64 I,.int .i64 U,.int .i64 a6]=some [.s a0,.i .i64 a1,.i .i64 a2,.i .i64 a3,.i .i64 I,.i .i64 U,.i .i64 a6]:=by kernel_rfl
theorem yrg:eqT prog 69=true:=by kernel_rfl
theorem yqq {a0:Str} {a1:Str} {a2:Int}:litC prog 20 69 [.str a0,.str a1,.int .i64 a2]=some [.s a0,.s a1,.i .i64 a2]:=by kernel_rfl
theorem yrf:eqT prog 71=true:=by kernel_rfl
theorem yqp {a0:Int} {a1:Int} {a2:Int} {a3:Int}:litC prog 20 71 [.int .i64 a0,.int .i64 a1,.int .i64 a2,.int .i64 a3]=some [.i .i64 a0,.i .i64 a1,.i .i64 a2,.i .i64 a3]:=by kernel_rfl
theorem ynf:eqT prog 103=true:=by kernel_rfl
theorem yll {a0:Int} {a1:Int}:litC prog 20 103 [.int .i64 a0,.int .i64 a1]=some [.i .i64 a0,.i .i64 a1]:=by kernel_rfl
theorem yne:eqT prog 111=true:=by kernel_rfl
theorem ylk {a0:Int} {a1:Int}:litC prog 20 111 [.int .i64 a0,.int .i64 a1]=some [.i .i64 a0,.i .i64 a1]:=by kernel_rfl
theorem ynd:eqT prog 129=true:=by kernel_rfl
theorem ylj {a0:Str} {a1:Int} {a2:Int}:litC prog 20 129 [.str a0,.int .i64 a1,.int .i64 a2]=some [.s a0,.i .i64 a1,.i .i64 a2]:=by kernel_rfl
theorem ag3:tAg prog 3=some (false,1):=by kernel_rfl
theorem tk3:tK prog 3=some .i64:=by kernel_rfl
theorem z3:tZ prog 3=some (.one (.int .i64 0)):=by kernel_rfl
theorem un3:(prog.underlying 3).isSome=true:=by kernel_rfl
theorem ag4:tAg prog 4=some (false,1):=by kernel_rfl
theorem tb4:z1j prog 4=true:=by kernel_rfl
theorem z4:tZ prog 4=some (.one (.bool false)):=by kernel_rfl
theorem ag5:tAg prog 5=some (false,1):=by kernel_rfl
theorem tk5:tK prog 5=some .u8:=by kernel_rfl
theorem z5:tZ prog 5=some (.one (.int .u8 0)):=by kernel_rfl
theorem un5:(prog.underlying 5).isSome=true:=by kernel_rfl
theorem ud5:prog.underlying 5=some (.int .u8):=by kernel_rfl
theorem ag9:tAg prog 9=some (false,1):=by kernel_rfl
theorem ts9:zx8 prog 9=true:=by kernel_rfl
theorem z9:tZ prog 9=some (.one (.str [])):=by kernel_rfl
theorem ud9:prog.underlying 9=some .string:=by kernel_rfl
theorem ag20:tAg prog 20=some (false,1):=by kernel_rfl
theorem ag22:tAg prog 22=some (false,1):=by kernel_rfl
theorem sl22:tSl prog 22=some (9,1,16):=by kernel_rfl
theorem ar22:tAr prog 22=none:=by kernel_rfl
theorem z22:tZ prog 22=some (.one (.slf [])):=by kernel_rfl
theorem ag23:tAg prog 23=some (false,1):=by kernel_rfl
theorem sl23:tSl prog 23=some (103,2,16):=by kernel_rfl
theorem ar23:tAr prog 23=none:=by kernel_rfl
theorem z23:tZ prog 23=some (.one (.slf [])):=by kernel_rfl
theorem ag25:tAg prog 25=some (true,2):=by kernel_rfl
theorem pl25:tPl prog 25=some (fun k=>[(0,1),(1,1)][k]?):=by kernel_rfl
theorem yna:tFd prog 25 0=some (0,false,1):=by kernel_rfl
theorem ym9:tFd prog 25 1=some (1,false,1):=by kernel_rfl
theorem z25:tZ prog 25=some (.agg [.slf [],.slf []]):=by kernel_rfl
theorem ag26:tAg prog 26=some (false,1):=by kernel_rfl
theorem sl26:tSl prog 26=some (129,3,32):=by kernel_rfl
theorem ar26:tAr prog 26=none:=by kernel_rfl
theorem z26:tZ prog 26=some (.one (.slf [])):=by kernel_rfl
theorem ag27:tAg prog 27=some (false,1):=by kernel_rfl
theorem sl27:tSl prog 27=some (66,7,64):=by kernel_rfl
theorem ar27:tAr prog 27=none:=by kernel_rfl
theorem z27:tZ prog 27=some (.one (.slf [])):=by kernel_rfl
theorem ag28:tAg prog 28=some (false,1):=by kernel_rfl
theorem sl28:tSl prog 28=some (69,3,40):=by kernel_rfl
theorem ar28:tAr prog 28=none:=by kernel_rfl
theorem z28:tZ prog 28=some (.one (.slf [])):=by kernel_rfl
theorem ag29:tAg prog 29=some (false,1):=by kernel_rfl
theorem sl29:tSl prog 29=some (78,4,64):=by kernel_rfl
theorem ar29:tAr prog 29=none:=by kernel_rfl
theorem z29:tZ prog 29=some (.one (.slf [])):=by kernel_rfl
theorem ag31:tAg prog 31=some (true,6):=by kernel_rfl
theorem pl31:tPl prog 31=some (fun k=>[(0,2),(2,1),(3,1),(4,1),(5,1)][k]?):=by kernel_rfl
theorem ym8:tFd prog 31 0=some (0,true,2):=by kernel_rfl
theorem ym7:tFd prog 31 1=some (2,false,1):=by kernel_rfl
theorem ym6:tFd prog 31 2=some (3,false,1):=by kernel_rfl
theorem ym5:tFd prog 31 3=some (4,false,1):=by kernel_rfl
theorem ym4:tFd prog 31 4=some (5,false,1):=by kernel_rfl
theorem z31:tZ prog 31=some (.agg [.slf [],.slf [],.slf [],.slf [],.slf [],.slf []]):=by kernel_rfl
theorem ag32:tAg prog 32=some (false,1):=by kernel_rfl
theorem sl32:tSl prog 32=some (36,1,24):=by kernel_rfl
theorem ar32:tAr prog 32=none:=by kernel_rfl
theorem z32:tZ prog 32=some (.one (.slf [])):=by kernel_rfl
theorem ag33:tAg prog 33=some (false,1):=by kernel_rfl
theorem sl33:tSl prog 33=some (71,4,32):=by kernel_rfl
theorem ar33:tAr prog 33=none:=by kernel_rfl
theorem z33:tZ prog 33=some (.one (.slf [])):=by kernel_rfl
theorem ag35:tAg prog 35=some (true,2):=by kernel_rfl
theorem pl35:tPl prog 35=some (fun k=>[(0,1),(1,1)][k]?):=by kernel_rfl
theorem ym3:tFd prog 35 0=some (0,false,1):=by kernel_rfl
theorem ym2:tFd prog 35 1=some (1,false,1):=by kernel_rfl
theorem z35:tZ prog 35=some (.agg [.slf [],.slf []]):=by kernel_rfl
theorem ag36:tAg prog 36=some (false,1):=by kernel_rfl
theorem sl36:tSl prog 36=some (3,1,8):=by kernel_rfl
theorem ar36:tAr prog 36=none:=by kernel_rfl
theorem z36:tZ prog 36=some (.one (.slf [])):=by kernel_rfl
theorem ag37:tAg prog 37=some (false,1):=by kernel_rfl
theorem sl37:tSl prog 37=some (111,2,16):=by kernel_rfl
theorem ar37:tAr prog 37=none:=by kernel_rfl
theorem z37:tZ prog 37=some (.one (.slf [])):=by kernel_rfl
theorem ag39:tAg prog 39=some (true,6):=by kernel_rfl
theorem pl39:tPl prog 39=some (fun k=>[(0,2),(2,1),(3,1),(4,1),(5,1)][k]?):=by kernel_rfl
theorem ym1:tFd prog 39 0=some (0,true,2):=by kernel_rfl
theorem ym0:tFd prog 39 1=some (2,false,1):=by kernel_rfl
theorem ymz:tFd prog 39 2=some (3,false,1):=by kernel_rfl
theorem ymy:tFd prog 39 3=some (4,false,1):=by kernel_rfl
theorem ymx:tFd prog 39 4=some (5,false,1):=by kernel_rfl
theorem z39:tZ prog 39=some (.agg [.slf [],.slf [],.slf [],.slf [],.slf [],.int .i64 0]):=by kernel_rfl
theorem ag40:tAg prog 40=some (false,1):=by kernel_rfl
theorem sl40:tSl prog 40=some (42,5,64):=by kernel_rfl
theorem ar40:tAr prog 40=none:=by kernel_rfl
theorem z40:tZ prog 40=some (.one (.slf [])):=by kernel_rfl
theorem ag42:tAg prog 42=some (true,5):=by kernel_rfl
theorem pl42:tPl prog 42=some (fun k=>[(0,1),(1,1),(2,1),(3,1),(4,1)][k]?):=by kernel_rfl
theorem ymw:tFd prog 42 0=some (0,false,1):=by kernel_rfl
theorem ymv:tFd prog 42 1=some (1,false,1):=by kernel_rfl
theorem ymu:tFd prog 42 2=some (2,false,1):=by kernel_rfl
theorem ymt:tFd prog 42 3=some (3,false,1):=by kernel_rfl
theorem yms:tFd prog 42 4=some (4,false,1):=by kernel_rfl
theorem z42:tZ prog 42=some (.agg [.int .i64 0,.int .i64 0,.int .i64 0,.str [],.slf []]):=by kernel_rfl
theorem ag54:tAg prog 54=some (false,1):=by kernel_rfl
theorem z54:tZ prog 54=some (.one (.nilfn)):=by kernel_rfl
theorem ag58:tAg prog 58=some (true,12):=by kernel_rfl
theorem pl58:tPl prog 58=some (fun k=>some (k*6,6)):=by kernel_rfl
theorem ar58:tAr prog 58=some (2,39,6):=by kernel_rfl
theorem z58:tZ prog 58=some (.agg [.slf [],.slf [],.slf [],.slf [],.slf [],.int .i64 0,.slf [],.slf [],.slf [],.slf [],.slf [],.int .i64 0]):=by kernel_rfl
theorem ag64:tAg prog 64=some (true,3):=by kernel_rfl
theorem pl64:tPl prog 64=some (fun k=>[(0,1),(1,1),(2,1)][k]?):=by kernel_rfl
theorem ymr:tFd prog 64 0=some (0,false,1):=by kernel_rfl
theorem ymq:tFd prog 64 1=some (1,false,1):=by kernel_rfl
theorem ymp:tFd prog 64 2=some (2,false,1):=by kernel_rfl
theorem z64:tZ prog 64=some (.agg [.int .i64 0,.int .i64 0,.int .i64 0]):=by kernel_rfl
theorem ag66:tAg prog 66=some (true,7):=by kernel_rfl
theorem pl66:tPl prog 66=some (fun k=>[(0,1),(1,3),(4,1),(5,1),(6,1)][k]?):=by kernel_rfl
theorem ymo:tFd prog 66 0=some (0,false,1):=by kernel_rfl
theorem ymn:tFd prog 66 1=some (1,true,3):=by kernel_rfl
theorem ymm:tFd prog 66 2=some (4,false,1):=by kernel_rfl
theorem yml:tFd prog 66 3=some (5,false,1):=by kernel_rfl
theorem ymk:tFd prog 66 4=some (6,false,1):=by kernel_rfl
theorem z66:tZ prog 66=some (.agg [.str [],.int .i64 0,.int .i64 0,.int .i64 0,.int .i64 0,.int .i64 0,.int .i64 0]):=by kernel_rfl
theorem ag69:tAg prog 69=some (true,3):=by kernel_rfl
theorem pl69:tPl prog 69=some (fun k=>[(0,1),(1,1),(2,1)][k]?):=by kernel_rfl
theorem ymj:tFd prog 69 0=some (0,false,1):=by kernel_rfl
theorem ymi:tFd prog 69 1=some (1,false,1):=by kernel_rfl
theorem ymh:tFd prog 69 2=some (2,false,1):=by kernel_rfl
theorem z69:tZ prog 69=some (.agg [.str [],.str [],.int .i64 0]):=by kernel_rfl
theorem ag71:tAg prog 71=some (true,4):=by kernel_rfl
theorem pl71:tPl prog 71=some (fun k=>some (k*1,1)):=by kernel_rfl
theorem ar71:tAr prog 71=some (4,3,1):=by kernel_rfl
theorem z71:tZ prog 71=some (.agg [.int .i64 0,.int .i64 0,.int .i64 0,.int .i64 0]):=by kernel_rfl
theorem ag74:tAg prog 74=some (false,1):=by kernel_rfl
theorem sl74:tSl prog 74=some (76,15,224):=by kernel_rfl
theorem ar74:tAr prog 74=none:=by kernel_rfl
theorem z74:tZ prog 74=some (.one (.slf [])):=by kernel_rfl
theorem ag76:tAg prog 76=some (true,15):=by kernel_rfl
theorem pl76:tPl prog 76=some (fun k=>[(0,1),(1,1),(2,5),(7,5),(12,1),(13,1),(14,1)][k]?):=by kernel_rfl
theorem ymg:tFd prog 76 0=some (0,false,1):=by kernel_rfl
theorem ymf:tFd prog 76 1=some (1,false,1):=by kernel_rfl
theorem yme:tFd prog 76 2=some (2,true,5):=by kernel_rfl
theorem ymd:tFd prog 76 3=some (7,true,5):=by kernel_rfl
theorem ymc:tFd prog 76 4=some (12,false,1):=by kernel_rfl
theorem ymb:tFd prog 76 5=some (13,false,1):=by kernel_rfl
theorem yma:tFd prog 76 6=some (14,false,1):=by kernel_rfl
theorem z76:tZ prog 76=some (.agg [.int .i64 0,.str [],.int .i64 0,.int .i64 0,.int .i64 0,.str [],.slf [],.int .i64 0,.int .i64 0,.int .i64 0,.str [],.slf [],.slf [],.slf [],.slf []]):=by kernel_rfl
theorem ag78:tAg prog 78=some (true,4):=by kernel_rfl
theorem pl78:tPl prog 78=some (fun k=>[(0,1),(1,1),(2,1),(3,1)][k]?):=by kernel_rfl
theorem yl9:tFd prog 78 0=some (0,false,1):=by kernel_rfl
theorem yl8:tFd prog 78 1=some (1,false,1):=by kernel_rfl
theorem yl7:tFd prog 78 2=some (2,false,1):=by kernel_rfl
theorem yl6:tFd prog 78 3=some (3,false,1):=by kernel_rfl
theorem z78:tZ prog 78=some (.agg [.int .i64 0,.int .i64 0,.slf [],.slf []]):=by kernel_rfl
theorem ag84:tAg prog 84=some (false,1):=by kernel_rfl
theorem z84:tZ prog 84=some (.one (.nilp)):=by kernel_rfl
theorem ag86:tAg prog 86=some (false,1):=by kernel_rfl
theorem z86:tZ prog 86=some (.one (.nilp)):=by kernel_rfl
theorem ysh:tAg prog 102=some (false,1):=by kernel_rfl
theorem ypb:tSl prog 102=some (4,1,1):=by kernel_rfl
theorem yrq:tAr prog 102=none:=by kernel_rfl
theorem z102:tZ prog 102=some (.one (.slf [])):=by kernel_rfl
theorem ysg:tAg prog 103=some (true,2):=by kernel_rfl
theorem yqe:tPl prog 103=some (fun k=>some (k*1,1)):=by kernel_rfl
theorem yrp:tAr prog 103=some (2,3,1):=by kernel_rfl
theorem z103:tZ prog 103=some (.agg [.int .i64 0,.int .i64 0]):=by kernel_rfl
theorem ysf:tAg prog 111=some (true,2):=by kernel_rfl
theorem yqd:tPl prog 111=some (fun k=>[(0,1),(1,1)][k]?):=by kernel_rfl
theorem yit:tFd prog 111 0=some (0,false,1):=by kernel_rfl
theorem yis:tFd prog 111 1=some (1,false,1):=by kernel_rfl
theorem z111:tZ prog 111=some (.agg [.int .i64 0,.int .i64 0]):=by kernel_rfl
theorem yse:tAg prog 113=some (true,8):=by kernel_rfl
theorem yqc:tPl prog 113=some (fun k=>[(0,1),(1,6),(7,1)][k]?):=by kernel_rfl
theorem yir:tFd prog 113 0=some (0,false,1):=by kernel_rfl
theorem yiq:tFd prog 113 1=some (1,true,6):=by kernel_rfl
theorem yip:tFd prog 113 2=some (7,false,1):=by kernel_rfl
theorem z113:tZ prog 113=some (.agg [.nilp,.slf [],.slf [],.slf [],.slf [],.slf [],.slf [],.slf []]):=by kernel_rfl
theorem ysd:tAg prog 129=some (true,3):=by kernel_rfl
theorem yqb:tPl prog 129=some (fun k=>[(0,1),(1,1),(2,1)][k]?):=by kernel_rfl
theorem yio:tFd prog 129 0=some (0,false,1):=by kernel_rfl
theorem yin:tFd prog 129 1=some (1,false,1):=by kernel_rfl
theorem yim:tFd prog 129 2=some (2,false,1):=by kernel_rfl
theorem z129:tZ prog 129=some (.agg [.str [],.int .i64 0,.int .i64 0]):=by kernel_rfl
theorem ysc:tAg prog 135=some (false,1):=by kernel_rfl
theorem z135:tZ prog 135=some (.one (.nilfn)):=by kernel_rfl
theorem ysb:tAg prog 138=some (false,1):=by kernel_rfl
theorem z138:tZ prog 138=some (.one (.nilfn)):=by kernel_rfl
theorem ysa:tAg prog 139=some (false,1):=by kernel_rfl
theorem z139:tZ prog 139=some (.one (.nilfn)):=by kernel_rfl
theorem yr9:tAg prog 141=some (true,3):=by kernel_rfl
theorem yqa:tPl prog 141=some (fun k=>[(0,1),(1,1),(2,1)][k]?):=by kernel_rfl
theorem yil:tFd prog 141 0=some (0,false,1):=by kernel_rfl
theorem yik:tFd prog 141 1=some (1,false,1):=by kernel_rfl
theorem yij:tFd prog 141 2=some (2,false,1):=by kernel_rfl
theorem z141:tZ prog 141=some (.agg [.slf [],.slf [],.nilfn]):=by kernel_rfl
theorem yr8:tAg prog 144=some (true,3):=by kernel_rfl
theorem yp9:tPl prog 144=some (fun k=>some (k*1,1)):=by kernel_rfl
theorem yro:tAr prog 144=some (3,3,1):=by kernel_rfl
theorem z144:tZ prog 144=some (.agg [.int .i64 0,.int .i64 0,.int .i64 0]):=by kernel_rfl
theorem yr7:tAg prog 146=some (false,1):=by kernel_rfl
theorem z146:tZ prog 146=some (.one (.nilfn)):=by kernel_rfl
theorem yr6:tAg prog 159=some (false,1):=by kernel_rfl
theorem z159:tZ prog 159=some (.one (.nilfn)):=by kernel_rfl
theorem yr5:tAg prog 160=some (false,1):=by kernel_rfl
theorem yoj:tK prog 160=some .i64:=by kernel_rfl
theorem z160:tZ prog 160=some (.one (.int .i64 0)):=by kernel_rfl
theorem yoc:(prog.underlying 160).isSome=true:=by kernel_rfl
theorem yr4:tAg prog 163=some (false,1):=by kernel_rfl
theorem z163:tZ prog 163=some (.one (.nilfn)):=by kernel_rfl
theorem yr3:tAg prog 167=some (false,1):=by kernel_rfl
theorem z167:tZ prog 167=some (.one (.nilfn)):=by kernel_rfl
theorem yr2:tAg prog 170=some (true,1):=by kernel_rfl
theorem yp8:tPl prog 170=some (fun k=>[(0,1)][k]?):=by kernel_rfl
theorem yii:tFd prog 170 0=some (0,false,1):=by kernel_rfl
theorem z170:tZ prog 170=some (.agg [.int .i64 0]):=by kernel_rfl
theorem yr1:tAg prog 172=some (true,7):=by kernel_rfl
theorem yp7:tPl prog 172=some (fun k=>[(0,7)][k]?):=by kernel_rfl
theorem yih:tFd prog 172 0=some (0,true,7):=by kernel_rfl
theorem z172:tZ prog 172=some (.agg [.str [],.int .i64 0,.int .i64 0,.int .i64 0,.int .i64 0,.int .i64 0,.int .i64 0]):=by kernel_rfl
theorem yr0:tAg prog 173=some (true,7):=by kernel_rfl
theorem yp6:tPl prog 173=some (fun k=>[(0,7)][k]?):=by kernel_rfl
theorem yig:tFd prog 173 0=some (0,true,7):=by kernel_rfl
theorem z173:tZ prog 173=some (.agg [.str [],.int .i64 0,.int .i64 0,.int .i64 0,.int .i64 0,.int .i64 0,.int .i64 0]):=by kernel_rfl
theorem yrz:tAg prog 175=some (true,4):=by kernel_rfl
theorem yp5:tPl prog 175=some (fun k=>[(0,3),(3,1)][k]?):=by kernel_rfl
theorem yif:tFd prog 175 0=some (0,true,3):=by kernel_rfl
theorem yie:tFd prog 175 1=some (3,false,1):=by kernel_rfl
theorem z175:tZ prog 175=some (.agg [.str [],.str [],.int .i64 0,.int .i64 0]):=by kernel_rfl
theorem yry:tAg prog 177=some (true,1):=by kernel_rfl
theorem yp4:tPl prog 177=some (fun k=>[(0,1)][k]?):=by kernel_rfl
theorem yid:tFd prog 177 0=some (0,false,1):=by kernel_rfl
theorem z177:tZ prog 177=some (.agg [.bool false]):=by kernel_rfl
theorem yrx:tAg prog 179=some (true,1):=by kernel_rfl
theorem yp3:tPl prog 179=some (fun k=>[(0,1)][k]?):=by kernel_rfl
theorem yic:tFd prog 179 0=some (0,false,1):=by kernel_rfl
theorem z179:tZ prog 179=some (.agg [.int .i64 0]):=by kernel_rfl
theorem yrw:tAg prog 181=some (false,1):=by kernel_rfl
theorem z181:tZ prog 181=some (.one (.nilfn)):=by kernel_rfl
theorem yrv:tAg prog 199=some (true,6):=by kernel_rfl
theorem yp2:tPl prog 199=some (fun k=>[(0,6)][k]?):=by kernel_rfl
theorem yib:tFd prog 199 0=some (0,true,6):=by kernel_rfl
theorem z199:tZ prog 199=some (.agg [.slf [],.slf [],.slf [],.slf [],.slf [],.slf []]):=by kernel_rfl
theorem yru:tAg prog 201=some (false,1):=by kernel_rfl
theorem z201:tZ prog 201=some (.one (.nilfn)):=by kernel_rfl
theorem yrt:tAg prog 214=some (false,1):=by kernel_rfl
theorem yoi:tK prog 214=some .u64:=by kernel_rfl
theorem z214:tZ prog 214=some (.one (.int .u64 0)):=by kernel_rfl
theorem yob:(prog.underlying 214).isSome=true:=by kernel_rfl
theorem yrs:tAg prog 219=some (false,1):=by kernel_rfl
theorem ypa:tSl prog 219=some (5,1,1):=by kernel_rfl
theorem yrn:tAr prog 219=none:=by kernel_rfl
theorem z219:tZ prog 219=some (.one (.slf [])):=by kernel_rfl
theorem yod:prog.underlying 219=some (.slice 5):=by kernel_rfl
attribute [go_sem] lr9 vw9 rn9 rf9 yqo yn8 ypo ypr yqm yn6 ypm ypp lr66 vw66 rn66 rf66 lr69 vw69 rn69 rf69 lr78 vw78 rn78 rf78 lr36 vw36 rn36 rf36 lr71 vw71 rn71 rf71 lr3 vw3 rn3 rf3 yqn yn7 ypn ypq lr42 vw42 rn42 rf42 lr76 vw76 rn76 rf76 lr4 vw4 rn4 rf4 lr5 vw5 rn5 rf5 yrh yqr yrg yqq yrf yqp ynf yll yne ylk ynd ylj ag3 tk3 z3 un3 ag4 tb4 z4 ag5 tk5 z5 un5 ud5 ag9 ts9 z9 ud9 ag20 ag22 sl22 ar22 z22 ag23 sl23 ar23 z23 ag25 pl25 yna ym9 z25 ag26 sl26 ar26 z26 ag27 sl27 ar27 z27 ag28 sl28 ar28 z28 ag29 sl29 ar29 z29 ag31 pl31 ym8 ym7 ym6 ym5 ym4 z31 ag32 sl32 ar32 z32 ag33 sl33 ar33 z33 ag35 pl35 ym3 ym2 z35 ag36 sl36 ar36 z36 ag37 sl37 ar37 z37 ag39 pl39 ym1 ym0 ymz ymy ymx z39 ag40 sl40 ar40 z40 ag42 pl42 ymw ymv ymu ymt yms z42 ag54 z54 ag58 pl58 ar58 z58 ag64 pl64 ymr ymq ymp z64 ag66 pl66 ymo ymn ymm yml ymk z66 ag69 pl69 ymj ymi ymh z69 ag71 pl71 ar71 z71 ag74 sl74 ar74 z74 ag76 pl76 ymg ymf yme ymd ymc ymb yma z76 ag78 pl78 yl9 yl8 yl7 yl6 z78 ag84 z84 ag86 z86 ysh ypb yrq z102 ysg yqe yrp z103 ysf yqd yit yis z111 yse yqc yir yiq yip z113 ysd yqb yio yin yim z129 ysc z135 ysb z138 ysa z139 yr9 yqa yil yik yij z141 yr8 yp9 yro z144 yr7 z146 yr6 z159 yr5 yoj z160 yoc yr4 z163 yr3 z167 yr2 yp8 yii z170 yr1 yp7 yih z172 yr0 yp6 yig z173 yrz yp5 yif yie z175 yry yp4 yid z177 yrx yp3 yic z179 yrw z181 yrv yp2 yib z199 yru z201 yrt yoi z214 yob yrs ypa yrn z219 yod
theorem mo:prog.follows .mixedOrders=true:=rfl
abbrev eQ_ (l:xsn):List C:=[.sl (l.Names.map eS),.sl (l.Below.map (eA2 eI))]
abbrev eP_ (p:xsj):List C:=[.sl (p.Lattice.Names.map eS),.sl (p.Lattice.Below.map (eA2 eI)),.sl (p.Sites.map xsr),.sl (p.Vars.map xst),.sl (p.Blocks.map xsu),.sl (p.Tasks.map xsv)]
attribute [go_sem] eQ_ eP_
end Go.Lz

end
