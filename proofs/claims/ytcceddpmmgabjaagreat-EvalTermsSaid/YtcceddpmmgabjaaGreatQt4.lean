/- The parts of a proof: SD -/
import Derived.Test.YtcceddpmmgabjaaGreatQt3
import Derived.Test.YtcceddpmmgabjaaGreatProg
import Derived.KernelRfl
set_option linter.unusedVariables false
set_option linter.unusedSimpArgs false
open Go.Proofs.Tryz
section
namespace Go.Lz
open Go.Proofs
structure A2 (α:Type)where
 a0:α
 a1:α
 deriving DecidableEq
def eA2 {α:Type} (f:α->List C) (x:A2 α):List C:=f x.a0++f x.a1
theorem z6g {α:Type} {f:α->List C} {x:A2 α}:eA2 f x=f x.a0++f x.a1:=of_eq_true (eq_self _)
theorem Flat.A2 {α:Type} {f:α->List C} (h:Flat f):Flat (eA2 f):=fun m x=>by
 rw[z6g];simp[z0n,h m]
attribute [go_sem] z6g
structure A3 (α:Type)where
 a0:α
 a1:α
 a2:α
 deriving DecidableEq
def eA3 {α:Type} (f:α->List C) (x:A3 α):List C:=f x.a0++f x.a1++f x.a2
theorem z6f {α:Type} {f:α->List C} {x:A3 α}:eA3 f x=f x.a0++f x.a1++f x.a2:=of_eq_true (eq_self _)
theorem Flat.A3 {α:Type} {f:α->List C} (h:Flat f):Flat (eA3 f):=fun m x=>by
 rw[z6f];simp[z0n,h m]
attribute [go_sem] z6f
structure A4 (α:Type)where
 a0:α
 a1:α
 a2:α
 a3:α
 deriving DecidableEq
def eA4 {α:Type} (f:α->List C) (x:A4 α):List C:=f x.a0++f x.a1++f x.a2++f x.a3
theorem z6e {α:Type} {f:α->List C} {x:A4 α}:eA4 f x=f x.a0++f x.a1++f x.a2++f x.a3:=of_eq_true (eq_self _)
theorem Flat.A4 {α:Type} {f:α->List C} (h:Flat f):Flat (eA4 f):=fun m x=>by
 rw[z6e];simp[z0n,h m]
attribute [go_sem] z6e
structure xtq where
 Names:List Str
 Below:List (A2 Int)
def xt5 (x:xtq):List C:=[.sl (x.Names.map eS),.sl (x.Below.map (eA2 eI))]
theorem xud {x:xtq}:xt5 x=[.sl (x.Names.map eS),.sl (x.Below.map (eA2 eI))]:=of_eq_true (eq_self _)
theorem Flat.xtq:Flat xt5:=fun m x=>by
 rw[xud];simp[zem,C.lt,zsa,zam Flat.S,zam (Flat.A2 (Flat.K .i64))]
attribute [go_sem] xud
structure xt2 where
 Name:Str
 From:Int
 To:Int
def xtw (x:xt2):List C:=[.str x.Name,.int .i64 x.From,.int .i64 x.To]
theorem xue {x:xt2}:xtw x=[.str x.Name,.int .i64 x.From,.int .i64 x.To]:=of_eq_true (eq_self _)
theorem Flat.xt2:Flat xtw:=fun m x=>by
 rw[xue];simp[zem,C.lt,zsa]
attribute [go_sem] xue
structure xt3 where
 Kind:Int
 Low:Int
 Len:Int
def xt7 (x:xt3):List C:=[.int .i64 x.Kind,.int .i64 x.Low,.int .i64 x.Len]
theorem xuf {x:xt3}:xt7 x=[.int .i64 x.Kind,.int .i64 x.Low,.int .i64 x.Len]:=of_eq_true (eq_self _)
theorem Flat.xt3:Flat xt7:=fun m x=>by
 rw[xuf];simp[zem,C.lt,zsa]
attribute [go_sem] xuf
structure xtv where
 Name:Str
 Type_:xt3
 Mode:Int
 Label:Int
 Safe:Int
def xtx (x:xtv):List C:=[.str x.Name,.int .i64 x.Type_.Kind,.int .i64 x.Type_.Low,.int .i64 x.Type_.Len,.int .i64 x.Mode,.int .i64 x.Label,.int .i64 x.Safe]
theorem xug {x:xtv}:xtx x=[.str x.Name,.int .i64 x.Type_.Kind,.int .i64 x.Type_.Low,.int .i64 x.Type_.Len,.int .i64 x.Mode,.int .i64 x.Label,.int .i64 x.Safe]:=of_eq_true (eq_self _)
theorem Flat.xtv:Flat xtx:=fun m x=>by
 rw[xug];simp[zem,C.lt,zsa]
attribute [go_sem] xug
structure xt1 where
 Name:Str
 Kind:Str
 Label:Int
def xty (x:xt1):List C:=[.str x.Name,.str x.Kind,.int .i64 x.Label]
theorem xuh {x:xt1}:xty x=[.str x.Name,.str x.Kind,.int .i64 x.Label]:=of_eq_true (eq_self _)
theorem Flat.xt1:Flat xty:=fun m x=>by
 rw[xuh];simp[zem,C.lt,zsa]
attribute [go_sem] xuh
structure xtn where
 Op:Int
 N:Int
 Kind:Int
 Name:Str
 Args:List xtn
mutual
def xto:xtn->List C
 |⟨Op,N,Kind,Name,Args⟩=>[.int .i64 Op,.int .i64 N,.int .i64 Kind,.str Name,.sl (znp Args)]
def znp:List xtn->List (List C)
 |[]=>[]
 |x::xs=>xto x::znp xs
end
theorem zwk:∀(xs:List xtn),znp xs=xs.map xto
 |[]=>rfl
 |x::xs=>by rw[znp,zwk xs];rfl
theorem xui {x:xtn}:xto x=[.int .i64 x.Op,.int .i64 x.N,.int .i64 x.Kind,.str x.Name,.sl (x.Args.map xto)]:=by
 cases x;simp only[xto,zwk]
mutual
theorem Flat.xut (m:Nat):∀(x:xtn),zem m (xto x)=true
 |⟨Op,N,Kind,Name,Args⟩=>by
  rw[xto];simp[zem,C.lt,Flat.xuu m Args]
theorem Flat.xuu (m:Nat):∀(xs:List xtn),zcn m (znp xs)=true
 |[]=>rfl
 |x::xs=>by rw[znp,zcn,Flat.xut m x,Flat.xuu m xs];rfl
end
theorem Flat.xtn:Flat xto:=fun m x=>Flat.xut m x
attribute [go_sem] xui
structure xtp where
 Kind:Int
 Name:Str
 Target:xtn
 Value:xtn
 Args:List xtn
 Body:List xtp
 Else:List xtp
mutual
def xts:xtp->List C
 |⟨Kind,Name,Target,Value,Args,Body,Else⟩=>[.int .i64 Kind,.str Name,.int .i64 Target.Op,.int .i64 Target.N,.int .i64 Target.Kind,.str Target.Name,.sl (Target.Args.map xto),.int .i64 Value.Op,.int .i64 Value.N,.int .i64 Value.Kind,.str Value.Name,.sl (Value.Args.map xto),.sl (Args.map xto),.sl (zl1 Body),.sl (zl1 Else)]
def zl1:List xtp->List (List C)
 |[]=>[]
 |x::xs=>xts x::zl1 xs
end
theorem zwj:∀(xs:List xtp),zl1 xs=xs.map xts
 |[]=>rfl
 |x::xs=>by rw[zl1,zwj xs];rfl
theorem xuv {x:xtp}:xts x=[.int .i64 x.Kind,.str x.Name,.int .i64 x.Target.Op,.int .i64 x.Target.N,.int .i64 x.Target.Kind,.str x.Target.Name,.sl (x.Target.Args.map xto),.int .i64 x.Value.Op,.int .i64 x.Value.N,.int .i64 x.Value.Kind,.str x.Value.Name,.sl (x.Value.Args.map xto),.sl (x.Args.map xto),.sl (x.Body.map xts),.sl (x.Else.map xts)]:=by
 cases x;simp only[xts,zwj]
mutual
theorem Flat.xuw (m:Nat):∀(x:xtp),zem m (xts x)=true
 |⟨Kind,Name,Target,Value,Args,Body,Else⟩=>by
  rw[xts];simp[zem,C.lt,zam Flat.xtn,zam Flat.xtn,zam Flat.xtn,Flat.xuj m Body,Flat.xuj m Else]
theorem Flat.xuj (m:Nat):∀(xs:List xtp),zcn m (zl1 xs)=true
 |[]=>rfl
 |x::xs=>by rw[zl1,zcn,Flat.xuw m x,Flat.xuj m xs];rfl
end
theorem Flat.xtp:Flat xts:=fun m x=>Flat.xuw m x
attribute [go_sem] xuv
structure xt4 where
 Every:Int
 Priority:Int
 Budget:List Int
 Body:List xtp
def xt0 (x:xt4):List C:=[.int .i64 x.Every,.int .i64 x.Priority,.sl (x.Budget.map eI),.sl (x.Body.map xts)]
theorem xuk {x:xt4}:xt0 x=[.int .i64 x.Every,.int .i64 x.Priority,.sl (x.Budget.map eI),.sl (x.Body.map xts)]:=of_eq_true (eq_self _)
theorem Flat.xt4:Flat xt0:=fun m x=>by
 rw[xuk];simp[zem,C.lt,zsa,zam (Flat.K .i64),zam Flat.xtp]
attribute [go_sem] xuk
structure xtm where
 Lattice:xtq
 Sites:List xt2
 Vars:List xtv
 Blocks:List xt1
 Tasks:List xt4
def xtr (x:xtm):List C:=[.sl (x.Lattice.Names.map eS),.sl (x.Lattice.Below.map (eA2 eI)),.sl (x.Sites.map xtw),.sl (x.Vars.map xtx),.sl (x.Blocks.map xty),.sl (x.Tasks.map xt0)]
theorem xuc {x:xtm}:xtr x=[.sl (x.Lattice.Names.map eS),.sl (x.Lattice.Below.map (eA2 eI)),.sl (x.Sites.map xtw),.sl (x.Vars.map xtx),.sl (x.Blocks.map xty),.sl (x.Tasks.map xt0)]:=of_eq_true (eq_self _)
theorem Flat.xtm:Flat xtr:=fun m x=>by
 rw[xuc];simp[zem,C.lt,zsa,zam Flat.S,zam (Flat.A2 (Flat.K .i64)),zam Flat.xt2,zam Flat.xtv,zam Flat.xt1,zam Flat.xt4]
attribute [go_sem] xuc
structure xt6 where
 Cells:List (List Int)
 Blocks:List (A4 Int)
def xub (x:xt6):List C:=[.sl (x.Cells.map (eL eI)),.sl (x.Blocks.map (eA4 eI))]
theorem xul {x:xt6}:xub x=[.sl (x.Cells.map (eL eI)),.sl (x.Blocks.map (eA4 eI))]:=of_eq_true (eq_self _)
theorem Flat.xt6:Flat xub:=fun m x=>by
 rw[xul];simp[zem,C.lt,zsa,zam (Flat.L (Flat.K .i64)),zam (Flat.A4 (Flat.K .i64))]
attribute [go_sem] xul
structure xtz where
 Site:Int
 Value:Int
def xtu (x:xtz):List C:=[.int .i64 x.Site,.int .i64 x.Value]
theorem xum {x:xtz}:xtu x=[.int .i64 x.Site,.int .i64 x.Value]:=of_eq_true (eq_self _)
theorem Flat.xtz:Flat xtu:=fun m x=>by
 rw[xum];simp[zem,C.lt,zsa]
attribute [go_sem] xum
structure xtt where
 Memory:xt6
 Left:List Int
 Latches:List Int
 Events:List xtz
 Now:Int
def xt9 (x:xtt):List C:=[.sl (x.Memory.Cells.map (eL eI)),.sl (x.Memory.Blocks.map (eA4 eI)),.sl (x.Left.map eI),.sl (x.Latches.map eI),.sl (x.Events.map xtu),.int .i64 x.Now]
theorem xun {x:xtt}:xt9 x=[.sl (x.Memory.Cells.map (eL eI)),.sl (x.Memory.Blocks.map (eA4 eI)),.sl (x.Left.map eI),.sl (x.Latches.map eI),.sl (x.Events.map xtu),.int .i64 x.Now]:=of_eq_true (eq_self _)
theorem Flat.xtt:Flat xt9:=fun m x=>by
 rw[xun];simp[zem,C.lt,zsa,zam (Flat.L (Flat.K .i64)),zam (Flat.A4 (Flat.K .i64)),zam (Flat.K .i64),zam (Flat.K .i64),zam Flat.xtz]
attribute [go_sem] xun
structure blocks_kind where
 in_:List Int
 out:List Int
 step:Option Nat
def zo0 (x:blocks_kind):List C:=[.sl (x.in_.map eI),.sl (x.out.map eI),eF x.step]
theorem znq {x:blocks_kind}:zo0 x=[.sl (x.in_.map eI),.sl (x.out.map eI),eF x.step]:=of_eq_true (eq_self _)
theorem Flat.blocks_kind:Flat zo0:=fun m x=>by
 rw[znq];simp[zem,C.lt,zsa,zam (Flat.K .i64),zam (Flat.K .i64)]
attribute [go_sem] znq
structure typing_value where
 kind:Int
def zqt (x:typing_value):List C:=[.int .i64 x.kind]
theorem zm4 {x:typing_value}:zqt x=[.int .i64 x.kind]:=of_eq_true (eq_self _)
theorem Flat.typing_value:Flat zqt:=fun m x=>by
 rw[zm4];simp[zem,C.lt,zsa]
attribute [go_sem] zm4
structure typing_scalar where
 v:xtv
def zpl (x:typing_scalar):List C:=[.str x.v.Name,.int .i64 x.v.Type_.Kind,.int .i64 x.v.Type_.Low,.int .i64 x.v.Type_.Len,.int .i64 x.v.Mode,.int .i64 x.v.Label,.int .i64 x.v.Safe]
theorem zl2 {x:typing_scalar}:zpl x=[.str x.v.Name,.int .i64 x.v.Type_.Kind,.int .i64 x.v.Type_.Low,.int .i64 x.v.Type_.Len,.int .i64 x.v.Mode,.int .i64 x.v.Label,.int .i64 x.v.Safe]:=of_eq_true (eq_self _)
theorem Flat.typing_scalar:Flat zpl:=fun m x=>by
 rw[zl2];simp[zem,C.lt,zsa]
attribute [go_sem] zl2
structure typing_array where
 v:xtv
def zqu (x:typing_array):List C:=[.str x.v.Name,.int .i64 x.v.Type_.Kind,.int .i64 x.v.Type_.Low,.int .i64 x.v.Type_.Len,.int .i64 x.v.Mode,.int .i64 x.v.Label,.int .i64 x.v.Safe]
theorem zm5 {x:typing_array}:zqu x=[.str x.v.Name,.int .i64 x.v.Type_.Kind,.int .i64 x.v.Type_.Low,.int .i64 x.v.Type_.Len,.int .i64 x.v.Mode,.int .i64 x.v.Label,.int .i64 x.v.Safe]:=of_eq_true (eq_self _)
theorem Flat.typing_array:Flat zqu:=fun m x=>by
 rw[zm5];simp[zem,C.lt,zsa]
attribute [go_sem] zm5
structure typing_output where
 b:xt1
 n:Int
def zpn (x:typing_output):List C:=[.str x.b.Name,.str x.b.Kind,.int .i64 x.b.Label,.int .i64 x.n]
theorem zl4 {x:typing_output}:zpn x=[.str x.b.Name,.str x.b.Kind,.int .i64 x.b.Label,.int .i64 x.n]:=of_eq_true (eq_self _)
theorem Flat.typing_output:Flat zpn:=fun m x=>by
 rw[zl4];simp[zem,C.lt,zsa]
attribute [go_sem] zl4
structure typing_release where
 ok:Bool
def zoj (x:typing_release):List C:=[.bool x.ok]
theorem zlm {x:typing_release}:zoj x=[.bool x.ok]:=of_eq_true (eq_self _)
theorem Flat.typing_release:Flat zoj:=fun m x=>by
 rw[zlm];simp[zem,C.lt,zsa]
attribute [go_sem] zlm
structure typing_result where
 op:Int
def zpm (x:typing_result):List C:=[.int .i64 x.op]
theorem zl3 {x:typing_result}:zpm x=[.int .i64 x.op]:=of_eq_true (eq_self _)
theorem Flat.typing_result:Flat zpm:=fun m x=>by
 rw[zl3];simp[zem,C.lt,zsa]
attribute [go_sem] zl3
structure flow_desk where
 p:xtm
def zaq (x:flow_desk):List C:=[.sl (x.p.Lattice.Names.map eS),.sl (x.p.Lattice.Below.map (eA2 eI)),.sl (x.p.Sites.map xtw),.sl (x.p.Vars.map xtx),.sl (x.p.Blocks.map xty),.sl (x.p.Tasks.map xt0)]
theorem zpo {x:flow_desk}:zaq x=[.sl (x.p.Lattice.Names.map eS),.sl (x.p.Lattice.Below.map (eA2 eI)),.sl (x.p.Sites.map xtw),.sl (x.p.Vars.map xtx),.sl (x.p.Blocks.map xty),.sl (x.p.Tasks.map xt0)]:=of_eq_true (eq_self _)
theorem Flat.flow_desk:Flat zaq:=fun m x=>by
 rw[zpo];simp[zem,C.lt,zsa,zam Flat.S,zam (Flat.A2 (Flat.K .i64)),zam Flat.xt2,zam Flat.xtv,zam Flat.xt1,zam Flat.xt4]
attribute [go_sem] zpo
theorem Plain.A2 {α:Type} {f:α->List C} (h:Plain f):Plain (eA2 f):=fun H k x=>by
 rw[z6g];simp[h H k]
theorem Plain.A3 {α:Type} {f:α->List C} (h:Plain f):Plain (eA3 f):=fun H k x=>by
 rw[z6f];simp[h H k]
theorem Plain.A4 {α:Type} {f:α->List C} (h:Plain f):Plain (eA4 f):=fun H k x=>by
 rw[z6e];simp[h H k]
theorem Plain.xtq:Plain xt5:=fun H k x=>by rw[xud];simp[zle,zip,zld,zpu,zp6]
theorem Plain.xt2:Plain xtw:=fun H k x=>by rw[xue];simp[zle,zip,zld,zpu,zp6]
theorem Plain.xt3:Plain xt7:=fun H k x=>by rw[xuf];simp[zle,zip,zld,zpu,zp6]
theorem Plain.xtv:Plain xtx:=fun H k x=>by rw[xug];simp[zle,zip,zld,zpu,zp6]
theorem Plain.xt1:Plain xty:=fun H k x=>by rw[xuh];simp[zle,zip,zld,zpu,zp6]
theorem Plain.xtn:Plain xto:=fun H k x=>by rw[xui];simp[zle,zip,zld,zpu,zp6]
theorem Plain.xtp:Plain xts:=fun H k x=>by rw[xuv];simp[zle,zip,zld,zpu,zp6]
theorem Plain.xt4:Plain xt0:=fun H k x=>by rw[xuk];simp[zle,zip,zld,zpu,zp6]
theorem Plain.xtm:Plain xtr:=fun H k x=>by rw[xuc];simp[zle,zip,zld,zpu,zp6]
theorem Plain.xt6:Plain xub:=fun H k x=>by rw[xul];simp[zle,zip,zld,zpu,zp6]
theorem Plain.xtz:Plain xtu:=fun H k x=>by rw[xum];simp[zle,zip,zld,zpu,zp6]
theorem Plain.xtt:Plain xt9:=fun H k x=>by rw[xun];simp[zle,zip,zld,zpu,zp6]
theorem Plain.blocks_kind:Plain zo0:=fun H k x=>by rw[znq];simp[zle,zip,zld,zpu,zp6]
theorem Plain.typing_value:Plain zqt:=fun H k x=>by rw[zm4];simp[zle,zip,zld,zpu,zp6]
theorem Plain.typing_scalar:Plain zpl:=fun H k x=>by rw[zl2];simp[zle,zip,zld,zpu,zp6]
theorem Plain.typing_array:Plain zqu:=fun H k x=>by rw[zm5];simp[zle,zip,zld,zpu,zp6]
theorem Plain.typing_output:Plain zpn:=fun H k x=>by rw[zl4];simp[zle,zip,zld,zpu,zp6]
theorem Plain.typing_release:Plain zoj:=fun H k x=>by rw[zlm];simp[zle,zip,zld,zpu,zp6]
theorem Plain.typing_result:Plain zpm:=fun H k x=>by rw[zl3];simp[zle,zip,zld,zpu,zp6]
theorem Plain.flow_desk:Plain zaq:=fun H k x=>by rw[zpo];simp[zle,zip,zld,zpu,zp6]
theorem lr9 {m:Nat} {xs:List Str}:zcn m (xs.map eS)=true:=zam Flat.S m xs
theorem vw9 {H:List O} {k:Nat} {xs:List Str}:zbw H k (xs.map eS)=xs.map eS:=zb4 Plain.S H k xs
theorem rn9 {g:Nat->Nat} {xs:List Str}:zbd g (xs.map eS)=xs.map eS:=zxb Flat.S
theorem rf9 {p:Nat->Bool} {xs:List Str}:zay p (xs.map eS)=true:=zxc Flat.S
theorem yrt {m:Nat} {xs:List (A2 Int)}:zcn m (xs.map (eA2 eI))=true:=zam (Flat.A2 (Flat.K .i64)) m xs
theorem ype {H:List O} {k:Nat} {xs:List (A2 Int)}:zbw H k (xs.map (eA2 eI))=xs.map (eA2 eI):=zb4 (Plain.A2 (Plain.K .i64)) H k xs
theorem yqv {g:Nat->Nat} {xs:List (A2 Int)}:zbd g (xs.map (eA2 eI))=xs.map (eA2 eI):=zxb (Flat.A2 (Flat.K .i64))
theorem yqy {p:Nat->Bool} {xs:List (A2 Int)}:zay p (xs.map (eA2 eI))=true:=zxc (Flat.A2 (Flat.K .i64))
theorem yrr {m:Nat} {xs:List xt2}:zcn m (xs.map xtw)=true:=zam Flat.xt2 m xs
theorem ypc {H:List O} {k:Nat} {xs:List xt2}:zbw H k (xs.map xtw)=xs.map xtw:=zb4 Plain.xt2 H k xs
theorem yqt {g:Nat->Nat} {xs:List xt2}:zbd g (xs.map xtw)=xs.map xtw:=zxb Flat.xt2
theorem yqw {p:Nat->Bool} {xs:List xt2}:zay p (xs.map xtw)=true:=zxc Flat.xt2
theorem lr66 {m:Nat} {xs:List xtv}:zcn m (xs.map xtx)=true:=zam Flat.xtv m xs
theorem vw66 {H:List O} {k:Nat} {xs:List xtv}:zbw H k (xs.map xtx)=xs.map xtx:=zb4 Plain.xtv H k xs
theorem rn66 {g:Nat->Nat} {xs:List xtv}:zbd g (xs.map xtx)=xs.map xtx:=zxb Flat.xtv
theorem rf66 {p:Nat->Bool} {xs:List xtv}:zay p (xs.map xtx)=true:=zxc Flat.xtv
theorem lr69 {m:Nat} {xs:List xt1}:zcn m (xs.map xty)=true:=zam Flat.xt1 m xs
theorem vw69 {H:List O} {k:Nat} {xs:List xt1}:zbw H k (xs.map xty)=xs.map xty:=zb4 Plain.xt1 H k xs
theorem rn69 {g:Nat->Nat} {xs:List xt1}:zbd g (xs.map xty)=xs.map xty:=zxb Flat.xt1
theorem rf69 {p:Nat->Bool} {xs:List xt1}:zay p (xs.map xty)=true:=zxc Flat.xt1
theorem lr78 {m:Nat} {xs:List xt4}:zcn m (xs.map xt0)=true:=zam Flat.xt4 m xs
theorem vw78 {H:List O} {k:Nat} {xs:List xt4}:zbw H k (xs.map xt0)=xs.map xt0:=zb4 Plain.xt4 H k xs
theorem rn78 {g:Nat->Nat} {xs:List xt4}:zbd g (xs.map xt0)=xs.map xt0:=zxb Flat.xt4
theorem rf78 {p:Nat->Bool} {xs:List xt4}:zay p (xs.map xt0)=true:=zxc Flat.xt4
theorem lr36 {m:Nat} {xs:List (List Int)}:zcn m (xs.map (eL eI))=true:=zam (Flat.L (Flat.K .i64)) m xs
theorem vw36 {H:List O} {k:Nat} {xs:List (List Int)}:zbw H k (xs.map (eL eI))=xs.map (eL eI):=zb4 (Plain.L eI) H k xs
theorem rn36 {g:Nat->Nat} {xs:List (List Int)}:zbd g (xs.map (eL eI))=xs.map (eL eI):=zxb (Flat.L (Flat.K .i64))
theorem rf36 {p:Nat->Bool} {xs:List (List Int)}:zay p (xs.map (eL eI))=true:=zxc (Flat.L (Flat.K .i64))
theorem lr71 {m:Nat} {xs:List (A4 Int)}:zcn m (xs.map (eA4 eI))=true:=zam (Flat.A4 (Flat.K .i64)) m xs
theorem vw71 {H:List O} {k:Nat} {xs:List (A4 Int)}:zbw H k (xs.map (eA4 eI))=xs.map (eA4 eI):=zb4 (Plain.A4 (Plain.K .i64)) H k xs
theorem rn71 {g:Nat->Nat} {xs:List (A4 Int)}:zbd g (xs.map (eA4 eI))=xs.map (eA4 eI):=zxb (Flat.A4 (Flat.K .i64))
theorem rf71 {p:Nat->Bool} {xs:List (A4 Int)}:zay p (xs.map (eA4 eI))=true:=zxc (Flat.A4 (Flat.K .i64))
theorem lr3 {m:Nat} {xs:List Int}:zcn m (xs.map eI)=true:=zam (Flat.K .i64) m xs
theorem vw3 {H:List O} {k:Nat} {xs:List Int}:zbw H k (xs.map eI)=xs.map eI:=zb4 (Plain.K .i64) H k xs
theorem rn3 {g:Nat->Nat} {xs:List Int}:zbd g (xs.map eI)=xs.map eI:=zxb (Flat.K .i64)
theorem rf3 {p:Nat->Bool} {xs:List Int}:zay p (xs.map eI)=true:=zxc (Flat.K .i64)
theorem yrs {m:Nat} {xs:List xtz}:zcn m (xs.map xtu)=true:=zam Flat.xtz m xs
theorem ypd {H:List O} {k:Nat} {xs:List xtz}:zbw H k (xs.map xtu)=xs.map xtu:=zb4 Plain.xtz H k xs
theorem yqu {g:Nat->Nat} {xs:List xtz}:zbd g (xs.map xtu)=xs.map xtu:=zxb Flat.xtz
theorem yqx {p:Nat->Bool} {xs:List xtz}:zay p (xs.map xtu)=true:=zxc Flat.xtz
theorem lr42 {m:Nat} {xs:List xtn}:zcn m (xs.map xto)=true:=zam Flat.xtn m xs
theorem vw42 {H:List O} {k:Nat} {xs:List xtn}:zbw H k (xs.map xto)=xs.map xto:=zb4 Plain.xtn H k xs
theorem rn42 {g:Nat->Nat} {xs:List xtn}:zbd g (xs.map xto)=xs.map xto:=zxb Flat.xtn
theorem rf42 {p:Nat->Bool} {xs:List xtn}:zay p (xs.map xto)=true:=zxc Flat.xtn
theorem lr76 {m:Nat} {xs:List xtp}:zcn m (xs.map xts)=true:=zam Flat.xtp m xs
theorem vw76 {H:List O} {k:Nat} {xs:List xtp}:zbw H k (xs.map xts)=xs.map xts:=zb4 Plain.xtp H k xs
theorem rn76 {g:Nat->Nat} {xs:List xtp}:zbd g (xs.map xts)=xs.map xts:=zxb Flat.xtp
theorem rf76 {p:Nat->Bool} {xs:List xtp}:zay p (xs.map xts)=true:=zxc Flat.xtp
theorem lr4 {m:Nat} {xs:List Bool}:zcn m (xs.map eB)=true:=zam Flat.B m xs
theorem vw4 {H:List O} {k:Nat} {xs:List Bool}:zbw H k (xs.map eB)=xs.map eB:=zb4 Plain.B H k xs
theorem rn4 {g:Nat->Nat} {xs:List Bool}:zbd g (xs.map eB)=xs.map eB:=zxb Flat.B
theorem rf4 {p:Nat->Bool} {xs:List Bool}:zay p (xs.map eB)=true:=zxc Flat.B
theorem lr5 {m:Nat} {xs:List Int}:zcn m (xs.map (eK .u8))=true:=zam (Flat.K .u8) m xs
theorem vw5 {H:List O} {k:Nat} {xs:List Int}:zbw H k (xs.map (eK .u8))=xs.map (eK .u8):=zb4 (Plain.K .u8) H k xs
theorem rn5 {g:Nat->Nat} {xs:List Int}:zbd g (xs.map (eK .u8))=xs.map (eK .u8):=zxb (Flat.K .u8)
theorem rf5 {p:Nat->Bool} {xs:List Int}:zay p (xs.map (eK .u8))=true:=zxc (Flat.K .u8)
theorem ysm:eqT prog 66=true:=by kernel_rfl
theorem yrw {a0:Str} {a1:Int} {a2:Int} {a3:Int} {I:Int} {U:Int} {a6:Int}:litC prog 20 66 [.str a0,.int .i64 a1,.int .i64 a2,.int .i64 a3,.int .i64 I,.int .i64 U,.int .i64 a6]=some [.s a0,.i .i64 a1,.i .i64 a2,.i .i64 a3,.i .i64 I,.i .i64 U,.i .i64 a6]:=by kernel_rfl
theorem ysl:eqT prog 69=true:=by kernel_rfl
theorem yrv {a0:Str} {a1:Str} {a2:Int}:litC prog 20 69 [.str a0,.str a1,.int .i64 a2]=some [.s a0,.s a1,.i .i64 a2]:=by kernel_rfl
theorem ysk:eqT prog 71=true:=by kernel_rfl
theorem yru {a0:Int} {a1:Int} {a2:Int} {a3:Int}:litC prog 20 71 [.int .i64 a0,.int .i64 a1,.int .i64 a2,.int .i64 a3]=some [.i .i64 a0,.i .i64 a1,.i .i64 a2,.i .i64 a3]:=by kernel_rfl
theorem yoj:eqT prog 103=true:=by kernel_rfl
theorem ymn {a0:Int} {a1:Int}:litC prog 20 103 [.int .i64 a0,.int .i64 a1]=some [.i .i64 a0,.i .i64 a1]:=by kernel_rfl
theorem yoi:eqT prog 111=true:=by kernel_rfl
theorem ymm {a0:Int} {a1:Int}:litC prog 20 111 [.int .i64 a0,.int .i64 a1]=some [.i .i64 a0,.i .i64 a1]:=by kernel_rfl
theorem yoh:eqT prog 129=true:=by kernel_rfl
theorem yml {a0:Str} {a1:Int} {a2:Int}:litC prog 20 129 [.str a0,.int .i64 a1,.int .i64 a2]=some [.s a0,.i .i64 a1,.i .i64 a2]:=by kernel_rfl
theorem ag3:tAg prog 3=some (false,1):=by kernel_rfl
theorem tk3:tK prog 3=some .i64:=by kernel_rfl
theorem z3:tZ prog 3=some (.one (.int .i64 0)):=by kernel_rfl
theorem un3:(prog.underlying 3).isSome=true:=by kernel_rfl
theorem ag4:tAg prog 4=some (false,1):=by kernel_rfl
theorem tb4:z2f prog 4=true:=by kernel_rfl
theorem z4:tZ prog 4=some (.one (.bool false)):=by kernel_rfl
theorem ag5:tAg prog 5=some (false,1):=by kernel_rfl
theorem tk5:tK prog 5=some .u8:=by kernel_rfl
theorem z5:tZ prog 5=some (.one (.int .u8 0)):=by kernel_rfl
theorem un5:(prog.underlying 5).isSome=true:=by kernel_rfl
theorem ud5:prog.underlying 5=some (.int .u8):=by kernel_rfl
theorem ag9:tAg prog 9=some (false,1):=by kernel_rfl
theorem ts9:zy1 prog 9=true:=by kernel_rfl
theorem z9:tZ prog 9=some (.one (.str [])):=by kernel_rfl
theorem ud9:prog.underlying 9=some .string:=by kernel_rfl
theorem ag20:tAg prog 20=some (false,1):=by kernel_rfl
theorem ag22:tAg prog 22=some (false,1):=by kernel_rfl
theorem sl22:tSl prog 22=some (9,1,16):=by kernel_rfl
theorem ar22:tAr prog 22=none:=by kernel_rfl
theorem z22:tZ prog 22=some (.one (.slf [])):=by kernel_rfl
theorem ag23:tAg prog 23=some (false,1):=by kernel_rfl
theorem sl23:tSl prog 23=some (103,2,16):=by kernel_rfl
theorem ar23:tAr prog 23=none:=by kernel_rfl
theorem z23:tZ prog 23=some (.one (.slf [])):=by kernel_rfl
theorem ag25:tAg prog 25=some (true,2):=by kernel_rfl
theorem pl25:tPl prog 25=some (fun k=>[(0,1),(1,1)][k]?):=by kernel_rfl
theorem yoe:tFd prog 25 0=some (0,false,1):=by kernel_rfl
theorem yod:tFd prog 25 1=some (1,false,1):=by kernel_rfl
theorem z25:tZ prog 25=some (.agg [.slf [],.slf []]):=by kernel_rfl
theorem ag26:tAg prog 26=some (false,1):=by kernel_rfl
theorem sl26:tSl prog 26=some (129,3,32):=by kernel_rfl
theorem ar26:tAr prog 26=none:=by kernel_rfl
theorem z26:tZ prog 26=some (.one (.slf [])):=by kernel_rfl
theorem ag27:tAg prog 27=some (false,1):=by kernel_rfl
theorem sl27:tSl prog 27=some (66,7,64):=by kernel_rfl
theorem ar27:tAr prog 27=none:=by kernel_rfl
theorem z27:tZ prog 27=some (.one (.slf [])):=by kernel_rfl
theorem ag28:tAg prog 28=some (false,1):=by kernel_rfl
theorem sl28:tSl prog 28=some (69,3,40):=by kernel_rfl
theorem ar28:tAr prog 28=none:=by kernel_rfl
theorem z28:tZ prog 28=some (.one (.slf [])):=by kernel_rfl
theorem ag29:tAg prog 29=some (false,1):=by kernel_rfl
theorem sl29:tSl prog 29=some (78,4,64):=by kernel_rfl
theorem ar29:tAr prog 29=none:=by kernel_rfl
theorem z29:tZ prog 29=some (.one (.slf [])):=by kernel_rfl
theorem ag31:tAg prog 31=some (true,6):=by kernel_rfl
theorem pl31:tPl prog 31=some (fun k=>[(0,2),(2,1),(3,1),(4,1),(5,1)][k]?):=by kernel_rfl
theorem yoc:tFd prog 31 0=some (0,true,2):=by kernel_rfl
theorem yob:tFd prog 31 1=some (2,false,1):=by kernel_rfl
theorem yoa:tFd prog 31 2=some (3,false,1):=by kernel_rfl
theorem yn9:tFd prog 31 3=some (4,false,1):=by kernel_rfl
theorem yn8:tFd prog 31 4=some (5,false,1):=by kernel_rfl
theorem z31:tZ prog 31=some (.agg [.slf [],.slf [],.slf [],.slf [],.slf [],.slf []]):=by kernel_rfl
theorem ag32:tAg prog 32=some (false,1):=by kernel_rfl
theorem sl32:tSl prog 32=some (36,1,24):=by kernel_rfl
theorem ar32:tAr prog 32=none:=by kernel_rfl
theorem z32:tZ prog 32=some (.one (.slf [])):=by kernel_rfl
theorem ag33:tAg prog 33=some (false,1):=by kernel_rfl
theorem sl33:tSl prog 33=some (71,4,32):=by kernel_rfl
theorem ar33:tAr prog 33=none:=by kernel_rfl
theorem z33:tZ prog 33=some (.one (.slf [])):=by kernel_rfl
theorem ag35:tAg prog 35=some (true,2):=by kernel_rfl
theorem pl35:tPl prog 35=some (fun k=>[(0,1),(1,1)][k]?):=by kernel_rfl
theorem yn7:tFd prog 35 0=some (0,false,1):=by kernel_rfl
theorem yn6:tFd prog 35 1=some (1,false,1):=by kernel_rfl
theorem z35:tZ prog 35=some (.agg [.slf [],.slf []]):=by kernel_rfl
theorem ag36:tAg prog 36=some (false,1):=by kernel_rfl
theorem sl36:tSl prog 36=some (3,1,8):=by kernel_rfl
theorem ar36:tAr prog 36=none:=by kernel_rfl
theorem z36:tZ prog 36=some (.one (.slf [])):=by kernel_rfl
theorem ag37:tAg prog 37=some (false,1):=by kernel_rfl
theorem sl37:tSl prog 37=some (111,2,16):=by kernel_rfl
theorem ar37:tAr prog 37=none:=by kernel_rfl
theorem z37:tZ prog 37=some (.one (.slf [])):=by kernel_rfl
theorem ag39:tAg prog 39=some (true,6):=by kernel_rfl
theorem pl39:tPl prog 39=some (fun k=>[(0,2),(2,1),(3,1),(4,1),(5,1)][k]?):=by kernel_rfl
theorem yn5:tFd prog 39 0=some (0,true,2):=by kernel_rfl
theorem yn4:tFd prog 39 1=some (2,false,1):=by kernel_rfl
theorem yn3:tFd prog 39 2=some (3,false,1):=by kernel_rfl
theorem yn2:tFd prog 39 3=some (4,false,1):=by kernel_rfl
theorem yn1:tFd prog 39 4=some (5,false,1):=by kernel_rfl
theorem z39:tZ prog 39=some (.agg [.slf [],.slf [],.slf [],.slf [],.slf [],.int .i64 0]):=by kernel_rfl
theorem ag40:tAg prog 40=some (false,1):=by kernel_rfl
theorem sl40:tSl prog 40=some (42,5,64):=by kernel_rfl
theorem ar40:tAr prog 40=none:=by kernel_rfl
theorem z40:tZ prog 40=some (.one (.slf [])):=by kernel_rfl
theorem ag42:tAg prog 42=some (true,5):=by kernel_rfl
theorem pl42:tPl prog 42=some (fun k=>[(0,1),(1,1),(2,1),(3,1),(4,1)][k]?):=by kernel_rfl
theorem yn0:tFd prog 42 0=some (0,false,1):=by kernel_rfl
theorem ynz:tFd prog 42 1=some (1,false,1):=by kernel_rfl
theorem yny:tFd prog 42 2=some (2,false,1):=by kernel_rfl
theorem ynx:tFd prog 42 3=some (3,false,1):=by kernel_rfl
theorem ynw:tFd prog 42 4=some (4,false,1):=by kernel_rfl
theorem z42:tZ prog 42=some (.agg [.int .i64 0,.int .i64 0,.int .i64 0,.str [],.slf []]):=by kernel_rfl
theorem ag54:tAg prog 54=some (false,1):=by kernel_rfl
theorem z54:tZ prog 54=some (.one (.nilfn)):=by kernel_rfl
theorem ag58:tAg prog 58=some (true,12):=by kernel_rfl
theorem pl58:tPl prog 58=some (fun k=>some (k*6,6)):=by kernel_rfl
theorem ar58:tAr prog 58=some (2,39,6):=by kernel_rfl
theorem z58:tZ prog 58=some (.agg [.slf [],.slf [],.slf [],.slf [],.slf [],.int .i64 0,.slf [],.slf [],.slf [],.slf [],.slf [],.int .i64 0]):=by kernel_rfl
theorem ag64:tAg prog 64=some (true,3):=by kernel_rfl
theorem pl64:tPl prog 64=some (fun k=>[(0,1),(1,1),(2,1)][k]?):=by kernel_rfl
theorem ynv:tFd prog 64 0=some (0,false,1):=by kernel_rfl
theorem ynu:tFd prog 64 1=some (1,false,1):=by kernel_rfl
theorem ynt:tFd prog 64 2=some (2,false,1):=by kernel_rfl
theorem z64:tZ prog 64=some (.agg [.int .i64 0,.int .i64 0,.int .i64 0]):=by kernel_rfl
theorem ag66:tAg prog 66=some (true,7):=by kernel_rfl
theorem pl66:tPl prog 66=some (fun k=>[(0,1),(1,3),(4,1),(5,1),(6,1)][k]?):=by kernel_rfl
theorem yns:tFd prog 66 0=some (0,false,1):=by kernel_rfl
theorem ynr:tFd prog 66 1=some (1,true,3):=by kernel_rfl
theorem ynq:tFd prog 66 2=some (4,false,1):=by kernel_rfl
theorem ynp:tFd prog 66 3=some (5,false,1):=by kernel_rfl
theorem yno:tFd prog 66 4=some (6,false,1):=by kernel_rfl
theorem z66:tZ prog 66=some (.agg [.str [],.int .i64 0,.int .i64 0,.int .i64 0,.int .i64 0,.int .i64 0,.int .i64 0]):=by kernel_rfl
theorem ag69:tAg prog 69=some (true,3):=by kernel_rfl
theorem pl69:tPl prog 69=some (fun k=>[(0,1),(1,1),(2,1)][k]?):=by kernel_rfl
theorem ynn:tFd prog 69 0=some (0,false,1):=by kernel_rfl
theorem ynm:tFd prog 69 1=some (1,false,1):=by kernel_rfl
theorem ynl:tFd prog 69 2=some (2,false,1):=by kernel_rfl
theorem z69:tZ prog 69=some (.agg [.str [],.str [],.int .i64 0]):=by kernel_rfl
theorem ag71:tAg prog 71=some (true,4):=by kernel_rfl
theorem pl71:tPl prog 71=some (fun k=>some (k*1,1)):=by kernel_rfl
theorem ar71:tAr prog 71=some (4,3,1):=by kernel_rfl
theorem z71:tZ prog 71=some (.agg [.int .i64 0,.int .i64 0,.int .i64 0,.int .i64 0]):=by kernel_rfl
theorem ag74:tAg prog 74=some (false,1):=by kernel_rfl
theorem sl74:tSl prog 74=some (76,15,224):=by kernel_rfl
theorem ar74:tAr prog 74=none:=by kernel_rfl
theorem z74:tZ prog 74=some (.one (.slf [])):=by kernel_rfl
theorem ag76:tAg prog 76=some (true,15):=by kernel_rfl
theorem pl76:tPl prog 76=some (fun k=>[(0,1),(1,1),(2,5),(7,5),(12,1),(13,1),(14,1)][k]?):=by kernel_rfl
theorem ynk:tFd prog 76 0=some (0,false,1):=by kernel_rfl
theorem ynj:tFd prog 76 1=some (1,false,1):=by kernel_rfl
theorem yni:tFd prog 76 2=some (2,true,5):=by kernel_rfl
theorem ynh:tFd prog 76 3=some (7,true,5):=by kernel_rfl
theorem yng:tFd prog 76 4=some (12,false,1):=by kernel_rfl
theorem ynf:tFd prog 76 5=some (13,false,1):=by kernel_rfl
theorem yne:tFd prog 76 6=some (14,false,1):=by kernel_rfl
theorem z76:tZ prog 76=some (.agg [.int .i64 0,.str [],.int .i64 0,.int .i64 0,.int .i64 0,.str [],.slf [],.int .i64 0,.int .i64 0,.int .i64 0,.str [],.slf [],.slf [],.slf [],.slf []]):=by kernel_rfl
theorem ag78:tAg prog 78=some (true,4):=by kernel_rfl
theorem pl78:tPl prog 78=some (fun k=>[(0,1),(1,1),(2,1),(3,1)][k]?):=by kernel_rfl
theorem ynd:tFd prog 78 0=some (0,false,1):=by kernel_rfl
theorem ync:tFd prog 78 1=some (1,false,1):=by kernel_rfl
theorem ynb:tFd prog 78 2=some (2,false,1):=by kernel_rfl
theorem yna:tFd prog 78 3=some (3,false,1):=by kernel_rfl
theorem z78:tZ prog 78=some (.agg [.int .i64 0,.int .i64 0,.slf [],.slf []]):=by kernel_rfl
theorem ag84:tAg prog 84=some (false,1):=by kernel_rfl
theorem z84:tZ prog 84=some (.one (.nilp)):=by kernel_rfl
theorem ag86:tAg prog 86=some (false,1):=by kernel_rfl
theorem z86:tZ prog 86=some (.one (.nilp)):=by kernel_rfl
theorem ytk:tAg prog 102=some (false,1):=by kernel_rfl
theorem yqi:tSl prog 102=some (4,1,1):=by kernel_rfl
theorem ysu:tAr prog 102=none:=by kernel_rfl
theorem z102:tZ prog 102=some (.one (.slf [])):=by kernel_rfl
theorem ytj:tAg prog 103=some (true,2):=by kernel_rfl
theorem yrk:tPl prog 103=some (fun k=>some (k*1,1)):=by kernel_rfl
theorem yst:tAr prog 103=some (2,3,1):=by kernel_rfl
theorem z103:tZ prog 103=some (.agg [.int .i64 0,.int .i64 0]):=by kernel_rfl
theorem yti:tAg prog 111=some (true,2):=by kernel_rfl
theorem yrj:tPl prog 111=some (fun k=>[(0,1),(1,1)][k]?):=by kernel_rfl
theorem yjw:tFd prog 111 0=some (0,false,1):=by kernel_rfl
theorem yjv:tFd prog 111 1=some (1,false,1):=by kernel_rfl
theorem z111:tZ prog 111=some (.agg [.int .i64 0,.int .i64 0]):=by kernel_rfl
theorem yth:tAg prog 113=some (true,8):=by kernel_rfl
theorem yri:tPl prog 113=some (fun k=>[(0,1),(1,6),(7,1)][k]?):=by kernel_rfl
theorem yju:tFd prog 113 0=some (0,false,1):=by kernel_rfl
theorem yjt:tFd prog 113 1=some (1,true,6):=by kernel_rfl
theorem yjs:tFd prog 113 2=some (7,false,1):=by kernel_rfl
theorem z113:tZ prog 113=some (.agg [.nilp,.slf [],.slf [],.slf [],.slf [],.slf [],.slf [],.slf []]):=by kernel_rfl
theorem ytg:tAg prog 129=some (true,3):=by kernel_rfl
theorem yrh:tPl prog 129=some (fun k=>[(0,1),(1,1),(2,1)][k]?):=by kernel_rfl
theorem yjr:tFd prog 129 0=some (0,false,1):=by kernel_rfl
theorem yjq:tFd prog 129 1=some (1,false,1):=by kernel_rfl
theorem yjp:tFd prog 129 2=some (2,false,1):=by kernel_rfl
theorem z129:tZ prog 129=some (.agg [.str [],.int .i64 0,.int .i64 0]):=by kernel_rfl
theorem ytf:tAg prog 135=some (false,1):=by kernel_rfl
theorem z135:tZ prog 135=some (.one (.nilfn)):=by kernel_rfl
theorem yte:tAg prog 138=some (false,1):=by kernel_rfl
theorem z138:tZ prog 138=some (.one (.nilfn)):=by kernel_rfl
theorem ytd:tAg prog 139=some (false,1):=by kernel_rfl
theorem z139:tZ prog 139=some (.one (.nilfn)):=by kernel_rfl
theorem ytc:tAg prog 141=some (true,3):=by kernel_rfl
theorem yrg:tPl prog 141=some (fun k=>[(0,1),(1,1),(2,1)][k]?):=by kernel_rfl
theorem yjo:tFd prog 141 0=some (0,false,1):=by kernel_rfl
theorem yjn:tFd prog 141 1=some (1,false,1):=by kernel_rfl
theorem yjm:tFd prog 141 2=some (2,false,1):=by kernel_rfl
theorem z141:tZ prog 141=some (.agg [.slf [],.slf [],.nilfn]):=by kernel_rfl
theorem ytb:tAg prog 144=some (true,3):=by kernel_rfl
theorem yrf:tPl prog 144=some (fun k=>some (k*1,1)):=by kernel_rfl
theorem yss:tAr prog 144=some (3,3,1):=by kernel_rfl
theorem z144:tZ prog 144=some (.agg [.int .i64 0,.int .i64 0,.int .i64 0]):=by kernel_rfl
theorem yta:tAg prog 146=some (false,1):=by kernel_rfl
theorem z146:tZ prog 146=some (.one (.nilfn)):=by kernel_rfl
theorem ys9:tAg prog 159=some (false,1):=by kernel_rfl
theorem z159:tZ prog 159=some (.one (.nilfn)):=by kernel_rfl
theorem ys8:tAg prog 160=some (false,1):=by kernel_rfl
theorem ypq:tK prog 160=some .i64:=by kernel_rfl
theorem z160:tZ prog 160=some (.one (.int .i64 0)):=by kernel_rfl
theorem ypj:(prog.underlying 160).isSome=true:=by kernel_rfl
theorem ys7:tAg prog 163=some (false,1):=by kernel_rfl
theorem z163:tZ prog 163=some (.one (.nilfn)):=by kernel_rfl
theorem ys6:tAg prog 167=some (false,1):=by kernel_rfl
theorem z167:tZ prog 167=some (.one (.nilfn)):=by kernel_rfl
theorem ys5:tAg prog 170=some (true,1):=by kernel_rfl
theorem yre:tPl prog 170=some (fun k=>[(0,1)][k]?):=by kernel_rfl
theorem yjl:tFd prog 170 0=some (0,false,1):=by kernel_rfl
theorem z170:tZ prog 170=some (.agg [.int .i64 0]):=by kernel_rfl
theorem ys4:tAg prog 172=some (true,7):=by kernel_rfl
theorem yrd:tPl prog 172=some (fun k=>[(0,7)][k]?):=by kernel_rfl
theorem yjk:tFd prog 172 0=some (0,true,7):=by kernel_rfl
theorem z172:tZ prog 172=some (.agg [.str [],.int .i64 0,.int .i64 0,.int .i64 0,.int .i64 0,.int .i64 0,.int .i64 0]):=by kernel_rfl
theorem ys3:tAg prog 173=some (true,7):=by kernel_rfl
theorem yrc:tPl prog 173=some (fun k=>[(0,7)][k]?):=by kernel_rfl
theorem yjj:tFd prog 173 0=some (0,true,7):=by kernel_rfl
theorem z173:tZ prog 173=some (.agg [.str [],.int .i64 0,.int .i64 0,.int .i64 0,.int .i64 0,.int .i64 0,.int .i64 0]):=by kernel_rfl
theorem ys2:tAg prog 175=some (true,4):=by kernel_rfl
theorem yrb:tPl prog 175=some (fun k=>[(0,3),(3,1)][k]?):=by kernel_rfl
theorem yji:tFd prog 175 0=some (0,true,3):=by kernel_rfl
theorem yjh:tFd prog 175 1=some (3,false,1):=by kernel_rfl
theorem z175:tZ prog 175=some (.agg [.str [],.str [],.int .i64 0,.int .i64 0]):=by kernel_rfl
theorem ys1:tAg prog 177=some (true,1):=by kernel_rfl
theorem yra:tPl prog 177=some (fun k=>[(0,1)][k]?):=by kernel_rfl
theorem yjg:tFd prog 177 0=some (0,false,1):=by kernel_rfl
theorem z177:tZ prog 177=some (.agg [.bool false]):=by kernel_rfl
theorem ys0:tAg prog 179=some (true,1):=by kernel_rfl
theorem yq9:tPl prog 179=some (fun k=>[(0,1)][k]?):=by kernel_rfl
theorem yjf:tFd prog 179 0=some (0,false,1):=by kernel_rfl
theorem z179:tZ prog 179=some (.agg [.int .i64 0]):=by kernel_rfl
theorem ysz:tAg prog 181=some (false,1):=by kernel_rfl
theorem z181:tZ prog 181=some (.one (.nilfn)):=by kernel_rfl
theorem ysy:tAg prog 199=some (true,6):=by kernel_rfl
theorem yq8:tPl prog 199=some (fun k=>[(0,6)][k]?):=by kernel_rfl
theorem yje:tFd prog 199 0=some (0,true,6):=by kernel_rfl
theorem z199:tZ prog 199=some (.agg [.slf [],.slf [],.slf [],.slf [],.slf [],.slf []]):=by kernel_rfl
theorem ysx:tAg prog 201=some (false,1):=by kernel_rfl
theorem z201:tZ prog 201=some (.one (.nilfn)):=by kernel_rfl
theorem ysw:tAg prog 214=some (false,1):=by kernel_rfl
theorem ypp:tK prog 214=some .u64:=by kernel_rfl
theorem z214:tZ prog 214=some (.one (.int .u64 0)):=by kernel_rfl
theorem ypi:(prog.underlying 214).isSome=true:=by kernel_rfl
theorem ysv:tAg prog 219=some (false,1):=by kernel_rfl
theorem yqh:tSl prog 219=some (5,1,1):=by kernel_rfl
theorem ysr:tAr prog 219=none:=by kernel_rfl
theorem z219:tZ prog 219=some (.one (.slf [])):=by kernel_rfl
theorem ypk:prog.underlying 219=some (.slice 5):=by kernel_rfl
attribute [go_sem] lr9 vw9 rn9 rf9 yrt ype yqv yqy yrr ypc yqt yqw lr66 vw66 rn66 rf66 lr69 vw69 rn69 rf69 lr78 vw78 rn78 rf78 lr36 vw36 rn36 rf36 lr71 vw71 rn71 rf71 lr3 vw3 rn3 rf3 yrs ypd yqu yqx lr42 vw42 rn42 rf42 lr76 vw76 rn76 rf76 lr4 vw4 rn4 rf4 lr5 vw5 rn5 rf5 ysm yrw ysl yrv ysk yru yoj ymn yoi ymm yoh yml ag3 tk3 z3 un3 ag4 tb4 z4 ag5 tk5 z5 un5 ud5 ag9 ts9 z9 ud9 ag20 ag22 sl22 ar22 z22 ag23 sl23 ar23 z23 ag25 pl25 yoe yod z25 ag26 sl26 ar26 z26 ag27 sl27 ar27 z27 ag28 sl28 ar28 z28 ag29 sl29 ar29 z29 ag31 pl31 yoc yob yoa yn9 yn8 z31 ag32 sl32 ar32 z32 ag33 sl33 ar33 z33 ag35 pl35 yn7 yn6 z35 ag36 sl36 ar36 z36 ag37 sl37 ar37 z37 ag39 pl39 yn5 yn4 yn3 yn2 yn1 z39 ag40 sl40 ar40 z40 ag42 pl42 yn0 ynz yny ynx ynw z42 ag54 z54 ag58 pl58 ar58 z58 ag64 pl64 ynv ynu ynt z64 ag66 pl66 yns ynr ynq ynp yno z66 ag69 pl69 ynn ynm ynl z69 ag71 pl71 ar71 z71 ag74 sl74 ar74 z74 ag76 pl76 ynk ynj yni ynh yng ynf yne z76 ag78 pl78 ynd ync ynb yna z78 ag84 z84 ag86 z86 ytk yqi ysu z102 ytj yrk yst z103 yti yrj yjw yjv z111 yth yri yju yjt yjs z113 ytg yrh yjr yjq yjp z129 ytf z135 yte z138 ytd z139 ytc yrg yjo yjn yjm z141 ytb yrf yss z144 yta z146 ys9 z159 ys8 ypq z160 ypj ys7 z163 ys6 z167 ys5 yre yjl z170 ys4 yrd yjk z172 ys3 yrc yjj z173 ys2 yrb yji yjh z175 ys1 yra yjg z177 ys0 yq9 yjf z179 ysz z181 ysy yq8 yje z199 ysx z201 ysw ypp z214 ypi ysv yqh ysr z219 ypk
theorem mo:prog.follows .mixedOrders=true:=rfl
abbrev eQ_ (l:xtq):List C:=[.sl (l.Names.map eS),.sl (l.Below.map (eA2 eI))]
abbrev eP_ (p:xtm):List C:=[.sl (p.Lattice.Names.map eS),.sl (p.Lattice.Below.map (eA2 eI)),.sl (p.Sites.map xtw),.sl (p.Vars.map xtx),.sl (p.Blocks.map xty),.sl (p.Tasks.map xt0)]
attribute [go_sem] eQ_ eP_
end Go.Lz

end
