/- The parts of a proof: Lz15, Lz16, LzE, Lp1, Lw1, Lw2, LzL, Lw3, Lw4, Lw5, Lw6, Lw7 -/
import Derived.Test.YtcceddpmmgabjaaGreatQt2
import Derived.SizedLaws
import Derived.ProofKit
import Derived.OpenShut
set_option linter.unusedVariables false
set_option linter.unusedSimpArgs false
section
namespace Go.Lz
def rhoL (t:List (Nat×V)):Operand->V
 |.tmp i=>look t i
 |.const v=>V.ofV v
 |.func f=>.one (.fn f [])
 |.global _=>.un
theorem zy8 (t:List (Nat×V)) (H:List O):(⟨t,H⟩:St).ρ=rhoL t:=by funext x;cases x<;>rfl
theorem yd6 {t:List (Nat×V)} {i:Nat}:rhoL t (.tmp i)=look t i:=of_eq_true (eq_self (look t i))
theorem z8z {t:List (Nat×V)} {v:Value}:rhoL t (.const v)=V.ofV v:=of_eq_true (eq_self (V.ofV v))
theorem yal {t:List (Nat×V)} {f:FuncId}:rhoL t (.func f)=.one (.fn f []):=of_eq_true (eq_self (V.one (C.fn f [])))
theorem yip {k i:Nat} {v:V} {r:List (Nat×V)}:look ((k,v)::r) i=if k=i then v else look r i:=rfl
inductive Fr where
 |code (c:Code)
 |blk (id:Nat)
 |scp (c:Code)
 |ops (all:Array Oper) (rest:List Oper)
 |draw (all:Array Oper) (rest:List Oper) (N:List Fo)
 |flo (S Fl FE:List Nat) (k:Nat) (rest:List Oper)
def qF (P:Program) (n:Cf) (Q:Ex->St->Prop):List Fr->Ex->St->Prop
 |[]=>Q
 |.code c::F=>zq1 (fun st=>awp P n c st (qF P n Q F)) (qF P n Q F)
 |.blk id::F=>z14 id (qF P n Q F)
 |.scp c::F=>z9h P n c (qF P n Q F)
 |.ops all rest::F=>zq1 (fun st=>awpOps P all rest st (qF P n Q F .normal)) (qF P n Q F)
 |.draw all rest N::F=>zq1 (fun st=>awpDraw P all rest N st (qF P n Q F .normal)) (qF P n Q F)
 |.flo S Fl FE k rest::F=>zq1 (fun st=>awpF P S Fl FE k rest st (qF P n Q F .normal)) (qF P n Q F)
def awpS (P:Program) (n:Cf) (F:List Fr) (st:St) (Q:Ex->St->Prop):Prop:=qF P n Q F .normal st
def zrs (P:Program) (n:Cf) (id:Nat) (F:List Fr) (st:St) (Q:Ex->St->Prop):Prop:=qF P n Q F (.exit id) st
def LoopS (P:Program) (n:Cf) (c:Code) (F:List Fr) (st:St) (Q:Ex->St->Prop):Prop:=LoopSem P n c st (qF P n Q F)
theorem zx2 {P:Program} {n:Cf} {c:Code} {st:St} {Q:Ex->St->Prop} (h:awpS P n [.code c] st Q):awp P n c st Q:=h
section
variable {P:Program} {n:Cf} {F:List Fr} {st:St} {Q:Ex->St->Prop}
theorem yqp:awpS P n [] st Q=Q .normal st:=rfl
theorem ylq:awpS P n (.code .skip::F) st Q=awpS P n F st Q:=rfl
theorem yhx {l:Nat}:awpS P n (.code (.label l)::F) st Q=awpS P n F st Q:=rfl
theorem yqm {a b:Code}:awpS P n (.code (.seq a b)::F) st Q=awpS P n (.code a::.code b::F) st Q:=rfl
theorem yhy {id:Nat} {c:Code}:awpS P n (.code (.block id c)::F) st Q=awpS P n (.code c::.blk id::F) st Q:=rfl
theorem yhw {c:Code}:awpS P n (.code (.scope c)::F) st Q=awpS P n (.code c::.scp c::F) st Q:=rfl
theorem yqn {c:Code}:awpS P n (.scp c::F) st Q=awpS P n F st Q:=rfl
theorem ylr {c:Code}:awpS P n (.code (.loop c)::F) st Q=LoopS P n c F st Q:=rfl
theorem yqr {id:Nat}:awpS P n (.blk id::F) st Q=awpS P n F st Q:=rfl
def zw1 (P:Program) (n:Cf) (l:Nat) (F:List Fr) (st:St) (Q:Ex->St->Prop):Prop:=qF P n Q F (.goto l) st
def ygt (P:Program) (n:Cf) (l:Nat) (c:Code) (F:List Fr) (st:St) (Q:Ex->St->Prop):Prop:=z9h P n c (qF P n Q F) (.goto l) st
theorem yls {l:Nat}:awpS P n (.code (.goto l)::F) st Q=zw1 P n l F st Q:=rfl
theorem yr6 {l:Nat}:zw1 P n l [] st Q=Q (.goto l) st:=rfl
theorem ymv {l:Nat} {c:Code}:zw1 P n l (.code c::F) st Q=zw1 P n l F st Q:=rfl
theorem yr5 {l:Nat} {all:Array Oper} {rest:List Oper}:zw1 P n l (.ops all rest::F) st Q=zw1 P n l F st Q:=rfl
theorem ymu {l:Nat} {all:Array Oper} {rest:List Oper} {N:List Fo}:zw1 P n l (.draw all rest N::F) st Q=zw1 P n l F st Q:=rfl
theorem yr7 {l k:Nat} {rest:List Oper} {S Fl FE:List Nat}:zw1 P n l (.flo S Fl FE k rest::F) st Q=zw1 P n l F st Q:=rfl
theorem yr8 {l id:Nat}:zw1 P n l (.blk id::F) st Q=zw1 P n l F st Q:=rfl
theorem yr4 {l:Nat} {c:Code}:zw1 P n l (.scp c::F) st Q=ygt P n l c F st Q:=rfl
theorem ylt {id:Nat}:awpS P n (.code (.exit id)::F) st Q=zrs P n id F st Q:=rfl
theorem zxg:∀(F:List Fr),qF P n Q F .ret=Q .ret
 |[]=>rfl
 |.code _::F=>by funext st;simp only[qF,zq1];rw[zxg F]
 |.blk _::F=>by funext st;simp only[qF,z14];rw[zxg F]
 |.scp _::F=>by funext st;simp only[qF,z9h];rw[zxg F]
 |.ops _ _::F=>by funext st;simp only[qF,zq1];rw[zxg F]
 |.draw _ _ _::F=>by funext st;simp only[qF,zq1];rw[zxg F]
 |.flo _ _ _ _ _::F=>by funext st;simp only[qF,zq1];rw[zxg F]
theorem yqo:awpS P n (.code .ret::F) st Q=Q .ret st:=by
 show qF P n Q F .ret st=_
 rw[zxg]
theorem yo9 {id:Nat}:zrs P n id [] st Q=Q (.exit id) st:=rfl
theorem yo7 {id:Nat} {c:Code}:zrs P n id (.scp c::F) st Q=zrs P n id F st Q:=rfl
theorem yku {id:Nat} {c:Code}:zrs P n id (.code c::F) st Q=zrs P n id F st Q:=rfl
theorem yo8 {id:Nat} {all:Array Oper} {rest:List Oper}:zrs P n id (.ops all rest::F) st Q=zrs P n id F st Q:=rfl
theorem ykt {id:Nat} {all:Array Oper} {rest:List Oper} {N:List Fo}:zrs P n id (.draw all rest N::F) st Q=zrs P n id F st Q:=rfl
theorem ypa {id k:Nat} {rest:List Oper} {S Fl FE:List Nat}:zrs P n id (.flo S Fl FE k rest::F) st Q=zrs P n id F st Q:=rfl
theorem ypb {id i:Nat}:zrs P n id (.blk i::F) st Q=if id=i then awpS P n F st Q else zrs P n id F st Q:=rfl
theorem yd5 {id:Nat} {ops:Array Oper}:awpS P n (.code (.region id ops false)::F) st Q=awpS P n (.ops ops ops.toList::F) st Q:=rfl
theorem ylu {id:Nat} {ops:Array Oper} (h:zyp ops=false):awpS P n (.code (.region id ops true)::F) st Q=(P.follows .mixedOrders=true/\zwc ops=true/\awpS P n (.draw ops ops.toList []::F) st Q):=by
 simp only[awpS,qF,zq1,awp,h]
theorem yqq {id:Nat} {ops:Array Oper} (h:zyp ops=true):awpS P n (.code (.region id ops true)::F) st Q=(P.follows .mixedOrders=true/\zwc ops=true/\floB ops=true/\∃S Fl FE,floL ops Fl FE=true/\awpS P n (.flo S Fl FE 0 ops.toList::F) st Q):=by
 simp only[awpS,qF,zq1,awp,h]
def z3i (c:V) (X Y:Prop):Prop:=z3j c X Y
theorem ylv {c:Operand} {x y:Code} {t:List (Nat×V)} {H:List O}:awpS P n (.code (.cond c x y)::F) ⟨t,H⟩ Q=z3i (rhoL t c) (awpS P n (.code x::F) ⟨t,H⟩ Q) (awpS P n (.code y::F) ⟨t,H⟩ Q):=by
 show z3j _ _ _=z3j _ _ _
 rw[zy8];rfl
theorem z6k {c I:V} {X Y:Prop} (h:c=I):z3i c X Y=z3i I X Y:=by rw[h]
attribute [congr] z6k
theorem zl6 {b:Bool} {X Y:Prop}:z3i (.one (.bool b)) X Y=((b=true->X)/\(b=false->Y)):=rfl
theorem yib {X Y:Prop}:z3i (.one (.bool true)) X Y=X:=by simp[z3i,z3j]
theorem yic {X Y:Prop}:z3i (.one (.bool false)) X Y=Y:=by simp[z3i,z3j]
theorem yro {all:Array Oper}:awpS P n (.ops all []::F) st Q=awpS P n F st Q:=rfl
def zz8 (P:Program) (n:Cf) (r:R) (d:Option Nat) (all:Array Oper) (rest:List Oper) (F:List Fr) (t:List (Nat×V)) (Q:Ex->St->Prop):Prop:=
 r.pre/\(r.fact->awpS P n (.ops all rest::F) (St.put ⟨t,r.h⟩ d r.v r.h) Q)
theorem yqg {p f:Prop} {v:V} {h:List O} {d:Nat} {all:Array Oper} {rest:List Oper} {t:List (Nat×V)}:zz8 P n ⟨p,f,v,h⟩ (some d) all rest F t Q=(p/\(f->awpS P n (.ops all rest::F) ⟨(d,v)::t,h⟩ Q)):=rfl
theorem st_t {p:Prop} {v:V} {h:List O} {d:Nat} {all:Array Oper} {rest:List Oper} {t:List (Nat×V)}:zz8 P n ⟨p,True,v,h⟩ (some d) all rest F t Q=(p/\awpS P n (.ops all rest::F) ⟨(d,v)::t,h⟩ Q):=by simp[zz8,St.put]
theorem yqf {v:V} {h:List O} {d:Nat} {all:Array Oper} {rest:List Oper} {t:List (Nat×V)}:zz8 P n (R.ok v h) (some d) all rest F t Q=awpS P n (.ops all rest::F) ⟨(d,v)::t,h⟩ Q:=by simp[zz8,St.put,R.ok]
theorem ylh {p f:Prop} {v:V} {h:List O} {all:Array Oper} {rest:List Oper} {t:List (Nat×V)}:zz8 P n ⟨p,f,v,h⟩ none all rest F t Q=(p/\(f->awpS P n (.ops all rest::F) ⟨t,h⟩ Q)):=rfl
theorem yqe {p:Prop} {v:V} {h:List O} {all:Array Oper} {rest:List Oper} {t:List (Nat×V)}:zz8 P n ⟨p,True,v,h⟩ none all rest F t Q=(p/\awpS P n (.ops all rest::F) ⟨t,h⟩ Q):=by simp[zz8,St.put]
theorem ylg {v:V} {h:List O} {all:Array Oper} {rest:List Oper} {t:List (Nat×V)}:zz8 P n (R.ok v h) none all rest F t Q=awpS P n (.ops all rest::F) ⟨t,h⟩ Q:=by simp[zz8,St.put,R.ok]
def yke (P:Program) (n:Cf) (f:V) (args:List V) (H:List O) (d:Option Nat) (all:Array Oper) (rest:List Oper) (F:List Fr) (t:List (Nat×V)) (Q:Ex->St->Prop):Prop:=
 match f with
 |.one (.fn g cap)=>Ct P g (args++cap.map V.one) H fun v H'=>awpS P n (.ops all rest::F) (St.put ⟨t,H'⟩ d v H') Q
 |_=>False
def CtS (P:Program) (n:Cf) (g:FuncId) (args:List V) (H:List O) (d:Option Nat) (all:Array Oper) (rest:List Oper) (F:List Fr) (t:List (Nat×V)) (Q:Ex->St->Prop):Prop:=
 Ct P g args H fun v H'=>awpS P n (.ops all rest::F) (St.put ⟨t,H'⟩ d v H') Q
theorem yfq {g:FuncId} {cap:List C} {args:List V} {H:List O} {d:Option Nat} {all:Array Oper} {rest:List Oper} {t:List (Nat×V)}:yke P n (.one (.fn g cap)) args H d all rest F t Q=CtS P n g (args++cap.map V.one) H d all rest F t Q:=rfl
def Op.fnOf:Op->Option (Operand×Array Operand)
 |.call ⟨.value f,args,_⟩=>some (f,args)
 |.call ⟨.invoke _ _,_,_⟩=>none
 |.call ⟨.builtin _,_,_⟩=>none
 |.move _=>none
 |.assign _=>none
 |.pick _ _ _=>none
 |.alloc _=>none
 |.box _ _=>none
 |.build _ _=>none
 |.buildSlice _ _ _=>none
 |.insert _ _ _ _=>none
 |.load _ _=>none
 |.store _ _ _=>none
 |.ready _=>none
 |.waits _=>none
 |.nilCheck _=>none
 |.binOp _ _ _ _ _=>none
 |.unOp _ _ _=>none
 |.convert _ _ _=>none
 |.sliceToArrayPointer _ _=>none
 |.makeInterface _ _=>none
 |.makeFunc _ _ _=>none
 |.makeMap _ _=>none
 |.makeChan _ _=>none
 |.makeSlice _ _ _=>none
 |.slice _ _ _ _ _=>none
 |.fieldAddr _ _ _=>none
 |.field _ _ _=>none
 |.indexAddr _ _ _=>none
 |.index _ _ _=>none
 |.lookup _ _ _ _=>none
 |.mapUpdate _ _ _ _=>none
 |.mapEntry _ _ _=>none
 |.entryStore _ _ _ _=>none
 |.range _ _=>none
 |.next _ _=>none
 |.entry _=>none
 |.typeAssert _ _ _ _=>none
 |.extract _ _=>none
 |.go _=>none
 |.defer _=>none
 |.panic _=>none
 |.send _ _=>none
 |.recv _ _ _=>none
 |.select _ _=>none
def opS (P:Program) (n:Cf) (d:Option Nat) (pos:String) (op:Op) (t:List (Nat×V)) (H:List O) (all:Array Oper) (rest:List Oper) (F:List Fr) (Q:Ex->St->Prop):Prop:=
 match Op.fnOf op with
 |some (f,args)=>yke P n (rhoL t f) (args.toList.map (rhoL t)) H d all rest F t Q
 |none=>zz8 P n (zdu P pos op (rhoL t) H) d all rest F t Q
theorem z8l {d:Option Nat} {op:Op} {ty:TypeId} {pos:String} {aft:Array Edge} {g:Option (Nat×Bool)} {t:List (Nat×V)} {H:List O} {all:Array Oper} {rest:List Oper}:
  awpOp P ⟨d,op,ty,pos,aft,g⟩ ⟨t,H⟩ (fun st'=>awpOps P all rest st' (qF P n Q F .normal))=opS P n d pos op t H all rest F Q:=by
 unfold awpOp opS;split
 ·rename_i f args I h0
  simp only at h0;subst h0;simp only[Op.fnOf,yke,zy8];split<;>simp_all [St.put,awpS,qF,zq1]<;>rfl
 ·rename_i h0
  have:Op.fnOf op=none:=by
   cases op with
   |call c=>
    obtain⟨cl,args,I⟩:=c
    cases cl with
    |value f=>exact(h0 f args I rfl).elim
    |invoke r m=>rfl
    |builtin b=>rfl
   |_=>rfl
  rw[this,zy8];rfl
theorem yme {all:Array Oper} {d:Option Nat} {op:Op} {ty:TypeId} {pos:String} {aft:Array Edge} {rest:List Oper} {t:List (Nat×V)} {H:List O}:
  awpS P n (.ops all (⟨d,op,ty,pos,aft,none⟩::rest)::F) ⟨t,H⟩ Q=opS P n d pos op t H all rest F Q:=by
 rw[<-z8l (ty:=ty) (pos:=pos) (aft:=aft) (g:=none)];rfl
def gdst (all:Array Oper) (j:Nat):Nat:=((all[j]?).bind (·.dst)).getD 0
def gval (all:Array Oper) (j:Nat) (t:List (Nat×V)):Option V:=((all[j]?).bind (·.dst)).map (look t)
def zrq (P:Program) (n:Cf) (c:Option V) (g:Nat) (want:Bool) (d:Nat) (pos:String) (op:Op) (t:List (Nat×V)) (H:List O) (all:Array Oper) (rest:List Oper) (F:List Fr) (Q:Ex->St->Prop):Prop:=
 match c with
 |some (.one (.bool b))=>(b=want->opS P n (some d) pos op ((g,.one (.bool want))::t) H all rest F Q)/\(b=(!want)->awpS P n (.ops all rest::F) ⟨(d,.tup [])::(g,.one (.bool (!want)))::t,H⟩ Q)
 |some (.tup [])=>awpS P n (.ops all rest::F) ⟨(d,.tup [])::t,H⟩ Q
 |_=>False
theorem yio {all:Array Oper} {d:Nat} {op:Op} {ty:TypeId} {pos:String} {aft:Array Edge} {j:Nat} {want:Bool} {rest:List Oper} {t:List (Nat×V)} {H:List O}:
  awpS P n (.ops all (⟨some d,op,ty,pos,aft,some (j,want)⟩::rest)::F) ⟨t,H⟩ Q=zrq P n (gval all j t) (gdst all j) want d pos op t H all rest F Q:=by
 simp only[awpS,qF,zq1,awpOps,guarded2,gval,gdst,zrq]
 cases h:(all[j]?).bind (·.dst)with
 |none=>simp
 |some g=>
  simp only[Wbq,WaI]
  cases look t g with
  |one c=>
   cases c with
   |bool b=>
    simp only;rw[z8l];rfl
   |_=>rfl
  |tup l=>cases l<;>rfl
  |_=>rfl
theorem g_un {want:Bool} {g d:Nat} {pos:String} {op:Op} {t:List (Nat×V)} {H:List O} {all:Array Oper} {rest:List Oper}:zrq P n (some (.tup [])) g want d pos op t H all rest F Q=awpS P n (.ops all rest::F) ⟨(d,.tup [])::t,H⟩ Q:=rfl
theorem g_b {b want:Bool} {g d:Nat} {pos:String} {op:Op} {t:List (Nat×V)} {H:List O} {all:Array Oper} {rest:List Oper}:zrq P n (some (.one (.bool b))) g want d pos op t H all rest F Q=
 ((b=want->opS P n (some d) pos op ((g,.one (.bool want))::t) H all rest F Q)/\(b=(!want)->awpS P n (.ops all rest::F) ⟨(d,.tup [])::(g,.one (.bool (!want)))::t,H⟩ Q)):=rfl
theorem g_tt {g d:Nat} {pos:String} {op:Op} {t:List (Nat×V)} {H:List O} {all:Array Oper} {rest:List Oper}:zrq P n (some (.one (.bool true))) g true d pos op t H all rest F Q=opS P n (some d) pos op ((g,.one (.bool true))::t) H all rest F Q:=by simp[zrq]
theorem g_ff {g d:Nat} {pos:String} {op:Op} {t:List (Nat×V)} {H:List O} {all:Array Oper} {rest:List Oper}:zrq P n (some (.one (.bool false))) g false d pos op t H all rest F Q=opS P n (some d) pos op ((g,.one (.bool false))::t) H all rest F Q:=by simp[zrq]
theorem g_tf {g d:Nat} {pos:String} {op:Op} {t:List (Nat×V)} {H:List O} {all:Array Oper} {rest:List Oper}:zrq P n (some (.one (.bool true))) g false d pos op t H all rest F Q=awpS P n (.ops all rest::F) ⟨(d,.tup [])::(g,.one (.bool true))::t,H⟩ Q:=by simp[zrq]
theorem g_ft {g d:Nat} {pos:String} {op:Op} {t:List (Nat×V)} {H:List O} {all:Array Oper} {rest:List Oper}:zrq P n (some (.one (.bool false))) g true d pos op t H all rest F Q=awpS P n (.ops all rest::F) ⟨(d,.tup [])::(g,.one (.bool false))::t,H⟩ Q:=by simp[zrq]
theorem ysp {all:Array Oper} {N:List Fo} {t:List (Nat×V)} {H:List O}:awpS P n (.draw all [] N::F) ⟨t,H⟩ Q=awpS P n F ⟨t,H++N.map Fo.o⟩ Q:=rfl
def z3v (P:Program) (n:Cf) (r:R) (H:List O) (d:Option Nat) (all:Array Oper) (rest:List Oper) (N:List Fo) (F:List Fr) (t:List (Nat×V)) (Q:Ex->St->Prop):Prop:=
 r.pre/\(r.fact->r.h=H/\awpS P n (.draw all rest N::F) (St.put ⟨t,H⟩ d r.v H) Q)
theorem yql {p f:Prop} {v:V} {h:List O} {d:Nat} {all:Array Oper} {rest:List Oper} {N:List Fo} {t:List (Nat×V)}:z3v P n ⟨p,f,v,h⟩ h (some d) all rest N F t Q=(p/\(f->awpS P n (.draw all rest N::F) ⟨(d,v)::t,h⟩ Q)):=by simp[z3v,St.put]
theorem sd_t {p:Prop} {v:V} {h:List O} {d:Nat} {all:Array Oper} {rest:List Oper} {N:List Fo} {t:List (Nat×V)}:z3v P n ⟨p,True,v,h⟩ h (some d) all rest N F t Q=(p/\awpS P n (.draw all rest N::F) ⟨(d,v)::t,h⟩ Q):=by simp[z3v,St.put]
theorem yqk {v:V} {h:List O} {d:Nat} {all:Array Oper} {rest:List Oper} {N:List Fo} {t:List (Nat×V)}:z3v P n (R.ok v h) h (some d) all rest N F t Q=awpS P n (.draw all rest N::F) ⟨(d,v)::t,h⟩ Q:=by simp[z3v,St.put,R.ok]
def CtD (P:Program) (n:Cf) (g:FuncId) (args:List V) (H:List O) (d:Option Nat) (all:Array Oper) (rest:List Oper) (N:List Fo) (F:List Fr) (t:List (Nat×V)) (Q:Ex->St->Prop):Prop:=
 ∃x,Ct P g args H (fun v H'=>v=x/\H'=H)/\awpS P n (.draw all rest N::F) (St.put ⟨t,H⟩ d x H) Q
def ykg (P:Program) (n:Cf) (f:V) (args:List V) (H:List O) (d:Option Nat) (all:Array Oper) (rest:List Oper) (N:List Fo) (F:List Fr) (t:List (Nat×V)) (Q:Ex->St->Prop):Prop:=
 match f with
 |.one (.fn g cap)=>CtD P n g (args++cap.map V.one) H d all rest N F t Q
 |_=>False
theorem yfs {g:FuncId} {cap:List C} {args:List V} {H:List O} {d:Option Nat} {all:Array Oper} {rest:List Oper} {N:List Fo} {t:List (Nat×V)}:ykg P n (.one (.fn g cap)) args H d all rest N F t Q=CtD P n g (args++cap.map V.one) H d all rest N F t Q:=rfl
def zxf (P:Program) (n:Cf) (d:Option Nat) (pos:String) (op:Op) (t:List (Nat×V)) (H:List O) (all:Array Oper) (rest:List Oper) (N:List Fo) (F:List Fr) (Q:Ex->St->Prop):Prop:=
 match Op.fnOf op with
 |some (f,args)=>ykg P n (rhoL t f) (args.toList.map (rhoL t)) H d all rest N F t Q
 |none=>z3v P n (zdu P pos op (rhoL t) H) H d all rest N F t Q
theorem ydd {d:Option Nat} {op:Op} {ty:TypeId} {pos:String} {aft:Array Edge} {g:Option (Nat×Bool)} {t:List (Nat×V)} {H:List O} {all:Array Oper} {rest:List Oper} {N:List Fo}:
  awpQ P ⟨d,op,ty,pos,aft,g⟩ ⟨t,H⟩ (fun st'=>awpDraw P all rest N st' (qF P n Q F .normal))=zxf P n d pos op t H all rest N F Q:=by
 unfold awpQ zxf;split
 ·rename_i f args I h0
  simp only at h0;subst h0;simp only[Op.fnOf,ykg,CtD,zy8];split<;>simp_all [awpS,qF,zq1]<;>rfl
 ·rename_i h0
  have:Op.fnOf op=none:=by
   cases op with
   |call c=>
    obtain⟨cl,args,I⟩:=c
    cases cl with
    |value f=>exact(h0 f args I rfl).elim
    |invoke r m=>rfl
    |builtin b=>rfl
   |_=>rfl
  rw[this,zy8];simp only[yc8,z3v]
  apply propext
  constructor
  ·rintro⟨h1,h2⟩;refine⟨h1,fun hf=>?_⟩;obtain⟨a,b⟩:=h2 hf;rw[a]at b;exact⟨a,b⟩
  ·rintro⟨h1,h2⟩;refine⟨h1,fun hf=>?_⟩;obtain⟨a,b⟩:=h2 hf;rw[a];exact⟨rfl,b⟩
def zw5 (op:Op) (N:List Fo):Prop:=N=[]\/z8q ⟨none,op,0,"", #[],none⟩ N=true
theorem yk7 {op:Op}:zw5 op []=True:=by simp[zw5]
theorem yhh {op:Op} {x:Fo} {N:List Fo}:zw5 op (x::N)=(z8q ⟨none,op,0,"", #[],none⟩ (x::N)=true):=by simp[zw5]
theorem z62 {d:Option Nat} {op:Op} {ty:TypeId} {pos:String} {aft:Array Edge} {g:Option (Nat×Bool)} {N:List Fo}:(z8q ⟨d,op,ty,pos,aft,g⟩ N=true)=zw5 op N:=by
 unfold zw5
 apply propext
 constructor
 ·intro h;exact .inr h
 ·rintro(rfl|h)
  ·rfl
  ·exact h
def z4w (P:Program) (d:Option Nat) (op:Op) (t:List (Nat×V)) (m:Nat) (N:List Fo):Option (Prop×V×List Fo):=
 match d,op with
 |some d,.alloc ty=>match tZ P ty with
  |some z=>match z.cs with
   |some cs=>some (True,.one (.ref (m+N.length) 1 0 0),N++[⟨.cells 1 cs.length [cs],false,d⟩])
   |none=>none
  |none=>none
 |some d,.box _ x=>match(rhoL t x).cs with
  |some cs=>some (True,.one (.ref (m+N.length) 1 0 0),N++[⟨.cells 1 cs.length [cs],false,d⟩])
  |none=>none
 |none,.store ty (.tmp s) x=>match look t s,(rhoL t x).cs,tAg P ty with
  |.one (.ref id 1 0 off),some cs,some (_,n)=>if m<=id then(match N[id-m]? with
   |some ⟨.cells 1 sz [row],false,d⟩=>some (d=s/\off+cs.length<=row.length/\cs.length=n,.un,N.set (id-m) ⟨.cells 1 sz [zen row off cs],true,d⟩)
   |_=>none)else none
  |_,_,_=>none
 |_,_=>none
theorem yfa {d:Option Nat} {op:Op} {ty:TypeId} {pos:String} {aft:Array Edge} {t:List (Nat×V)} {H:List O} {N:List Fo}:zvh P ⟨d,op,ty,pos,aft,none⟩ ⟨t,H⟩ N=z4w P d op t H.length N:=by
 unfold zvh z4w
 cases d<;>cases op<;>simp only[zy8]<;>try rfl
 rename_i ty a x;cases a<;>rfl
theorem yi9 {d:Option Nat} {op:Op} {ty:TypeId} {pos:String} {aft:Array Edge} {g:Nat×Bool} {st:St} {N:List Fo}:zvh P ⟨d,op,ty,pos,aft,some g⟩ st N=none:=by
 unfold zvh;rfl
def z8b (P:Program) (n:Cf) (r:Option (Prop×V×List Fo)) (d:Option Nat) (pos:String) (op:Op) (t:List (Nat×V)) (H:List O) (all:Array Oper) (here rest:List Oper) (N:List Fo) (F:List Fr) (Q:Ex->St->Prop):Prop:=
 match r with
 |some (p,v,I)=>p/\awpS P n (.draw all rest I::F) (St.put ⟨t,H⟩ d v H) Q
 |none=>match effT pos op with
  |true=>zzl P all (all.size-here.length) t/\awpS P n (.ops all here::F) ⟨t,H++N.map Fo.o⟩ Q
  |false=>zw5 op N/\zxf P n d pos op t H all rest N F Q
theorem yi8 {p:Prop} {v:V} {N I:List Fo} {d:Nat} {pos:String} {op:Op} {t:List (Nat×V)} {H:List O} {all:Array Oper} {here rest:List Oper}:z8b P n (some (p,v,I)) (some d) pos op t H all here rest N F Q=(p/\awpS P n (.draw all rest I::F) ⟨(d,v)::t,H⟩ Q):=rfl
theorem ye9 {p:Prop} {v:V} {N I:List Fo} {pos:String} {op:Op} {t:List (Nat×V)} {H:List O} {all:Array Oper} {here rest:List Oper}:z8b P n (some (p,v,I)) none pos op t H all here rest N F Q=(p/\awpS P n (.draw all rest I::F) ⟨t,H⟩ Q):=rfl
theorem ycf {N:List Fo} {d:Option Nat} {pos:String} {op:Op} {t:List (Nat×V)} {H:List O} {all:Array Oper} {here rest:List Oper}:z8b P n none d pos op t H all here rest N F Q=(match effT pos op with
 |true=>zzl P all (all.size-here.length) t/\awpS P n (.ops all here::F) ⟨t,H++N.map Fo.o⟩ Q
 |false=>zw5 op N/\zxf P n d pos op t H all rest N F Q):=rfl
theorem yor {all:Array Oper} {d:Option Nat} {op:Op} {ty:TypeId} {pos:String} {aft:Array Edge} {rest:List Oper} {N:List Fo} {t:List (Nat×V)} {H:List O}:
  awpS P n (.draw all (⟨d,op,ty,pos,aft,none⟩::rest) N::F) ⟨t,H⟩ Q=z8b P n (z4w P d op t H.length N) d pos op t H all (⟨d,op,ty,pos,aft,none⟩::rest) rest N F Q:=by
 show awpDraw P all _ N _ _=_
 rw[awpDraw,yfa]
 cases z4w P d op t H.length N with
 |some r=>obtain⟨p,v,I⟩:=r;rfl
 |none=>
  rw[ycf];simp only
  cases effT pos op with
  |true=>rfl
  |false=>simp only[z62];rw[<-ydd (ty:=ty) (aft:=aft) (g:=none)];rfl
def zrr (P:Program) (n:Cf) (c:Option V) (g:Nat) (want:Bool) (d:Nat) (pos:String) (op:Op) (t:List (Nat×V)) (H:List O) (all:Array Oper) (rest:List Oper) (N:List Fo) (F:List Fr) (Q:Ex->St->Prop):Prop:=
 match c with
 |some (.one (.bool b))=>(b=want->zxf P n (some d) pos op ((g,.one (.bool want))::t) H all rest N F Q)/\(b=(!want)->awpS P n (.draw all rest N::F) ⟨(d,.tup [])::(g,.one (.bool (!want)))::t,H⟩ Q)
 |some (.tup [])=>awpS P n (.draw all rest N::F) ⟨(d,.tup [])::t,H⟩ Q
 |_=>False
def ycc (P:Program) (n:Cf) (e:Bool) (c:Option V) (g:Nat) (want:Bool) (d:Nat) (pos:String) (op:Op) (t:List (Nat×V)) (H:List O) (all:Array Oper) (here rest:List Oper) (N:List Fo) (F:List Fr) (Q:Ex->St->Prop):Prop:=
 match e with
 |true=>zzl P all (all.size-here.length) t/\awpS P n (.ops all here::F) ⟨t,H++N.map Fo.o⟩ Q
 |false=>zw5 op N/\zrr P n c g want d pos op t H all rest N F Q
theorem yj7 {all:Array Oper} {d:Nat} {op:Op} {ty:TypeId} {pos:String} {aft:Array Edge} {j:Nat} {want:Bool} {rest:List Oper} {N:List Fo} {t:List (Nat×V)} {H:List O}:
  awpS P n (.draw all (⟨some d,op,ty,pos,aft,some (j,want)⟩::rest) N::F) ⟨t,H⟩ Q=ycc P n (effT pos op) (gval all j t) (gdst all j) want d pos op t H all (⟨some d,op,ty,pos,aft,some (j,want)⟩::rest) rest N F Q:=by
 show awpDraw P all _ N _ _=_
 rw[awpDraw,yi9];simp only[ycc]
 cases effT pos op with
 |true=>rfl
 |false=>
  simp only[z62,awpS,qF,zq1,guarded2,gval,gdst,zrr]
  cases h:(all[j]?).bind (·.dst)with
  |none=>simp
  |some g=>
   simp only[Wbq,WaI]
   cases look t g with
   |one c=>
    cases c with
    |bool b=>
     simp only;rw[ydd];rfl
    |_=>rfl
   |tup l=>cases l<;>rfl
   |_=>rfl
theorem ysb {want:Bool} {g d:Nat} {pos:String} {op:Op} {t:List (Nat×V)} {H:List O} {all:Array Oper} {rest:List Oper} {N:List Fo}:zrr P n (some (.tup [])) g want d pos op t H all rest N F Q=awpS P n (.draw all rest N::F) ⟨(d,.tup [])::t,H⟩ Q:=rfl
theorem gd_b {b want:Bool} {g d:Nat} {pos:String} {op:Op} {t:List (Nat×V)} {H:List O} {all:Array Oper} {rest:List Oper} {N:List Fo}:zrr P n (some (.one (.bool b))) g want d pos op t H all rest N F Q=
 ((b=want->zxf P n (some d) pos op ((g,.one (.bool want))::t) H all rest N F Q)/\(b=(!want)->awpS P n (.draw all rest N::F) ⟨(d,.tup [])::(g,.one (.bool (!want)))::t,H⟩ Q)):=rfl
theorem ysc {g d:Nat} {pos:String} {op:Op} {t:List (Nat×V)} {H:List O} {all:Array Oper} {rest:List Oper} {N:List Fo}:zrr P n (some (.one (.bool true))) g true d pos op t H all rest N F Q=zxf P n (some d) pos op ((g,.one (.bool true))::t) H all rest N F Q:=by simp[zrr]
theorem ysf {g d:Nat} {pos:String} {op:Op} {t:List (Nat×V)} {H:List O} {all:Array Oper} {rest:List Oper} {N:List Fo}:zrr P n (some (.one (.bool false))) g false d pos op t H all rest N F Q=zxf P n (some d) pos op ((g,.one (.bool false))::t) H all rest N F Q:=by simp[zrr]
theorem ysd {g d:Nat} {pos:String} {op:Op} {t:List (Nat×V)} {H:List O} {all:Array Oper} {rest:List Oper} {N:List Fo}:zrr P n (some (.one (.bool true))) g false d pos op t H all rest N F Q=awpS P n (.draw all rest N::F) ⟨(d,.tup [])::(g,.one (.bool true))::t,H⟩ Q:=by simp[zrr]
theorem yse {g d:Nat} {pos:String} {op:Op} {t:List (Nat×V)} {H:List O} {all:Array Oper} {rest:List Oper} {N:List Fo}:zrr P n (some (.one (.bool false))) g true d pos op t H all rest N F Q=awpS P n (.draw all rest N::F) ⟨(d,.tup [])::(g,.one (.bool false))::t,H⟩ Q:=by simp[zrr]
theorem ysj {S Fl FE:List Nat} {k:Nat}:awpS P n (.flo S Fl FE k []::F) st Q=awpS P n F st Q:=rfl
def flS (P:Program) (b:Bool) (pos:String) (op:Op) (t:List (Nat×V)) (H:List O) (S:List Nat):Prop:=match b with
 |true=>zwp P pos op (rhoL t) H S
 |false=>True
def flA (b:Bool) (S:List Nat) (H H1:List O):Prop:=match b with
 |true=>zo2 S H H1
 |false=>True
theorem ysg {pos:String} {op:Op} {t:List (Nat×V)} {H:List O} {S:List Nat}:flS P false pos op t H S=True:=rfl
theorem ysi {S:List Nat} {H H1:List O}:flA false S H H1=True:=rfl
theorem ysh {S:List Nat} {H H1:List O}:flA true S H H1=zo2 S H H1:=rfl
theorem zyu {H H1:List O}:zo2 [] H H1=True:=by simp[zo2]
theorem zyv {i:Nat} {S:List Nat} {H H1:List O}:zo2 (i::S) H H1=(H1[i]? =H[i]? /\zo2 S H H1):=by simp[zo2]
def z4b (P:Program) (n:Cf) (r:R) (H:List O) (fl:Prop) (d:Option Nat) (S Fl FE:List Nat) (k:Nat) (rest:List Oper) (F:List Fr) (t:List (Nat×V)) (Q:Ex->St->Prop):Prop:=
 r.pre/\r.h=H/\fl/\awpS P n (.flo S Fl FE (k+1) rest::F) (St.put ⟨t,H⟩ d r.v H) Q
theorem yq5 {p f fl:Prop} {v:V} {h:List O} {d:Nat} {S Fl FE:List Nat} {k:Nat} {rest:List Oper} {t:List (Nat×V)}:z4b P n ⟨p,f,v,h⟩ h fl (some d) S Fl FE k rest F t Q=(p/\fl/\awpS P n (.flo S Fl FE (k+1) rest::F) ⟨(d,v)::t,h⟩ Q):=by simp[z4b,St.put]
theorem yq4 {fl:Prop} {v:V} {h:List O} {d:Nat} {S Fl FE:List Nat} {k:Nat} {rest:List Oper} {t:List (Nat×V)}:z4b P n (R.ok v h) h fl (some d) S Fl FE k rest F t Q=(fl/\awpS P n (.flo S Fl FE (k+1) rest::F) ⟨(d,v)::t,h⟩ Q):=by simp[z4b,St.put,R.ok]
def zxy (P:Program) (n:Cf) (r:R) (H:List O) (d:Option Nat) (S Fl FE:List Nat) (k:Nat) (rest:List Oper) (F:List Fr) (t:List (Nat×V)) (Q:Ex->St->Prop):Prop:=
 r.pre/\flA (FE.contains k) S H r.h/\awpS P n (.flo S Fl FE (k+1) rest::F) (St.put ⟨t,H⟩ d r.v r.h) Q
theorem yso {p f:Prop} {v:V} {h H:List O} {d:Nat} {S Fl FE:List Nat} {k:Nat} {rest:List Oper} {t:List (Nat×V)}:zxy P n ⟨p,f,v,h⟩ H (some d) S Fl FE k rest F t Q=(p/\flA (FE.contains k) S H h/\awpS P n (.flo S Fl FE (k+1) rest::F) ⟨(d,v)::t,h⟩ Q):=by simp[zxy,St.put]
theorem yom {p f:Prop} {v:V} {h H:List O} {S Fl FE:List Nat} {k:Nat} {rest:List Oper} {t:List (Nat×V)}:zxy P n ⟨p,f,v,h⟩ H none S Fl FE k rest F t Q=(p/\flA (FE.contains k) S H h/\awpS P n (.flo S Fl FE (k+1) rest::F) ⟨t,h⟩ Q):=by simp[zxy,St.put]
theorem ysn {v:V} {h H:List O} {d:Nat} {S Fl FE:List Nat} {k:Nat} {rest:List Oper} {t:List (Nat×V)}:zxy P n (R.ok v h) H (some d) S Fl FE k rest F t Q=(flA (FE.contains k) S H h/\awpS P n (.flo S Fl FE (k+1) rest::F) ⟨(d,v)::t,h⟩ Q):=by simp[zxy,St.put,R.ok]
theorem yol {v:V} {h H:List O} {S Fl FE:List Nat} {k:Nat} {rest:List Oper} {t:List (Nat×V)}:zxy P n (R.ok v h) H none S Fl FE k rest F t Q=(flA (FE.contains k) S H h/\awpS P n (.flo S Fl FE (k+1) rest::F) ⟨t,h⟩ Q):=by simp[zxy,St.put,R.ok]
def CtF (P:Program) (n:Cf) (g:FuncId) (args:List V) (H:List O) (d:Option Nat) (S Fl FE:List Nat) (k:Nat) (rest:List Oper) (F:List Fr) (t:List (Nat×V)) (Q:Ex->St->Prop):Prop:=
 ∃x H1,Ct P g args H (fun v H'=>v=x/\H'=H1)/\flA (FE.contains k) S H H1/\awpS P n (.flo S Fl FE (k+1) rest::F) (St.put ⟨t,H⟩ d x H1) Q
def ykf (P:Program) (n:Cf) (f:V) (args:List V) (H:List O) (d:Option Nat) (S Fl FE:List Nat) (k:Nat) (rest:List Oper) (F:List Fr) (t:List (Nat×V)) (Q:Ex->St->Prop):Prop:=
 match f with
 |.one (.fn g cap)=>CtF P n g (args++cap.map V.one) H d S Fl FE k rest F t Q
 |_=>False
theorem yfr {g:FuncId} {cap:List C} {args:List V} {H:List O} {d:Option Nat} {S Fl FE:List Nat} {k:Nat} {rest:List Oper} {t:List (Nat×V)}:ykf P n (.one (.fn g cap)) args H d S Fl FE k rest F t Q=CtF P n g (args++cap.map V.one) H d S Fl FE k rest F t Q:=rfl
def z6b (P:Program) (n:Cf) (e:Bool) (I:Option (Operand×Array Operand)) (d:Option Nat) (pos:String) (op:Op) (t:List (Nat×V)) (H:List O) (S Fl FE:List Nat) (k:Nat) (rest:List Oper) (F:List Fr) (Q:Ex->St->Prop):Prop:=
 match e with
 |true=>match I with
  |some (f,args)=>ykf P n (rhoL t f) (args.toList.map (rhoL t)) H d S Fl FE k rest F t Q
  |none=>zxy P n (zdu P pos op (rhoL t) H) H d S Fl FE k rest F t Q
 |false=>z4b P n (zdu P pos op (rhoL t) H) H (flS P (Fl.contains k) pos op t H S) d S Fl FE k rest F t Q
theorem yb4 (op:Op):z77 op=(Op.fnOf op).isSome:=by
 cases op with
 |call c=>
  obtain⟨cl,args,I⟩:=c;cases cl<;>rfl
 |_=>rfl
theorem ym3 {b:Bool} {pos:String} {op:Op} {t:List (Nat×V)} {H:List O} {S:List Nat}:(b=true->zwp P pos op (rhoL t) H S)=flS P b pos op t H S:=by cases b<;>simp[flS]
theorem ym4 {b:Bool} {S:List Nat} {H H1:List O}:(b=true->zo2 S H H1)=flA b S H H1:=by cases b<;>simp[flA]
theorem yof {S Fl FE:List Nat} {k:Nat} {d:Option Nat} {op:Op} {ty:TypeId} {pos:String} {aft:Array Edge} {rest:List Oper} {t:List (Nat×V)} {H:List O}:
  awpS P n (.flo S Fl FE k (⟨d,op,ty,pos,aft,none⟩::rest)::F) ⟨t,H⟩ Q=z6b P n (effO op||(Op.fnOf op).isSome) (Op.fnOf op) d pos op t H S Fl FE k rest F Q:=by
 show awpF P S Fl FE k _ _ _=_
 rw[awpF];simp only[effF,yb4,z6b,zy8,ym3,ym4]
 cases he:(effO op||(Op.fnOf op).isSome)with
 |false=>rfl
 |true=>
  simp only;split
  ·rename_i f args I
   simp only[Op.fnOf,ykf];split
   ·rename_i hf;rw[hf];rfl
   ·rename_i hf
    split
    ·rename_i U;exact(hf _ _ U).elim
    ·rfl
  ·rename_i h0
   have:Op.fnOf op=none:=by
    cases op with
    |call c=>
     obtain⟨cl,args,I⟩:=c
     cases cl with
     |value f=>exact(h0 f args I rfl).elim
     |invoke r m=>rfl
     |builtin b=>rfl
    |_=>rfl
   rw[this];rfl
theorem yq7 {rs:List ResultVar} {K:V->List O->Prop}:endK P rs K .normal st=resK P rs st K:=rfl
theorem yl1 {rs:List ResultVar} {K:V->List O->Prop}:endK P rs K .ret st=resK P rs st K:=rfl
theorem yq3 {i:Nat} {t:List (Nat×V)} {H:List O} {K:V->List O->Prop}:resK P [.tmp i] ⟨t,H⟩ K=K (look t i) H:=by simp[resK,zks]
theorem ylw {t:List (Nat×V)} {H:List O} {K:V->List O->Prop}:resK P [] ⟨t,H⟩ K=K (.tup []) H:=by simp[resK]
theorem yq2 {i j:Nat} {t:List (Nat×V)} {H:List O} {K:V->List O->Prop}:resK P [.tmp i,.tmp j] ⟨t,H⟩ K=K (.tup [look t i,look t j]) H:=by simp[resK,zks]
theorem yh7 {i j k:Nat} {t:List (Nat×V)} {H:List O} {K:V->List O->Prop}:resK P [.tmp i,.tmp j,.tmp k] ⟨t,H⟩ K=K (.tup [look t i,look t j,look t k]) H:=by simp[resK,zks]
theorem yot {f:FuncId} {args I:List V} {H:List O} {d:Nat} {all:Array Oper} {rest:List Oper} {N:List Fo} {t:List (Nat×V)} {x:V} (h:Pu P f I x) (ha:args.map (V.view H)=I) (hl:ltVs 0 I=true) (U:x.lt 0=true)
 (hb:args.all (fun a=> !a.own)=true\/x.scalar=true) (hk:awpS P n (.draw all rest N::F) ⟨(d,x)::t,H⟩ Q):CtD P n f args H (some d) all rest N F t Q:=⟨x,zvn h ha hl U hb ⟨rfl,rfl⟩,hk⟩
def yep (P:Program) (n:Cf) (c:Code) (F:List Fr) (Q:Ex->St->Prop):Ex->St->Prop:=zq1 (fun st=>LoopS P n c F st Q) (qF P n Q F)
theorem yl0 {c:Code}:yep P n c F Q .normal st=LoopS P n c F st Q:=rfl
theorem yia {c:Code} {id:Nat}:yep P n c F Q (.exit id) st=zrs P n id F st Q:=rfl
theorem yh9 {c:Code} {l:Nat}:yep P n c F Q (.goto l) st=zw1 P n l F st Q:=rfl
theorem yh8 {c:Code}:yep P n c F Q .ret st=Q .ret st:=by show qF P n Q F .ret st=_;rw[zxg]
theorem z5l {c rest:Code} {l:Nat} (hf:findLabel c l=some rest) (I:okC n.n rest=true) (h:awpS P n (.code rest::.scp c::F) st Q):ygt P n l c F st Q:=
 ⟨rest,hf,I,zy6 I (awp.mono (c:=rest) h fun e s U=>by cases e<;>exact U)⟩
theorem z7n {body:Code} (ks:List Nat) (m:Nat) (s':St) (hm:n.m<=m) (I:zos m ks st.t=true) (U:((st.H.take m).all (O.lt m))=true) (e:(⟨zv9 ks st.t,st.H.take m⟩:St)=s') (h:LoopS P n body F s' Q):LoopS P n body F st Q:=
 LoopSem.purge ks m hm I U (e▸h)
end
theorem z89 {m:Nat} {rows:List (List C)} {i:Nat} {r:List C} (h:zcn m rows=true) (hr:zem m r=true):zcn m (rows.set i r)=true:=by
 rw[ltRows_iff]at*;intro x I;rcases WbZ I with I|rfl;exact h x I;exact hr
theorem z9a {m n:Nat} {r:List C} (hr:zem m r=true):zcn m (List.replicate n r)=true:=by
 rw[ltRows_iff];intro x I;rw[WbC I];exact hr
theorem z9c {m:Nat} {a b:List (List C)}:zcn m (a++b)=(zcn m a&&zcn m b):=by
 rw[Wa1,Wan];simp only[ltRows_iff,WaN];exact⟨fun h=>⟨fun r hr=>h r (.inl hr),fun r hr=>h r (.inr hr)⟩,fun h r hr=>hr.elim (h.1 r) (h.2 r)⟩
theorem z52 {m k:Nat} {a:List (List C)} (h:zcn m a=true):zcn m (a.drop k)=true:=by
 rw[ltRows_iff]at*;exact fun r hr=>h r (Wa5 hr)
theorem z9b {m:Nat} {α:Type} (f:α->List C) (hf:∀a,zem m (f a)=true) (l:List α):zcn m (l.map f)=true:=by
 rw[ltRows_iff];intro r hr;obtain⟨a,_,rfl⟩:=Wau.1 hr;exact hf a
theorem z51 {m:Nat} {α:Type} (f:α->List C) (l:List α):zcn m (l.map f)=true↔∀a∈l,zem m (f a)=true:=by
 rw[ltRows_iff];simp
attribute [irreducible] zrq zrr z3i
end Go.Lz

end
section
namespace Go.Lz
attribute [go_sem] yqq ysj yof yq5 yq4 yso yom ysn yol yfr yr7 ypa z6b zyp ymx floFn floPos ysg ysi ysh zyu zyv yqp ylq yhx yqm yhy yhw yqn yls yr6 ymv yr5 ymu yr8 yr4 yo7 yh9 isSh shF ylr yqr ylt yqo yo9 yku yo8 ykt ypb yd5 ylu ylv yib yic yro yqf st_t yqg ylg yqe ylh yfq Op.fnOf opS yme gdst gval yio g_un g_tt g_ff g_tf g_ft ysp yqk sd_t yql yfs zxf yor yi8 ye9 ycf z4w effT z77 ygf tailFn tailPos effO yk7 yhh z8q zbv ycc Op.operands z1c mput zxl keyB zsc zwx yj7 ysb ysc ysf ysd yse yq7 yl1 yq3 ylw yq2 yh7 yl0 yia yh8 zdu yd6 z8z yal yip V.ofV C.ofV loK hiK binF intF strF zuw zy3 zv5 newF ldV wd V.cs z6i z9l biZ z6a zyt zon fzC fzPc fzP andR zli biF lenF z2r unF z6j ze9 zxs zla zxn ztg zm8 znl yek mkPosL isMk z0a zln bnd z9p zx1 z9j znt z9i zen zwf zm7 V.view yf5 List.contains_cons List.contains_nil C.unf C.plain zuj z4c C.view vMsl vRef zle zip zld zpu yk1 yhb z61 ydq yg5 yg6 ypf yg7 yg8 yg9 yha yg1 yg2 yg3 yg4 yk2 yk3 yk4 yk5 ykz yg0 yk0 yky ykx ygy ygz List.isEmpty_nil List.isEmpty_cons V.lt C.lt zem zcn ltVs z3n V.own C.own V.scalar C.scalar zyc Int.natCast_zero Int.natCast_one Int.cast_ofNat_Int Int.toNat_natCast_add_one Int.ofNat_lt Int.ofNat_le Int.natCast_nonneg Option.map_none Option.isSome_none Option.isSome_some Option.isNone_none Option.isNone_some Nat.lt_irrefl zv9 zos nth z51 O.lt List.all_cons List.all_nil List.any_cons List.any_nil Bool.and_true Bool.true_and Bool.and_false Bool.false_and Bool.or_true Bool.or_false Bool.true_or Bool.false_or Bool.and_self decide_true decide_false decide_eq_true_eq decide_eq_false_iff_not List.map_cons List.map_nil List.append_nil List.nil_append List.cons_append List.length_cons List.length_nil List.getElem?_cons_zero List.getElem?_cons_succ List.getElem?_toArray List.length_map List.getD_eq_getElem?_getD List.getElem?_map Option.bind_some Option.map_some Option.getD_some List.take_succ_cons List.take_zero List.drop_succ_cons List.drop_zero List.set_cons_zero List.set_cons_succ List.replicate_succ List.replicate_zero List.mapM_cons List.mapM_nil Option.pure_def Option.bind_eq_bind Nat.zero_add Nat.add_zero Int.toNat_zero Int.toNat_natCast if_true if_false and_true true_and and_self ne_eq not_true_eq_false not_false_eq_true Bool.false_eq_true Bool.true_eq_false Bool.not_true Bool.not_false forall_const true_implies false_implies implies_true or_self or_false false_or gt_iff_lt Nat.sub_zero Nat.le_refl Option.some.injEq
attribute [go_sem] ownLitL fzPosL cvPosL eqF nilF z1z Lf.i.injEq Lf.b.injEq Lf.s.injEq List.cons.injEq
attribute [go_sem low] zl6 g_b gd_b
end Go.Lz

end
section
namespace Go.Lz
open Go.ChangeShapes Go.WideShapes Go.ChangeAt Go.RowKit
inductive Ty (P:Program):TypeId->List C->Prop
 |bool {t:TypeId} {b:Bool} (h:P.underlying t=some .bool):Ty P t [.bool b]
 |int {t:TypeId} {k:IntKind} {n:Int} (h:P.underlying t=some (.int k)) (hn:k.min<=n/\n<=k.max):Ty P t [.int k n]
 |str {t:TypeId} {s:List UInt8} (h:P.underlying t=some .string) (hl:s.length<=lim):Ty P t [.str s]
 |slice {t e:TypeId} {rows:List (List C)} (h:P.underlying t=some (.slice e)) (hl:rows.length<=lim) (hr:∀r∈rows,Ty P e r):Ty P t [.sl rows]
 |struct {t:TypeId} {fs:Array Field} {cs:List C} (h:P.underlying t=some (.struct fs)) (hl:cs.length=P.cellsOf t)
   (hf:∀f∈fs.toList,Ty P f.type ((cs.drop f.offset).take (P.cellsOf f.type))):Ty P t cs
 |array {t e:TypeId} {n:Nat} {cs:List C} (h:P.underlying t=some (.array n e)) (hl:cs.length=P.cellsOf t)
   (hf:∀i,i<n->Ty P e ((cs.drop (i*P.cellsOf e)).take (P.cellsOf e))):Ty P t cs
def ybr (P:Program):Nat->List Field->Option Nat
 |o,[]=>some o
 |o,f::fs=>if f.offset=o then ybr P (o+P.cellsOf f.type) fs else none
def ya0 (P:Program) (S:List TypeId) (t:TypeId):Bool:=
 match P.underlying t with
 |some .bool=>P.cellsOf t==1
 |some (.int _)=>P.cellsOf t==1
 |some .string=>P.cellsOf t==1
 |some (.slice e)=>P.cellsOf t==1&&(S.contains e&&(decide (0<P.bytesOf e)&&decide (0<P.cellsOf e)))
 |some (.struct fs)=>(ybr P 0 fs.toList==some (P.cellsOf t))&&fs.toList.all (fun f=>S.contains f.type)
 |some (.array n e)=>(n*P.cellsOf e==P.cellsOf t)&&S.contains e
 |_=>false
def z4d (P:Program) (S:List TypeId):Bool:=S.all (ya0 P S)
def Rel (E:Env) (vs:List Value) (cs:List C):Prop:=vs.length=cs.length/\∀(j:Nat) (c:C),cs[j]? =some c->∃v,vs[j]? =some v/\CRel E c v
theorem Rel.one {E:Env} {c:C} {v:Value} (h:CRel E c v):Rel E [v] [c]:=⟨rfl,fun j d I=>by
 cases j with
 |zero=>simp at I;subst I;exact⟨v,rfl,h⟩
 |succ j=>simp at I⟩
theorem Rel.app {E:Env} {a b:List Value} {x y:List C} (h:Rel E a x) (k:Rel E b y):Rel E (a++b) (x++y):=by
 refine⟨by simp[h.1,k.1],fun j c I=>?_⟩
 rcases WaG j x.length with U|aa
 ·rw[Wa8 U]at I
  rw[Wa8 (by rw[h.1];exact U)];exact h.2 j c I
 ·rw[WbD aa]at I
  rw[WbD (by rw[h.1];exact aa),h.1];exact k.2 _ c I
theorem z1x {P:Program} {E:Env} {vs:List Value} {I:Nat} (hlen:vs.length=I):∀(fs:List Field) (o:Nat),ybr P o fs=some I->
  (∀f∈fs,∃p,Rel E ((vs.drop f.offset).take (P.cellsOf f.type)) p/\Ty P f.type p/\p.length=P.cellsOf f.type)->
  o<=I/\∃q,Rel E (vs.drop o) q/\∀f∈fs,o<=f.offset/\Ty P f.type ((q.drop (f.offset-o)).take (P.cellsOf f.type))
 |[],o,h,_=>by
  simp only[ybr,WaP]at h;refine⟨by omega,[],⟨by simp;omega,by simp⟩,by simp⟩
 |f::fs,o,h,each=>by
  simp only[ybr]at h;split at h
  ·rename_i ho
   obtain⟨hle,q,hq,hf⟩:=z1x hlen fs _ h (fun g U=>each g (WbO _ U));obtain⟨p,hp,ht,aa⟩:=each f (WbP ..);refine⟨by omega,p++q,?_,fun g U=>?_⟩
   ·have:vs.drop o=(vs.drop o).take (P.cellsOf f.type)++vs.drop (o+P.cellsOf f.type):=by
     rw[<-List.drop_drop,WbU]
    rw[this,<-ho];exact hp.app (by rw[ho];exact hq)
   ·rcases WaB.1 U with rfl|U
    ·refine⟨by omega,?_⟩
     rw[ho,Wbf,WbG,<-aa,List.take_left];exact ht
    ·obtain⟨h1,h2⟩:=hf g U
     refine⟨by omega,?_⟩;rw[List.drop_append,Wbx (by omega),List.nil_append,aa,show g.offset-o-P.cellsOf f.type=g.offset-(o+P.cellsOf f.type) by omega];exact h2
  ·cases h
theorem z5d {P:Program} {E:Env} {vs:List Value} {e:TypeId} {n:Nat} (hlen:vs.length=n*P.cellsOf e)
  (each:∀i,i<n->∃p,Rel E ((vs.drop (i*P.cellsOf e)).take (P.cellsOf e)) p/\Ty P e p/\p.length=P.cellsOf e):∀k,k<=n->
  ∃q,Rel E (vs.take (k*P.cellsOf e)) q/\q.length=k*P.cellsOf e/\∀i,i<k->Ty P e ((q.drop (i*P.cellsOf e)).take (P.cellsOf e))
 |0,_=>⟨[],by simp[Rel],by simp,by simp⟩
 |k+1,hk=>by
  obtain⟨q,hq,I,hf⟩:=z5d hlen each k (by omega);obtain⟨p,hp,ht,U⟩:=each k (by omega);refine⟨q++p,?_,by simp[I,U,Wav],fun i hi=>?_⟩
  ·have:vs.take ((k+1)*P.cellsOf e)=vs.take (k*P.cellsOf e)++(vs.drop (k*P.cellsOf e)).take (P.cellsOf e):=by
    rw[Wav,Nat.one_mul,List.take_add]
   rw[this];exact hq.app hp
  ·rcases WaG i k with aa|ab
   ·have h1:(i+1)*P.cellsOf e<=k*P.cellsOf e:=WaH _ aa
    rw[Wav,Nat.one_mul]at h1;rw[List.drop_append_of_le_length (by omega),List.take_append_of_le_length (by simp;omega)];exact hf i aa
   ·obtain rfl:i=k:=by omega
    rw[<-I,List.drop_left,<-U,Wbs];exact ht
theorem zp5 {H:Type} {P:Program} {e:TypeId}:∀{l:List (DataW H)} {d:DataW H},d∈l->∀m∈d.weights P e,m∈DataW.weightsAll P e l
 |a::l,d,I,m,hm=>by
  simp only[DataW.weightsAll,WaN]
  rcases WaB.1 I with rfl|I
  ·exact .inl hm
  ·exact .inr (zp5 I m hm)
 |[],d,I,m,hm=>by simp at I
theorem yfv {b off i j:Nat}:((⟨b,off,none⟩:Addr).add i).add j=⟨b,off+(i+j),none⟩:=by
 simp only[Addr.add];split<;>split<;>simp_all [Waz]
theorem z38:reachBytes<=lim:=by decide
theorem enter {P:Program} {S:List TypeId} {E:Env} (ay:E.H=[]) (az:∀b,¬E.Fr b) (hp:z4d P S=true) {H:Type} {enc:TypeId×Value->H} {base:Nat} {sp:Nat->Bool} {held:Bool}:
  ∀(n:Nat) (t:TypeId) (vs:List Value) (x:DataW H×List MemPlace),t∈S->DataW.trod enc P E.w base sp held n t vs=some x->(∀m∈x.1.weights P t,m<=reachBytes)->
  ∃cs,Rel E vs cs/\Ty P t cs/\cs.length=P.cellsOf t:=by
 intro n
 induction n with
 |zero=>intro t vs x _ h;simp[DataW.trod]at h
 |succ n ih=>
  intro t vs x ht h hw
  have I:=Wak.1 hp t ht
  unfold ya0 at I;split at I
  ·rename_i hu
   obtain⟨b,rfl,rfl⟩:=DataW.trod_bool hu h;exact⟨[.bool b],.one .bool,.bool hu,by simp at I;simp[I]⟩
  ·rename_i k hu
   obtain⟨m,rfl,rfl,aA⟩:=DataW.trod_int hu h
   have hr:k.min<=m/\m<=k.max:=by simpa [Lit.wf]using aA
   exact⟨[.int k m],.one (.int hr),.int hu hr,by simp at I;simp[I]⟩
  ·rename_i hu
   obtain⟨s,rfl,rfl,hsz⟩:=DataW.trod_string hu h
   have hl:s.data.toList.length<=lim:=WaF (hw _ (by simp[DataW.weights])) z38
   exact⟨[.str s.data.toList],.one (.str rfl hl),.str hu hl,by simp at I;simp[I]⟩
  ·rename_i e hu
   simp only[Wan,beq_iff_eq,decide_eq_true_eq,Wcb]at I;obtain⟨an,aj,ak,aB⟩:=I
   rcases DataW.trod_slice hu h with⟨rfl,rfl⟩|⟨a,len,cap,elems,rest,n',ao,rfl,rfl,_,aC,_,hlen,aD,_,_⟩
   ·refine⟨[.sl []],.one (.sl (fun _ _=>undef) 0 rfl (by simp) (by simp) (by simp) (by simp) (by simp[at2])),.slice hu (by simp) (by simp),by simp[an]⟩
   ·obtain rfl:n=n':=by omega
    have each:∀i,∃r:List C,i<len->(Ty P e r/\r.length=P.cellsOf e/\∀j c,r[j]? =some c->∃v,E.w.cell? ((a.add (i*P.cellsOf e)).add j)=some v/\CRel E c v):=by
     intro i
     by_cases hi:i<len
     ·have h1:=aD i hi
      have af:i<elems.length:=by omega
      rw[Wac af,Wbk]at h1;obtain⟨aE,aF,hy⟩:=h1;obtain⟨_,aO,al⟩:=World.cells?_some aF
      obtain⟨cs,av,aG,U⟩:=ih e aE _ aj hy (fun m hm=>hw m (by
       simp only[DataW.weights,hu,WaB,WaN]
       exact .inr (.inl (zp5 (Wau.2 ⟨_,Wap af,rfl⟩) m hm))))
      refine⟨cs,fun _=>⟨aG,U,fun j c hj=>?_⟩⟩;obtain⟨v,hv,hr⟩:=av.2 j c hj
      have aH:j<P.cellsOf e:=by rw[<-U];exact(Wag.1 hj).1
      exact⟨v,by rw[al j aH];exact hv,hr⟩
     ·exact⟨[],fun h=>absurd h hi⟩
    obtain⟨f,ab⟩:=Classical.axiomOfChoice each
    have aa:len<=lim:=by
     have:=hw ((elems.length+rest.length)*P.bytesOf e) (by simp[DataW.weights,hu])
     have h2:elems.length*1<=(elems.length+rest.length)*P.bytesOf e:=Nat.mul_le_mul (by omega) ak
     have:=z38
     omega
    have aq:∀i j c,at2 ((List.range len).map f) i j=some c->i<len/\(f i)[j]? =some c:=by
     intro i j c ad;obtain⟨r,hr,hj⟩:=at2_some.1 ad;simp only[Wao,Wal]at hr;obtain⟨i',af,rfl⟩:=hr;obtain⟨ai,he⟩:=Wag.1 af;simp at ai he;subst he;exact⟨ai,hj⟩
    refine⟨[.sl ((List.range len).map f)],.one (.sl (fun i j=>(E.w.cell? ((a.add (i*P.cellsOf e)).add j)).getD undef) (P.cellsOf e) (by simp) (by simpa using aC) (by simpa using aa) ?_ ?_ ?_),.slice hu (by simpa using aa) ?_,by simp[an]⟩
    ·intro r hr
     obtain⟨i,hi,rfl⟩:=Wau.1 hr;exact(ab i (by simpa using hi)).2.1
    ·intro aI
     have aw:0<len:=by
      rcases Nat.eq_zero_or_pos len with h0|h0
      ·subst h0;simp at aI
      ·exact h0
     obtain⟨_,aP,aJ⟩:=ab 0 aw
     have aK:(f 0)[0]? =some ((f 0)[0]'(by omega)):=Wac _
     obtain⟨v,hv,_⟩:=aJ 0 _ aK
     have aL:(a.add (0*P.cellsOf e)).add 0=a:=by simp[Addr.add]
     rw[aL]at hv
     have aM:a.spot=none/\a.block<E.w.heap.size:=by
      unfold World.cell? at hv;split at hv
      ·rename_i hh
       split at hv
       ·cases hv
       ·rename_i hs
        exact⟨by simpa using hs,(Was.1 hh).1⟩
      ·cases hv
     obtain⟨b,off,spot⟩:=a;obtain⟨rfl,ai⟩:=aM;refine⟨b,off,rfl,⟨ai,az b,?_⟩,fun i j c ad=>?_⟩
     ·rintro⟨id,o,ho,_⟩
      simp[ay]at ho
     ·obtain⟨hi,hj⟩:=aq i j c ad
      obtain⟨v,hv,_⟩:=(ab i hi).2.2 j c hj;simp only[hv,WaI];rw[<-yfv];exact hv
    ·intro i j c ad
     obtain⟨hi,hj⟩:=aq i j c ad;obtain⟨v,hv,hr⟩:=(ab i hi).2.2 j c hj;simp only[hv,WaI];exact hr
    ·intro r hr
     obtain⟨i,hi,rfl⟩:=Wau.1 hr;exact(ab i (by simpa using hi)).1
  ·rename_i fs hu
   simp only[Wan,beq_iff_eq,Wak,Wcb,decide_eq_true_eq]at I;obtain⟨ax,aN⟩:=I;obtain⟨xs,n',ao,rfl,U,ar,hx⟩:=DataW.trod_struct hu h
   obtain rfl:n=n':=by omega
   obtain⟨_,q,hq,hf⟩:=z1x (E:=E) U fs.toList 0 ax (by
    intro f hf;obtain⟨i,hi⟩:=WbJ hf
    have au:fs[i]? =some f:=by simpa using hi
    have ae:i<xs.length:=by rw[ar];exact(Was.1 au).1
    have h1:=hx i f au
    rw[Wac ae]at h1
    exact ih f.type _ _ (aN f hf) h1 (fun m hm=>hw m (by
     simp only[DataW.weights,hu]
     exact DataW.weights_mem_each (j:=i) (t:=f.type) (d:=(xs[i]).1) (by rw[Wao,hi];rfl) (by rw[Wao,Wac ae];rfl) m hm)))
   have hl:q.length=P.cellsOf t:=by rw[<-hq.1];simpa using U
   exact⟨q,by simpa using hq,.struct hu hl fun f hm=>by simpa using(hf f hm).2,hl⟩
  ·rename_i k e hu
   simp only[Wan,beq_iff_eq,Wcb,decide_eq_true_eq]at I;obtain⟨hsz,aj⟩:=I;obtain⟨xs,n',ao,rfl,U,ar,hx⟩:=DataW.trod_array hu h
   obtain rfl:n=n':=by omega
   obtain⟨q,hq,aQ,hf⟩:=z5d (P:=P) (E:=E) (vs:=vs) (e:=e) (n:=k) (by omega) (by
    intro i hi
    have ae:i<xs.length:=by omega
    have h1:=hx i hi
    rw[Wac ae]at h1
    exact ih e _ _ aj h1 (fun m hm=>hw m (by
     simp only[DataW.weights,hu]
     exact zp5 (Wau.2 ⟨_,Wap ae,rfl⟩) m hm))) k (Wae k)
   have e1:vs.take (k*P.cellsOf e)=vs:=WaZ (by omega)
   rw[e1]at hq;exact⟨q,hq,.array hu (by omega) hf,by omega⟩
  ·cases I
def zrp (P:Program) (t:TypeId):Bool:=
 match P.underlying t with
 |some (.struct _)=>true
 |some (.array _ _)=>true
 |_=>false
inductive TyV (P:Program) (t:TypeId):V->Prop
 |one {c:C} (h:Ty P t [c]) (hu:zrp P t=false):TyV P t (.one c)
 |agg {cs:List C} (h:Ty P t cs) (hu:zrp P t=true):TyV P t (.agg cs)
def TysV (P:Program):List TypeId->List V->Prop
 |[],[]=>True
 |t::ts,x::xs=>TyV P t x/\TysV P ts xs
 |_,_=>False
theorem z6n {P:Program} {S:List TypeId} (U:z4d P S=true) {W:World} {base:Nat} {t:TypeId} {v:Value} (ht:t∈S) (hv:Value.okWide P W .any base t v) (hu:zrp P t=false):v.cells= #[v]:=by
 have I:=Wak.1 U t ht
 unfold ya0 at I;unfold zrp at hu;unfold Value.okWide at hv;split at I
 case h_5 fs he=>rw[he]at hu;cases hu
 case h_6 k e he=>rw[he]at hu;cases hu
 case h_7=>cases I
 all_goals
  rename_i he;simp only[he,Cell.okWide,Cell.ok]at hv
  cases v<;>first|rfl|(exact hv.elim)|(simp at hv)
theorem ycu {P:Program} {S:List TypeId} {E:Env} (ad:E.H=[]) (ae:∀b,¬E.Fr b) (hp:z4d P S=true) {H:Type} {enc:TypeId×Value->H} {base U:Nat} {sp:Nat->Bool} {held:Bool}
  {t:TypeId} {v:Value} {d:DataW H} {ps:List MemPlace} (ht:t∈S) (hv:Value.okWide P E.w .any U t v) (h:DataW.Trod enc P E.w base sp held t v d ps) (hw:∀m∈d.weights P t,m<=reachBytes):
  ∃X,VRel E X v/\TyV P t X:=by
 obtain⟨n,hn⟩:=h;obtain⟨cs,I,aa,hl⟩:=enter ad ae hp n t _ _ ht hn hw
 cases hu:zrp P t with
 |true=>
  have:∃vs,v=.agg vs:=by
   unfold zrp at hu;unfold Value.okWide at hv;split at hu
   ·rename_i he
    rw[he]at hv;obtain⟨vs,h,_⟩:=hv;exact⟨vs,h⟩
   ·rename_i he
    rw[he]at hv;obtain⟨vs,h,_⟩:=hv;exact⟨vs,h⟩
   ·cases hu
  obtain⟨vs,rfl⟩:=this;refine⟨.agg cs,.agg ?_ fun j c hj=>?_,.agg aa hu⟩
  ·simpa [Value.cells]using I.1
  ·obtain⟨u,hu,hr⟩:=I.2 j c hj
   simp only[Value.cells]at hu
   have:vs[j]? =some u:=by simpa using hu
   simp only[Wah,this,WaI];exact hr
 |false=>
  have hc:=z6n hp ht hv hu
  rw[hc]at I
  have h1:cs.length=1:=by simpa using I.1.symm
  obtain⟨c,rfl⟩:∃c,cs=[c]:=by
   cases cs with
   |nil=>simp at h1
   |cons c r=>cases r with
    |nil=>exact⟨c,rfl⟩
    |cons=>simp at h1
  obtain⟨u,ab,hr⟩:=I.2 0 c rfl;simp at ab;subst ab;exact⟨.one c,.one hr,.one aa hu⟩
theorem z48 {P:Program} {S:List TypeId} {E:Env} (ab:E.H=[]) (ad:∀b,¬E.Fr b) (hp:z4d P S=true) {H:Type} {enc:TypeId×Value->H} {base aa:Nat} {sp:Nat->Bool} {held:Bool}:
  ∀(ts:List TypeId) (vs:List Value) (I:List (DataW H)) (ps:List MemPlace),(∀t∈ts,t∈S)->(∀(j:Nat) t v,ts[j]? =some t->vs[j]? =some v->Value.okWide P E.w .any aa t v)->
  DataW.TrodAll enc P E.w base sp held ts vs I ps->(∀m∈DataW.weightsEach P ts I,m<=reachBytes)->
  ∃U,TysV P ts U/\vs.length=U.length/\I.length=ts.length/\∀(j:Nat) (x:V),U[j]? =some x->∃v,vs[j]? =some v/\VRel E x v
 |[],vs,I,ps,_,_,h,_=>by
  cases vs<;>cases I<;>simp[DataW.TrodAll]at h;exact⟨[],trivial,rfl,rfl,by simp⟩
 |t::ts,vs,I,ps,hS,hv,h,hw=>by
  cases vs with
  |nil=>cases I<;>simp[DataW.TrodAll]at h
  |cons v vs=>
   cases I with
   |nil=>simp[DataW.TrodAll]at h
   |cons d I=>
    obtain⟨p,q,h1,h2,_⟩:=h;obtain⟨X,hX,hT⟩:=ycu ab ad hp (hS t (WbP ..)) (hv 0 t v rfl rfl) h1 (fun m hm=>hw m (by simp[DataW.weightsEach,hm]))
    obtain⟨U,ae,hl,hd,af⟩:=z48 ab ad hp ts vs I q (fun t ht=>hS t (WbO _ ht)) (fun j t v h1 h2=>hv (j+1) t v (by simpa using h1) (by simpa using h2)) h2
     (fun m hm=>hw m (by simp[DataW.weightsEach,hm]))
    refine⟨X::U,⟨hT,ae⟩,by simp[hl],by simp[hd],fun j x hj=>?_⟩
    cases j with
    |zero=>simp at hj;subst hj;exact⟨v,rfl,hX⟩
    |succ j=>simpa using af j x (by simpa using hj)
theorem zz5 {P:Program} {H:Type} {enc:TypeId×Value->H} {w w':World} {base U:Nat} {sp ab:Nat->Bool} {held aa:Bool}:
  ∀(ts:List TypeId) (vs:List Value) (I:List (DataW H)) (ps:List MemPlace),(∀t∈ts,∀v d p,DataW.Trod enc P w base sp held t v d p->DataW.Trod enc P w' U ab aa t v d p)->
  DataW.TrodAll enc P w base sp held ts vs I ps->DataW.TrodAll enc P w' U ab aa ts vs I ps
 |[],vs,I,ps,_,h=>by
  cases vs<;>cases I<;>simp[DataW.TrodAll]at h|-;exact h
 |t::ts,vs,I,ps,hm,h=>by
  cases vs with
  |nil=>cases I<;>simp[DataW.TrodAll]at h
  |cons v vs=>
   cases I with
   |nil=>simp[DataW.TrodAll]at h
   |cons d I=>
    obtain⟨p,q,h1,h2,h3⟩:=h;exact⟨p,q,hm t (WbP ..) v d p h1,zz5 ts vs I q (fun t ht=>hm t (WbO _ ht)) h2,h3⟩
theorem Trans.below {E E':Env} (t:Trans E E') (I:E.H=[]):Below E.w.heap.size E.w E'.w:=
 ⟨t.os,t.tape,t.output,t.size,fun k U=>t.keep k U (by rintro⟨id,o,ho,_⟩;simp[I]at ho)⟩
theorem z4m {C:Checked} {os:Os} {f:FuncId} {fn:Func} {s:ChangeSpec} {conds:List PathCond} {H:Type} {enc:TypeId×Value->H} {b:TypeId} {S:List TypeId}
  (own:ownKnob C.prog.godebug=none) (started:os.Started) (ad:C.prog.inits.idxOf? f=none) (ar:C.prog.funcs[f]? =some fn)
  (witness:∃(w:World) (tape:Tape) (i:Input),w.os=os/\(w.forCall tape i).Shaped C.prog/\i.vars=[]/\Input.okWide C.prog (w.forCall tape i) .any w.heap.size f i/\
    s.pre6 enc C.prog fn conds false (w.forCall tape i).memory i.args/\({}:Assume).holds C.prog (lone (Frame.enter C.prog f i.args .normal) [] (w.forCall tape i)))
  (hp:z4d C.prog S=true) (U:fn.params.toList.all (fun t=>S.contains t&&C.prog.readableRec t&&decide (t<C.prog.types.size))=true) (ai:laidOutB C.prog=true)
  (ab:s.vars=[]) (ao:fn.resultTypes= #[b]) (hb:C.prog.underlying b=some .bool)
  (aa:∀(I:List (DataW H)),I.length=fn.params.toList.length->s.fn H I={results:=[.lit (.bool true)],args:=I})
  (au:∀Xs,TysV C.prog fn.params.toList Xs->conds=[]->Pu C.prog f Xs (.one (.bool true))) (aj:conds=[]) (av:GT=[]:=by rfl):
  ReturnsInHanded {} C os f .any (s.pre6 enc C.prog fn conds false) (s.post enc C.prog fn false true false false):=by
 refine returnsInHanded_of_change_sized own started ad ar witness ?_;intro W base args I gs before ae hW aq hsz _
 have ak:=hW
 obtain⟨p,q,hA,hV,rfl,aw,ax⟩:=hW
 have al:=hV
 rw[ab]at al;obtain⟨rfl,rfl⟩:=trodVars_none al;simp only[Wak,Wan,Wcb,decide_eq_true_eq]at U
 have hw:∀m∈DataW.weightsEach C.prog fn.params.toList I,m<=reachBytes:=by
  intro m hm
  have:m∈DataW.weightsEach C.prog (fn.params.toList++s.plain.varTypes C.prog) (I++[]):=by
   rw[Wba];clear hsz hA ak ae aq;revert hm
   generalize fn.params.toList=ts
   induction ts generalizing I with
   |nil=>intro hm;simp[DataW.weightsEach]at hm
   |cons t ts ih=>
    cases I with
    |nil=>intro hm;simp[DataW.weightsEach]at hm
    |cons d I=>
     intro hm;simp only[DataW.weightsEach,Wbh,WaN]at hm|-;exact hm.imp id (ih I)
  simpa using Wak.1 hsz m this
 obtain⟨Xs,hT,hl,af,hX⟩:=z48 (E:=⟨W,fun _=>False,fun _=>⟨0,0,0⟩,[]⟩) rfl (fun _ h=>h) hp fn.params.toList args.toList I p (fun t ht=>(U t ht).1.1)
  (fun j t v h1 h2=>ae j t v (by simpa using h1) (by simpa using h2)) hA hw
 refine Calls.mono ((au Xs hT aj).2 ⟨W,fun _=>False,fun _=>⟨0,0,0⟩,[]⟩ args ⟨by simp,by simp,by simp,fun _ h=>h.elim,fun p hp=>by rw[av]at hp;cases hp⟩ rfl (by simpa using hl) (fun j x hj=>?_)) ?_
 ·obtain⟨v,hv,hr⟩:=hX j x hj
  have:args[j]? =some v:=by simpa using hv
  rw[Wah,this];exact hr
 ·rintro e W' ⟨v,y,E',rfl,rfl,⟨rfl,ay⟩,hv,hh,tr⟩
  have an:=tr.below rfl
  obtain rfl:v=.bool true:=by
   cases hv with
   |one h=>cases h;rfl
  refine⟨_,rfl,I,[],p++[],[],p,[],ak,?_,?_,?_,an.frame _,fun h=>by cases h⟩
  ·rw[Wba,aa I (by simpa using af),ao]
   exact trodAll_mk1 (shut_bool hb _)
  ·rw[Wba,aa I (by simpa using af)]
   refine zz5 _ _ _ _ ?_ hA;intro t ht v d pp h;exact Below.trod ai (U t ht).1.2 (U t ht).2 h an (by obtain⟨m,hm⟩:=h;exact DataW.trod_lt m _ _ _ hm)
  ·rw[Wba,aa I (by simpa using af),ab]
   rfl
theorem Ty.int_inv {P:Program} {t:TypeId} {k:IntKind} {cs:List C} (hu:P.underlying t=some (.int k)) (h:Ty P t cs):∃n,cs=[.int k n]/\k.min<=n/\n<=k.max:=by
 cases h with
 |int h hn=>rw[hu]at h;cases h;exact⟨_,rfl,hn⟩
 |bool h=>rw[hu]at h;cases h
 |str h=>rw[hu]at h;cases h
 |slice h=>rw[hu]at h;cases h
 |struct h=>rw[hu]at h;cases h
 |array h=>rw[hu]at h;cases h
theorem Ty.bool_inv {P:Program} {t:TypeId} {cs:List C} (hu:P.underlying t=some .bool) (h:Ty P t cs):∃n,cs=[.bool n]:=by
 cases h with
 |int h hn=>rw[hu]at h;cases h
 |bool h=>exact⟨_,rfl⟩
 |str h=>rw[hu]at h;cases h
 |slice h=>rw[hu]at h;cases h
 |struct h=>rw[hu]at h;cases h
 |array h=>rw[hu]at h;cases h
theorem Ty.str_inv {P:Program} {t:TypeId} {cs:List C} (hu:P.underlying t=some .string) (h:Ty P t cs):∃s,cs=[.str s]/\s.length<=lim:=by
 cases h with
 |int h hn=>rw[hu]at h;cases h
 |bool h=>rw[hu]at h;cases h
 |str h hl=>exact⟨_,rfl,hl⟩
 |slice h=>rw[hu]at h;cases h
 |struct h=>rw[hu]at h;cases h
 |array h=>rw[hu]at h;cases h
theorem Ty.slice_inv {P:Program} {t e:TypeId} {cs:List C} (hu:P.underlying t=some (.slice e)) (h:Ty P t cs):∃rows,cs=[.sl rows]/\rows.length<=lim/\∀r∈rows,Ty P e r:=by
 cases h with
 |int h hn=>rw[hu]at h;cases h
 |bool h=>rw[hu]at h;cases h
 |str h hl=>rw[hu]at h;cases h
 |slice h hl hr=>rw[hu]at h;cases h;exact⟨_,rfl,hl,hr⟩
 |struct h=>rw[hu]at h;cases h
 |array h=>rw[hu]at h;cases h
theorem Ty.struct_inv {P:Program} {t:TypeId} {fs:Array Field} {cs:List C} (hu:P.underlying t=some (.struct fs)) (h:Ty P t cs):cs.length=P.cellsOf t/\∀f∈fs.toList,Ty P f.type ((cs.drop f.offset).take (P.cellsOf f.type)):=by
 cases h with
 |int h hn=>rw[hu]at h;cases h
 |bool h=>rw[hu]at h;cases h
 |str h hl=>rw[hu]at h;cases h
 |slice h=>rw[hu]at h;cases h
 |struct h hl hf=>rw[hu]at h;cases h;exact⟨hl,hf⟩
 |array h=>rw[hu]at h;cases h
theorem Ty.array_inv {P:Program} {t e:TypeId} {n:Nat} {cs:List C} (hu:P.underlying t=some (.array n e)) (h:Ty P t cs):cs.length=P.cellsOf t/\∀i,i<n->Ty P e ((cs.drop (i*P.cellsOf e)).take (P.cellsOf e)):=by
 cases h with
 |int h hn=>rw[hu]at h;cases h
 |bool h=>rw[hu]at h;cases h
 |str h hl=>rw[hu]at h;cases h
 |slice h=>rw[hu]at h;cases h
 |struct h=>rw[hu]at h;cases h
 |array h hl hf=>rw[hu]at h;cases h;exact⟨hl,hf⟩
theorem TyV.one_inv {P:Program} {t:TypeId} {X:V} (hu:zrp P t=false) (h:TyV P t X):∃c,X=.one c/\Ty P t [c]:=by
 cases h with
 |one h _=>exact⟨_,rfl,h⟩
 |agg h I=>rw[hu]at I;cases I
theorem TyV.agg_inv {P:Program} {t:TypeId} {X:V} (hu:zrp P t=true) (h:TyV P t X):∃cs,X=.agg cs/\Ty P t cs:=by
 cases h with
 |one h I=>rw[hu]at I;cases I
 |agg h _=>exact⟨_,rfl,h⟩
theorem TyV.int_inv {P:Program} {t:TypeId} {k:IntKind} {X:V} (hu:P.underlying t=some (.int k)) (h:TyV P t X):∃n,X=.one (.int k n)/\k.min<=n/\n<=k.max:=by
 obtain⟨c,rfl,hc⟩:=h.one_inv (by simp[zrp,hu]);obtain⟨n,e,hn⟩:=hc.int_inv hu;cases e;exact⟨n,rfl,hn⟩
theorem TyV.slice_inv {P:Program} {t e:TypeId} {X:V} (hu:P.underlying t=some (.slice e)) (h:TyV P t X):∃rows,X=.one (.sl rows)/\rows.length<=lim/\∀r∈rows,Ty P e r:=by
 obtain⟨c,rfl,hc⟩:=h.one_inv (by simp[zrp,hu]);obtain⟨n,e,hn⟩:=hc.slice_inv hu;cases e;exact⟨n,rfl,hn⟩
theorem TysV.nil_inv {P:Program} {I:List V} (h:TysV P [] I):I=[]:=by
 cases I with
 |nil=>rfl
 |cons x xs=>exact h.elim
theorem TysV.cons_inv {P:Program} {t:TypeId} {ts:List TypeId} {I:List V} (h:TysV P (t::ts) I):∃x xs,I=x::xs/\TyV P t x/\TysV P ts xs:=by
 cases I with
 |nil=>exact h.elim
 |cons x xs=>exact⟨x,xs,rfl,h.1,h.2⟩
end Go.Lz

end
section
namespace Go.Lz
abbrev Str:=List UInt8
theorem zte {α β:Type} {x:Option α} {f:α->Option β} {r:β} (h:x.bind f=some r):∃a,x=some a/\f a=some r:=by
 cases x with
 |none=>simp at h
 |some a=>exact⟨a,rfl,h⟩
def idx {α:Type} (xs:List α) (i:Int):Option α:=if 0<=i then xs[i.toNat]? else none
theorem yb9 {α:Type} {xs:List α} {i:Int} {x:α} (h:idx xs i=some x):0<=i/\i<(xs.length:Int)/\i.toNat<xs.length/\xs[i.toNat]? =some x:=by
 unfold idx at h;split at h
 ·have:=(Wag.1 h).1
  exact⟨by assumption,by omega,this,h⟩
 ·simp at h
theorem zqs {α:Type} (xs:List α) (k:Nat):idx xs (k:Int)=xs[k]? :=by simp[idx]
theorem z4i {α:Type} {xs:List α} {k:Nat} {x:α} (h:xs[k]? =some x):0<=(k:Int)/\(k:Int)<(xs.length:Int)/\k<xs.length/\xs[k]? =some x:=by
 have:=(Wag.1 h).1
 exact⟨by omega,by omega,this,h⟩
def need (p:Prop) [Decidable p] {α:Type} (x:Option α):Option α:=if p then x else none
theorem z2u {p:Prop} [Decidable p] {α:Type} {x:Option α} {r:α} (h:need p x=some r):p/\x=some r:=by
 unfold need at h;split at h
 ·exact⟨by assumption,h⟩
 ·simp at h
theorem zc9 {p:Prop} [Decidable p] {α:Type} {x:Option α} (h:p):need p x=x:=by simp[need,h]
section
variable {σ ρ:Type}
def zpv (f:σ->Option (σ⊕ρ)):Nat->σ->Option ρ
 |0,_=>none
 |n+1,s=>(f s).bind (Sum.elim (zpv f n) some)
theorem z9d (f:σ->Option (σ⊕ρ)) (n:Nat):∀(s:σ) (r:ρ),zpv f n s=some r->zpv f (n+1) s=some r:=by
 induction n with
 |zero=>intro s r h;simp[zpv]at h
 |succ n I=>
  intro s r h;rw[zpv]at h|-;obtain⟨o,U,h⟩:=zte h;rw[U]
  cases o with
  |inl s'=>exact I s' r h
  |inr r'=>exact h
theorem z7x (f:σ->Option (σ⊕ρ)) {n m:Nat} (hm:n<=m) {s:σ} {r:ρ} (h:zpv f n s=some r):zpv f m s=some r:=by
 induction hm with
 |refl=>exact h
 |step _ I=>exact z9d f _ s r I
open Classical in
noncomputable def loop (f:σ->Option (σ⊕ρ)) (s:σ):Option ρ:=if h:∃r n,zpv f n s=some r then some (Classical.choose h)else none
theorem loop_some {f:σ->Option (σ⊕ρ)} {s:σ} {r:ρ}:loop f s=some r↔∃n,zpv f n s=some r:=by
 unfold loop;constructor
 ·intro h
  split at h
  ·rename_i I
   obtain⟨n,hn⟩:=WaW I;simp only[WaP]at h;exact⟨n,by rw[<-h];exact hn⟩
  ·simp at h
 ·rintro⟨n,hn⟩
  have I:∃r n,zpv f n s=some r:=⟨r,n,hn⟩
  rw[dif_pos I];obtain⟨m,hm⟩:=WaW I
  have h1:=z7x f (Nat.le_max_left n m) hn
  have h2:=z7x f (Nat.le_max_right n m) hm
  rw[h1]at h2;exact h2.symm
theorem ybl (f:σ->Option (σ⊕ρ)) (s:σ):loop f s=(f s).bind (Sum.elim (loop f) some):=by
 apply Option.ext
 intro r;rw[loop_some];constructor
 ·rintro⟨n,hn⟩
  cases n with
  |zero=>simp[zpv]at hn
  |succ n=>
   rw[zpv]at hn;obtain⟨o,I,h⟩:=zte hn;rw[I]
   cases o with
   |inl s'=>exact loop_some.2 ⟨n,h⟩
   |inr U=>exact h
 ·intro h
  obtain⟨o,I,h⟩:=zte h
  cases o with
  |inl s'=>
   obtain⟨n,hn⟩:=loop_some.1 h;exact⟨n+1,by rw[zpv,I];exact hn⟩
  |inr U=>exact⟨1,by rw[zpv,I];exact h⟩
theorem zkn {f:σ->Option (σ⊕ρ)} {s s':σ} (h:f s=some (.inl s')):loop f s=loop f s':=by rw[ybl,h];rfl
theorem zcs {f:σ->Option (σ⊕ρ)} {s:σ} {r:ρ} (h:f s=some (.inr r)):loop f s=some r:=by rw[ybl,h];rfl
end
end Go.Lz
namespace Go.Lz
def mget {α β:Type} [DecidableEq α] (k:α):List (α×β)->Option β
 |[]=>none
 |p::r=>if k=p.1 then some p.2 else mget k r
def mset {α β:Type} [DecidableEq α] (k:α) (v:β):List (α×β)->List (α×β)
 |[]=>[(k,v)]
 |p::r=>if k=p.1 then(k,v)::r else p::mset k v r
end Go.Lz

end
section
namespace Go.Lz
section
variable {P:Program} {n:Cf} {F:List Fr} {Q:Ex->St->Prop}
def yfe (P:Program) (n:Cf) (id:Nat) (F:List Fr) (st:St) (Q:Ex->St->Prop):Prop:=
 ∃(ks:List Nat) (m:Nat),n.m<=m/\zos m ks st.t=true/\((st.H.take m).all (O.lt m))=true/\zrs P n id F ⟨zv9 ks st.t,st.H.take m⟩ Q
def yga (P:Program) (n:Cf) (F:List Fr) (Q:Ex->St->Prop):Ex->St->Prop
 |.exit id,st=>yfe P n id F st Q
 |e,st=>qF P n Q F e st
def LoopP (P:Program) (n:Cf) (c:Code) (F:List Fr) (st:St) (Q:Ex->St->Prop):Prop:=LoopSem P n c st (yga P n F Q)
def z0p (P:Program) (n:Cf) (c:Code) (F:List Fr) (Q:Ex->St->Prop):Ex->St->Prop:=zq1 (fun st=>LoopP P n c F st Q) (yga P n F Q)
theorem yl4 {c:Code} {st:St}:z0p P n c F Q .normal st=LoopP P n c F st Q:=rfl
theorem yij {c:Code} {id:Nat} {st:St}:z0p P n c F Q (.exit id) st=yfe P n id F st Q:=rfl
theorem yii {c:Code} {l:Nat} {st:St}:z0p P n c F Q (.goto l) st=zw1 P n l F st Q:=rfl
theorem yih {c:Code} {st:St}:z0p P n c F Q .ret st=Q .ret st:=by show qF P n Q F .ret st=_;rw[zxg]
attribute [go_sem] yl4 yij yii yih
theorem LoopP.out {c:Code} {st:St} (h:LoopP P n c F st Q):LoopS P n c F st Q:=by
 intro hok ctx a E hSR b k cs;obtain⟨e,a',w',⟨x,st',E',he,hw,hq,hs⟩,har⟩:=h hok ctx a E hSR b k cs
 cases x with
 |exit id=>
  obtain⟨ks,m,hm,hk,ho,hx⟩:=hq;obtain⟨E2,h2w,hs2⟩:=hs.purge ks m hm hk ho;exact⟨e,a',w',⟨.exit id,_,E2,he,h2w.trans hw,hx,hs2⟩,har⟩
 |normal=>exact⟨e,a',w',⟨.normal,st',E',he,hw,hq,hs⟩,har⟩
 |ret=>exact⟨e,a',w',⟨.ret,st',E',he,hw,hq,hs⟩,har⟩
 |goto l=>exact⟨e,a',w',⟨.goto l,st',E',he,hw,hq,hs⟩,har⟩
theorem yie {body:Code} {st:St} (ks:List Nat) (m:Nat) (s':St) (hm:n.m<=m) (hk:zos m ks st.t=true) (ho:((st.H.take m).all (O.lt m))=true) (e:(⟨zv9 ks st.t,st.H.take m⟩:St)=s') (h:LoopP P n body F s' Q):LoopP P n body F st Q:=
 LoopSem.purge ks m hm hk ho (e▸h)
theorem yif {id:Nat} {st:St} (ks:List Nat) (m:Nat) (s':St) (hm:n.m<=m) (hk:zos m ks st.t=true) (ho:((st.H.take m).all (O.lt m))=true) (e:(⟨zv9 ks st.t,st.H.take m⟩:St)=s') (h:zrs P n id F s' Q):yfe P n id F st Q:=
 ⟨ks,m,hm,hk,ho,e▸h⟩
theorem yf9 {body:Code} {σ ρ α β:Type} {f:σ->Option (σ⊕ρ)} (st:σ->α->St) (J:ρ->β->St) (id:ρ->Option Nat) {s0:σ} (a0:α) {e:ρ} (h:loop f s0=some e)
  (aft:∀i b,id e=some i->zrs P n i F (J e b) Q)
  (step:(∀i b,id e=some i->zrs P n i F (J e b) Q)->∀(m:Nat) (s:σ) (a:α) (o:σ⊕ρ),f s=some o->Sum.elim (zpv f m) some o=some e->(∀s' a',zpv f m s'=some e->LoopP P n body F (st s' a') Q)->awpS P n [.code body] (st s a) (z0p P n body F Q)):
  LoopS P n body F (st s0 a0) Q:=by
 refine LoopP.out ?_;obtain⟨m,hm⟩:=loop_some.1 h;clear h
 induction m generalizing s0 a0 with
 |zero=>simp[zpv]at hm
 |succ m ih=>
  rw[zpv]at hm;obtain⟨o,ho,hm⟩:=zte hm;exact z0o (step aft m s0 a0 o ho hm fun s' a' h'=>ih a' h')
end
section
variable {P:Program} {n:Cf} {F:List Fr} {Q:Ex->St->Prop}
theorem LoopS.weak {body:Code} {st st':St} (hw:∀ctx a E,SR ctx n st a E->∃E',E'.w=E.w/\SR ctx n st' a E') (h:LoopS P n body F st' Q):LoopS P n body F st Q:=by
 intro hok ctx a E hs b k cs;obtain⟨E',e,hs'⟩:=hw ctx a E hs;rw[<-e];exact h hok ctx a E' hs' b k cs
theorem SR.seed {ctx:Env} {st:St} {a:Act} {E:Env} (h:SR ctx n st a E) (k sz:Nat) (hk:look st.t k=.one (.slf [])):
  ∃E',E'.w=E.w/\SR ctx n ⟨(k,.one (.msl st.H.length 0 0 0))::st.t,st.H++[.cells 0 sz []]⟩ a E':=by
 obtain⟨t,hh,hc⟩:=zzv h.rel sz _ rfl
 refine⟨⟨E.w,E.Fr,fun i=>if i=E.H.length then⟨0,0,0⟩else E.bd i,E.H++[.cells 0 sz []]⟩,rfl,⟨h.len,h.hm,h.defers,fun i=>?_,by simp[h.H],hh,h.tr.trans t⟩⟩
 simp only[zfb];split
 ·rename_i e
  subst e
  have:=h.tm k
  rw[hk]at this;obtain⟨_,a',ha⟩:=zlh (one_inv this);rw[ha];rw[<-h.H];exact .one (hc a')
 ·exact(h.tm i).trans t
theorem zw8 {body:Code} {st:St} (k sz:Nat) (hk:look st.t k=.one (.slf [])) (h:LoopS P n body F ⟨(k,.one (.msl st.H.length 0 0 0))::st.t,st.H++[.cells 0 sz []]⟩ Q):LoopS P n body F st Q:=
 LoopS.weak (fun _ _ _ hs=>hs.seed k sz hk) h
theorem z3z {E:Env} (h:HRel E) {id ver sz sz' j:Nat} {row:List C} (ho:E.H[id]? =some (.cells ver sz [row])) (hj:row[j]? =some (.slf [])):
  ∃E',E'.w=E.w/\E'.H=(E.H++[O.cells 0 sz' []]).set id (.cells ver sz [row.set j (.msl E.H.length 0 0 0)])/\HRel E'/\Trans E E':=by
 obtain⟨t,hh,hc⟩:=zzv h sz' _ rfl
 have hid:id<E.H.length:=(Wag.1 ho).1
 generalize hE1:(⟨E.w,E.Fr,fun i=>if i=E.H.length then⟨0,0,0⟩else E.bd i,E.H++[.cells 0 sz' []]⟩:Env)=E1 at t hh hc
 have w1:E1.w=E.w:=by subst hE1;rfl
 have H1:E1.H=E.H++[O.cells 0 sz' []]:=by subst hE1;rfl
 have ho1:E1.H[id]? =some (.cells ver sz [row]):=by rw[H1,Wa8 hid];exact ho
 obtain⟨a1,a2,a3,a4⟩:=hh.obj id _ ho1
 have hcap:(E1.bd id).cap≠0:=by simp at a1;omega
 obtain⟨arr,ty,b1,b2,b3⟩:=a4 hcap
 obtain⟨t2,hh2⟩:=zof hh id _ (.cells ver sz [row.set j (.msl E.H.length 0 0 0)]) E1.w (E1.bd id) ho1 (Wae _) rfl rfl rfl (fun _ _ _=>rfl)
  (fun ver' sz2 rows' e=>by injection e with e1 e2 e3;subst e1 e2 e3;exact⟨_,_,_,rfl,Wae _,fun _=>⟨rfl,rfl,rfl⟩⟩) (fun es' e=>by cases e) _ rfl (fun _=>.inl ⟨by simpa [Env.live]using hcap,rfl⟩)
 refine⟨⟨E1.w,E1.Fr,fun i=>if i=id then E1.bd id else E1.bd i,E1.H.set id (.cells ver sz [row.set j (.msl E.H.length 0 0 0)])⟩,w1,by simp only[H1],hh2 ?_,t.trans t2⟩
 refine⟨by simpa using a1,by simpa using a2,fun r hr=>?_,fun _=>⟨arr,ty,by simpa using b1,by simpa using b2,fun i k c hck=>?_⟩⟩
 ·simp at hr;subst hr;rw[Wa7];exact a3 row (by simp)
 ·obtain⟨r,hr,hk⟩:=at2_some.1 hck
  cases i with
  |succ i=>simp at hr
  |zero=>
   simp at hr;subst hr;simp only[if_true,Nat.zero_mul,Wbd]
   by_cases e:j=k
   ·subst e
    rw[WaU (Wag.1 hj).1]at hk;obtain rfl:=Wab hk;obtain⟨v,hv,hr⟩:=b3 0 j (.slf []) (at2_some.2 ⟨row,rfl,hj⟩);obtain⟨_,a',ha⟩:=zlh hr;refine⟨v,by simpa using hv,?_⟩;rw[ha];exact(hc a').trans t2
   ·rw[WaT e]at hk
    obtain⟨v,hv,hr⟩:=b3 0 k c (at2_some.2 ⟨row,rfl,hk⟩);exact⟨v,by simpa using hv,hr.trans t2⟩
theorem yln {body:Code} {t:List (Nat×V)} {H:List O} (id j sz':Nat) {ver sz:Nat} {row:List C} (ho:H[id]? =some (.cells ver sz [row])) (hj:row[j]? =some (.slf []))
  (h:LoopS P n body F ⟨t,(H++[O.cells 0 sz' []]).set id (.cells ver sz [row.set j (.msl H.length 0 0 0)])⟩ Q):LoopS P n body F ⟨t,H⟩ Q:=
 LoopS.weak (fun ctx a E hs=>by
  have hH:E.H=H:=hs.H
  obtain⟨E',w',H',hh,t'⟩:=z3z (sz':=sz') hs.rel (by rw[hH];exact ho) hj
  exact⟨E',w',⟨hs.len,hs.hm,hs.defers,fun i=>(hs.tm i).trans t',by rw[H',hH],hh,hs.tr.trans t'⟩⟩) h
theorem yaz {body:Code} {st:St} (k:Nat) (rows:List (List C)) (hk:look st.t k=.one (.slf rows)) (h:LoopS P n body F ⟨(k,.one (.sl rows))::st.t,st.H⟩ Q):LoopS P n body F st Q:=
 LoopS.weak (st':=⟨(k,.one (.sl rows))::st.t,st.H⟩) (fun _ a E hs=>⟨E,rfl,⟨hs.len,hs.hm,hs.defers,fun i=>by
  simp only[zfb];split
  ·rename_i e;subst e
   have:=hs.tm k
   rw[hk]at this;exact .one (zlh (one_inv this)).1
  ·exact hs.tm i,hs.H,hs.rel,hs.tr⟩⟩) h
end
theorem if_t {α:Type} {c:Prop} [Decidable c] {a b r:α} (hc:c) (h:(if c then a else b)=r):a=r:=by rwa[if_pos hc]at h
theorem if_f {α:Type} {c:Prop} [Decidable c] {a b r:α} (hc:¬c) (h:(if c then a else b)=r):b=r:=by rwa[if_neg hc]at h
abbrev w64 (n:Int):Int:=IntKind.i64.wrap n
theorem zn1 (n:Int):w64 n=(n+9223372036854775808)%18446744073709551616-9223372036854775808:=by
 simp only[IntKind.wrap,IntKind.min,IntKind.signed,IntKind.bits];simp;omega
theorem ydn {k:Nat} (h:(k:Int)+1<=9223372036854775807):IntKind.i64.wrap ((k:Int)+1)=(k:Int)+1:=by
 show w64 _=_;rw[zn1];omega
theorem ydo {n:Int} (h1:-9223372036854775808<=n) (h2:n<=9223372036854775807):IntKind.i64.wrap n=n:=by show w64 _=_;rw[zn1];omega
theorem ymo:lim=281474976710656:=rfl
attribute [go_sem] ydo ymo List.toList_toArray
def eK (k:IntKind) (n:Int):List C:=[.int k n]
abbrev eI:Int->List C:=eK .i64
def eB (b:Bool):List C:=[.bool b]
def eS (s:Str):List C:=[.str s]
def eL {α:Type} (f:α->List C) (xs:List α):List C:=[.sl (xs.map f)]
def eF:Option Nat->C
 |none=>.nilfn
 |some f=>.fn f []
theorem yj4:eF none=.nilfn:=of_eq_true (eq_self _)
theorem yj3 {f:Nat}:eF (some f)=.fn f []:=of_eq_true (eq_self _)
theorem zsa {x:Option Nat} {m:Nat}:(eF x).lt m=true:=by cases x<;>rfl
theorem zp6 {x:Option Nat} {H:List O} {k:Nat}:C.viewN H k (eF x)=eF x:=by
 cases x with
 |none=>exact z61
 |some f=>cases k<;>rfl
theorem yl9 {x:Option Nat}:(eF x).own=false:=by cases x<;>rfl
attribute [go_sem] yj4 yj3 zsa zp6 yl9
theorem yop {k:IntKind} {n:Int}:eK k n=[.int k n]:=of_eq_true (eq_self _)
theorem yoq {b:Bool}:eB b=[.bool b]:=of_eq_true (eq_self _)
theorem yon {s:Str}:eS s=[.str s]:=of_eq_true (eq_self _)
theorem yoo {α:Type} {f:α->List C} {xs:List α}:eL f xs=[.sl (xs.map f)]:=of_eq_true (eq_self _)
attribute [go_sem] yop yoq yon yoo
def Flat {α:Type} (f:α->List C):Prop:=∀m a,zem m (f a)=true
theorem zam {α:Type} {f:α->List C} (h:Flat f) (m:Nat) (xs:List α):zcn m (xs.map f)=true:=z9b f (h m) xs
theorem Flat.K (k:IntKind):Flat (eK k):=fun _ _=>rfl
theorem Flat.B:Flat eB:=fun _ _=>rfl
theorem Flat.S:Flat eS:=fun _ _=>rfl
theorem Flat.L {α:Type} {f:α->List C} (h:Flat f):Flat (eL f):=fun m xs=>by
 show(zcn m (xs.map f)&&true)=true
 rw[zam h];rfl
theorem z3r {α β:Type} (f:α->β) (xs:List α):List.take xs.length (List.map f xs)=List.map f xs:=WaZ (by simp)
theorem z97 {α:Type} (xs:List α):List.take xs.length xs=xs:=by simp
attribute [go_sem] z3r z97
end Go.Lz
namespace Go.Lz
theorem z0n {m:Nat} {a b:List C}:zem m (a++b)=(zem m a&&zem m b):=by
 rw[Wa1,Wan];simp only[ltRow_iff,WaN];exact⟨fun h=>⟨fun r hr=>h r (.inl hr),fun r hr=>h r (.inr hr)⟩,fun h r hr=>hr.elim (h.1 r) (h.2 r)⟩
end Go.Lz
namespace Go.Lz
theorem zlr {p q:Prop} (h:p) (k:q):p/\q:=⟨h,k⟩
end Go.Lz
namespace Go.Lz
theorem zl5 {ops:Array Oper} (h:zwc ops=true):zwc ops=true:=h
theorem z2d {P:Program} {ops:Array Oper} {k:Nat} {t:List (Nat×V)} (h:z2e ops k=true):zzl P ops k t:=.inl h
theorem yit (L:List Nat) {P:Program} {ops:Array Oper} {k:Nat} {t:List (Nat×V)} (h:(zdt ops k==L&&z4o ops k)=true) (h2:zym P ops t L):zzl P ops k t:=by
 rw[Wan,beq_iff_eq]at h;exact .inr ⟨h.2,by rw[h.1];exact h2⟩
end Go.Lz
namespace Go.Lz
end Go.Lz
namespace Go.Lz
def z9o {α:Type} (xs ys:List α):List α:=ys.take xs.length++xs.drop (min xs.length ys.length)
theorem ycx {α:Type} (xs ys:List α):(z9o xs ys).length=xs.length:=by simp[z9o];omega
theorem yi0 (a b:Int):(if a<b then b else a)=max a b:=by split<;>omega
theorem z50 {m n:Nat} {r:List C} (hr:zem m r=true):zcn m (List.replicate n r)=true:=z9a hr
theorem z5z {m k:Nat} {a:List (List C)} (h:zcn m a=true):zcn m (a.take k)=true:=by
 rw[ltRows_iff]at*;exact fun r hr=>h r (Wa2 hr)
attribute [go_sem] Nat.add_sub_cancel_left yi0 z50 z9c z5z z52 z89
end Go.Lz
namespace Go.Lz
theorem ye2 (a b:Nat):(if a<b then(b:Int)else(a:Int))=max (a:Int) (b:Int):=by split<;>omega
attribute [go_sem] ye2
end Go.Lz
namespace Go.Lz
theorem yq6 {α:Type} {pre xs:List α} {i:Nat} {x:α} (h:xs[i]? =some x):(pre++xs)[pre.length+i]? =some x:=by
 rw[WbD (by omega)];simpa using h
theorem q_lt {α:Type} {pre xs:List α} {i:Nat} {x:α} (h:xs[i]? =some x):pre.length+i<(pre++xs).length:=by
 have:=(Wag.1 h).1;simp;omega
theorem yl2 {α β:Type} (f:α->β) (pre xs:List α) (n:Nat):List.drop (pre.length+n) (List.map f (pre++xs))=List.map f (xs.drop n):=by
 rw[<-List.map_drop,List.drop_append];simp
end Go.Lz
namespace Go.Lz
theorem z1k {α:Type} (l:List α):List.take 1 l++l.tail=l:=by cases l<;>simp
theorem yfh {α:Type} (l:List α):(l=List.take 1 l++l.tail)=True:=by rw[z1k];exact eq_self l
attribute [go_sem] z1k yfh
end Go.Lz
namespace Go.Lz
def Plain {α:Type} (f:α->List C):Prop:=∀(H:List O) (k:Nat) (a:α),(f a).map (C.viewN H k)=f a
theorem zb4 {α:Type} {f:α->List C} (h:Plain f) (H:List O) (k:Nat) (xs:List α):zbw H k (xs.map f)=xs.map f:=by
 simp only[zbw,Wbo];exact WbB fun a _=>h H k a
theorem Plain.K (k:IntKind):Plain (eK k):=fun _ _ _=>by simp[eK,zle]
theorem Plain.B:Plain eB:=fun _ _ _=>by simp[eB,zip]
theorem Plain.S:Plain eS:=fun _ _ _=>by simp[eS,zld]
theorem Plain.L {α:Type} (f:α->List C):Plain (eL f):=fun _ _ _=>by simp[eL,zpu]
end Go.Lz
namespace Go.Lz
section
variable {P:Program} {n:Cf} {F:List Fr} {Q:Ex->St->Prop}
end
attribute [go_sem] zli List.contains_cons List.contains_nil
end Go.Lz
namespace Go.Lz
structure Clo (c:List C):Prop where
 lt:∀m,zem m c=true
 vw:∀(H:List O) (k:Nat),c.map (C.viewN H k)=c
theorem Clo.lts {c:List C} (h:Clo c) (m:Nat):ltVs m (c.map V.one)=true:=by
 rw[ltVs_iff];intro v hv;obtain⟨x,hx,rfl⟩:=Wau.1 hv;exact ltRow_iff.1 (h.lt m) x hx
theorem Clo.vws {c:List C} (h:Clo c) (H:List O):(c.map V.one).map (V.view H)=c.map V.one:=by
 rw[Wbo]
 have:=h.vw H 4
 have e:V.view H∘V.one=V.one∘C.viewN H 4:=rfl
 rw[e,<-Wbo,this]
theorem yeo {m:Nat} {a b:List V}:ltVs m (a++b)=(ltVs m a&&ltVs m b):=by
 rw[Wa1,Wan];simp only[ltVs_iff,WaN];exact⟨fun h=>⟨fun r hr=>h r (.inl hr),fun r hr=>h r (.inr hr)⟩,fun h r hr=>hr.elim (h.1 r) (h.2 r)⟩
attribute [go_sem] yeo
end Go.Lz
namespace Go.Lz
theorem Clo.nil:Clo []:=⟨fun _=>rfl,fun _ _=>rfl⟩
def ykd (r:R) (H:List O) (K:V->List O->Prop):Prop:=r.pre/\K r.v H
theorem ylx {P:Program} {i:Nat} {ty:TypeId} {t:List (Nat×V)} {H:List O} {K:V->List O->Prop}:resK P [.cell i ty] ⟨t,H⟩ K=ykd (zuw P ty (look t i) H) H K:=by
 simp only[resK,zks,zuw,ykd]
 cases look t i with
 |one c=>
  simp only
  cases tAg P ty with
  |none=>simp[R.bad]
  |some g=>
   obtain⟨g,n⟩:=g
   cases zv5 H c with
   |none=>simp[R.bad]
   |some x=>obtain⟨row,off,p⟩:=x;simp
 |_=>simp[R.bad]
attribute [go_sem] ylx ykd
end Go.Lz
namespace Go.Lz
theorem yd1 {α:Type}:(#[]:Array α).size=0:=rfl
attribute [go_sem] yd1
end Go.Lz
namespace Go.Lz
section
variable {P:Program} {t:List (Nat×V)} {H:List O} {K:V->List O->Prop}
def yh4 (x:Option (V×Prop)) (H:List O) (K:V->List O->Prop):Prop:=match x with|some (x,p)=>p/\K x H|none=>False
def yh3 (x y:Option (V×Prop)) (H:List O) (K:V->List O->Prop):Prop:=match x with|some (x,p)=>(match y with|some (y,q)=>p/\q/\K (.tup [x,y]) H|none=>False)|none=>False
def yh2 (x y z:Option (V×Prop)) (H:List O) (K:V->List O->Prop):Prop:=match x with|some (x,p)=>(match y with|some (y,q)=>(match z with|some (z,r)=>p/\q/\r/\K (.tup [x,y,z]) H|none=>False)|none=>False)|none=>False
theorem r_c1 {a:ResultVar}:resK P [a] ⟨t,H⟩ K=yh4 (zks P H t a) H K:=by unfold resK yh4;rfl
theorem r_c2 {a b:ResultVar}:resK P [a,b] ⟨t,H⟩ K=yh3 (zks P H t a) (zks P H t b) H K:=by
 unfold resK yh3
 cases h1:zks P H t a with
 |none=>simp[h1]
 |some x=>cases h2:zks P H t b with
  |none=>simp[h1,h2]
  |some y=>simp[h1,h2,and_assoc]
theorem r_c3 {a b c:ResultVar}:resK P [a,b,c] ⟨t,H⟩ K=yh2 (zks P H t a) (zks P H t b) (zks P H t c) H K:=by
 unfold resK yh2
 cases h1:zks P H t a with
 |none=>simp[h1]
 |some x=>cases h2:zks P H t b with
  |none=>simp[h1,h2]
  |some y=>cases h3:zks P H t c with
   |none=>simp[h1,h2,h3]
   |some z=>simp[h1,h2,h3,and_assoc]
theorem ykj {x:V} {p:Prop}:yh4 (some (x,p)) H K=(p/\K x H):=rfl
theorem yki {x y:V} {p q:Prop}:yh3 (some (x,p)) (some (y,q)) H K=(p/\q/\K (.tup [x,y]) H):=rfl
theorem ykh {x y z:V} {p q r:Prop}:yh2 (some (x,p)) (some (y,q)) (some (z,r)) H K=(p/\q/\r/\K (.tup [x,y,z]) H):=rfl
attribute [go_sem] r_c1 r_c2 r_c3 zks ykj yki ykh
end
end Go.Lz
namespace Go.Lz
def eM {α β:Type} (kf:α->C) (vf:β->C) (es:List (α×β)):List (C×C):=es.map fun p=>(kf p.1,vf p.2)
theorem ybd {β:Type} {vf:β->C} {k:Str} {es:List (Str×β)}:z1c (.str k) (eM C.str vf es)=some ((mget k es).map vf):=by
 induction es with
 |nil=>rfl
 |cons p r ih=>
  rw[eM,Wbg,z1c,mget];simp only[zxl]
  by_cases h:k=p.1
  ·simp[h]
  ·simp only[h,decide_false,if_false];exact ih
theorem z7s {β:Type} {vf:β->C} {k:Str} {v:β} {es:List (Str×β)}:mput (.str k) (vf v) (eM C.str vf es)=some (eM C.str vf (mset k v es)):=by
 induction es with
 |nil=>rfl
 |cons p r ih=>
  rw[eM,Wbg,mput,mset];simp only[zxl]
  by_cases h:k=p.1
  ·simp[h,eM]
  ·simp only[h,decide_false,if_false]
   rw[show(List.map (fun p=>(C.str p.1,vf p.2)) r)=eM C.str vf r from rfl,ih];rfl
theorem ybe {β:Type} {vf:β->C} {kd:IntKind} {k:Int} {es:List (Int×β)}:z1c (.int kd k) (eM (C.int kd) vf es)=some ((mget k es).map vf):=by
 induction es with
 |nil=>rfl
 |cons p r ih=>
  rw[eM,Wbg,z1c,mget];simp only[zxl,if_true]
  by_cases h:k=p.1
  ·simp[h]
  ·simp only[h,decide_false,if_false];exact ih
theorem z7u {β:Type} {vf:β->C} {kd:IntKind} {k:Int} {v:β} {es:List (Int×β)}:mput (.int kd k) (vf v) (eM (C.int kd) vf es)=some (eM (C.int kd) vf (mset k v es)):=by
 induction es with
 |nil=>rfl
 |cons p r ih=>
  rw[eM,Wbg,mput,mset];simp only[zxl,if_true]
  by_cases h:k=p.1
  ·simp[h,eM]
  ·simp only[h,decide_false,if_false]
   rw[show(List.map (fun p=>(C.int kd p.1,vf p.2)) r)=eM (C.int kd) vf r from rfl,ih];rfl
theorem yba {k:Str} {v:Bool} {es:List (Str×Bool)}:mput (.str k) (.bool v) (eM C.str C.bool es)=some (eM C.str C.bool (mset k v es)):=z7s
theorem ya9 {k:Str} {v:Int} {kd:IntKind} {es:List (Str×Int)}:mput (.str k) (.int kd v) (eM C.str (C.int kd) es)=some (eM C.str (C.int kd) (mset k v es)):=z7s
theorem ybc {k:Int} {kk:IntKind} {v:Bool} {es:List (Int×Bool)}:mput (.int kk k) (.bool v) (eM (C.int kk) C.bool es)=some (eM (C.int kk) C.bool (mset k v es)):=z7u
theorem ybb {k:Int} {kk:IntKind} {v:Int} {kd:IntKind} {es:List (Int×Int)}:mput (.int kk k) (.int kd v) (eM (C.int kk) (C.int kd) es)=some (eM (C.int kk) (C.int kd) (mset k v es)):=z7u
theorem yir {H:List O} {x:Option Bool}:z0r (.bool false) false H (some (x.map C.bool))=.ok (.one (.bool (x.getD false))) H:=by cases x<;>rfl
theorem yiq {H:List O} {kd:IntKind} {x:Option Int}:z0r (.int kd 0) false H (some (x.map (C.int kd)))=.ok (.one (.int kd (x.getD 0))) H:=by cases x<;>rfl
theorem yet {H:List O} {x:Option Bool}:z0r (.bool false) true H (some (x.map C.bool))=.ok (.tup [.one (.bool (x.getD false)),.one (.bool x.isSome)]) H:=by cases x<;>rfl
theorem yes {H:List O} {kd:IntKind} {x:Option Int}:z0r (.int kd 0) true H (some (x.map (C.int kd)))=.ok (.tup [.one (.int kd (x.getD 0)),.one (.bool x.isSome)]) H:=by cases x<;>rfl
theorem yfj {α β:Type} {kf:α->C} {vf:β->C} {m:Nat} {es:List (α×β)} (hk:∀a,(kf a).lt m=true) (hv:∀b,(vf b).lt m=true):((eM kf vf es).all fun e=>C.lt m e.fst&&C.lt m e.snd)=true:=by
 simp[eM,hk,hv]
theorem yj0 {m:Nat} {es:List (Str×Bool)}:((eM C.str C.bool es).all fun e=>C.lt m e.fst&&C.lt m e.snd)=true:=yfj (fun _=>rfl) (fun _=>rfl)
theorem yjz {m:Nat} {kd:IntKind} {es:List (Str×Int)}:((eM C.str (C.int kd) es).all fun e=>C.lt m e.fst&&C.lt m e.snd)=true:=yfj (fun _=>rfl) (fun _=>rfl)
theorem yj2 {m:Nat} {kd:IntKind} {es:List (Int×Bool)}:((eM (C.int kd) C.bool es).all fun e=>C.lt m e.fst&&C.lt m e.snd)=true:=yfj (fun _=>rfl) (fun _=>rfl)
theorem yj1 {m:Nat} {k kd:IntKind} {es:List (Int×Int)}:((eM (C.int k) (C.int kd) es).all fun e=>C.lt m e.fst&&C.lt m e.snd)=true:=yfj (fun _=>rfl) (fun _=>rfl)
attribute [go_sem] ybd ybe yba ya9 ybc ybb yir yiq yet yes List.isEmpty_map yj0 yjz yj2 yj1
theorem yed {t:List (Nat×V)} {H H':List O} {d:Nat} {x:V}:St.put ⟨t,H⟩ (some d) x H'=⟨(d,x)::t,H'⟩:=rfl
theorem yee {t:List (Nat×V)} {H H':List O} {x:V}:St.put ⟨t,H⟩ none x H'=⟨t,H'⟩:=rfl
attribute [go_sem] yed yee
end Go.Lz
namespace Go.Lz
theorem z3s {α β:Type} {f:α->β} {xs:List α} {ys:List β} {n:Nat}:List.take (xs.length+n) (List.map f xs++ys)=List.map f xs++List.take n ys:=by
 rw[show xs.length+n=(List.map f xs).length+n by simp,List.take_length_add_append]
attribute [go_sem] z3s
end Go.Lz
namespace Go.Lz
end Go.Lz

end
section
namespace Go.Lz
attribute [go_sem] zvs zmh zvx zr9 zjd z1a z2z yhc yhd yhe yhf
theorem ymd {v:V} {h:List O}:(R.ok v h).pre=True:=rfl
theorem ok_v {v:V} {h:List O}:(R.ok v h).v=v:=rfl
theorem ok_h {v:V} {h:List O}:(R.ok v h).h=h:=rfl
attribute [go_sem] ymd ok_v ok_h
theorem ss {p:Prop} (h:p:=by first|(with_reducible exact mo)|(with_reducible refine zl5 (by kernel_rfl))|(with_reducible refine z2d (by kernel_rfl))|omega|(simp[go_sem];done)|(simp[go_sem,F];done)|(simp[go_sem];omega)|(simp[go_sem,F];omega)|((repeat' (with_reducible apply And.intro))<;>first|omega|(intro r hr;obtain⟨_,_,rfl⟩:=Wau.1 hr;simp[go_sem];done)|(simp[go_sem];done)|(simp[go_sem,F];done)|(simp[go_sem,F];omega))):p:=h
theorem sb {p:Prop} (h:p:=by first|(with_reducible exact mo)|(with_reducible refine zl5 (by kernel_rfl))|omega|(simp[go_sem];done)|(simp[go_sem,F];done)|(simp[go_sem];omega)|(simp[go_sem,F];omega)|((repeat' (with_reducible apply And.intro))<;>first|omega|(intro r hr;obtain⟨_,_,rfl⟩:=Wau.1 hr;simp[go_sem];done)|(simp[go_sem];done)|(simp[go_sem,F];done)|(simp[go_sem,F];omega))):p:=h
theorem lt_ (L:List Nat) {P:Program} {ops:Array Oper} {k:Nat} {t:List (Nat×V)} (h:(zdt ops k==L&&z4o ops k)=true:=by kernel_rfl) (h2:zym P ops t L:=by
 (simp-implicitDefEqProofs only[zym,z4p,zy8,go_sem,simprocAttr,F,R])
 (try (first|omega|(simp;done)|(simp;omega)|simp[go_sem,F]))):zzl P ops k t:=yit L h h2
theorem tt {p q:Prop} (k:q) (e:p=q:=by((try simp-implicitDefEqProofs only[go_sem,simprocAttr,F,R]);rfl)):p:=e.mpr k
theorem fin {p:Prop} (h:p:=by
 (try simp-implicitDefEqProofs only[go_sem,simprocAttr,F,R])
 (all_goals (repeat (first|(with_reducible intro _)|(with_reducible refine zlr ?_ ?_;exact ss))))
 (all_goals (try (first|(with_reducible refine z2d (by kernel_rfl))|(with_reducible refine zl5 (by kernel_rfl))|omega|(simp[go_sem];omega)|simp[go_sem,F])))):p:=h
section
variable {α β γ P G:Prop}
theorem fi {α:Type} {c:Prop} [Decidable c] {a b r:α} (h:(if c then a else b)=r) (F:P) (t:a=r->c->(c=True)/\P->G) (f:b=r->¬c->(c=False)/\P->G):G:=by
 by_cases hc:c
 ·exact t (if_t hc h) hc ⟨eq_true hc,F⟩
 ·exact f (if_f hc h) hc ⟨eq_false hc,F⟩
theorem fe {α:Type} {c:Prop} [Decidable c] {a b r:α} (h:(if c then a else b)=r) (F:P) (t:a=r->c->c/\P->G) (f:b=r->¬c->(c=False)/\P->G):G:=by
 by_cases hc:c
 ·exact t (if_t hc h) hc ⟨hc,F⟩
 ·exact f (if_f hc h) hc ⟨eq_false hc,F⟩
theorem fl {α:Type} {x y:Nat} {a b r:α} (h:(if(x:Int)<(y:Int)then a else b)=r) (F:P) (t:a=r->x<y->((x:Int)<(y:Int))/\x<y/\P->G) (f:b=r->¬x<y->(¬(x:Int)<(y:Int))/\(¬x<y)/\P->G):G:=by
 by_cases hc:x<y
 ·exact t (if_t (by omega) h) hc ⟨by omega,hc,F⟩
 ·exact f (if_f (by omega) h) hc ⟨by omega,hc,F⟩
theorem fm {α:Type} {x y:Nat} {a b r:α} (h:(if(x:Int)<=(y:Int)then a else b)=r) (F:P) (t:a=r->x<=y->((x:Int)<=(y:Int))/\x<=y/\P->G) (f:b=r->¬x<=y->(¬(x:Int)<=(y:Int))/\(¬x<=y)/\P->G):G:=by
 by_cases hc:x<=y
 ·exact t (if_t (by omega) h) hc ⟨by omega,hc,F⟩
 ·exact f (if_f (by omega) h) hc ⟨by omega,hc,F⟩
theorem fv {α:Type} {c:Bool} {a b r:α} (h:(if c=true then a else b)=r) (F:P) (t:a=r->c=true->c=true/\P->G) (f:b=r->c=false->c=false/\P->G):G:=by
 cases c with
 |true=>exact t (by simpa using h) rfl ⟨rfl,F⟩
 |false=>exact f (by simpa using h) rfl ⟨rfl,F⟩
theorem bi {α β:Type} {x:Option α} {f:α->Option β} {r:β} (h:x.bind f=some r) (k:∀a,f a=some r->x=some a->G):G:=by
 obtain⟨a,h1,h2⟩:=zte h;exact k a h2 h1
theorem bx {α β:Type} {xs:List α} {i:Nat} {f:α->Option β} {r:β} (h:(xs[i]?).bind f=some r) (F:P) (k:∀a,f a=some r->xs[i]? =some a->(xs[i]? =some a/\0<=(i:Int)/\(i:Int)<(xs.length:Int)/\i<xs.length/\P)->G):G:=by
 obtain⟨a,h1,h2⟩:=zte h;obtain⟨f1,f2,f3,f4⟩:=z4i h1;exact k a h2 f4 ⟨f4,f1,f2,f3,F⟩
theorem by_ {α β:Type} {xs:List α} {i:Int} {f:α->Option β} {r:β} (h:(idx xs i).bind f=some r) (F:P) (k:∀a,f a=some r->xs[i.toNat]? =some a->(xs[i.toNat]? =some a/\0<=i/\i<(xs.length:Int)/\i.toNat<xs.length/\P)->G):G:=by
 obtain⟨a,h1,h2⟩:=zte h;obtain⟨f1,f2,f3,f4⟩:=yb9 h1;exact k a h2 f4 ⟨f4,f1,f2,f3,F⟩
theorem ln {P P':Prop} (F:P) (k:P'->G) (e:P=P':=by((try simp only[List.length_replicate,Wa7,Wai,Waj,Wam,Waq,WaA,WaM,ycx,Wbd,Nat.reduceAdd,Int.cast_ofNat_Int]at F|-);rfl)):G:=k (e.mp F)
theorem nd {p:Prop} [Decidable p] {α:Type} {x:Option α} {r:α} (h:need p x=some r) (F:P) (k:x=some r->p/\P->G):G:=by
 obtain⟨h1,h2⟩:=z2u h;exact k h2 ⟨h1,F⟩
theorem wn (k:Nat) (F:P) (c:IntKind.i64.wrap ((k:Int)+1)=(k:Int)+1/\P->G) (h:(k:Int)+1<=9223372036854775807:=by omega):G:=c ⟨ydn h,F⟩
end
theorem Clo.all {c:List C} (h:Clo c):(∀(H:List O) (k:Nat),c.map (C.viewN H k)=c)/\(∀m,zem m c=true)/\(∀(H:List O),(c.map V.one).map (V.view H)=c.map V.one)/\∀m,ltVs m (c.map V.one)=true:=⟨h.vw,h.lt,h.vws,h.lts⟩
theorem clo {c:List C} (h:Clo c:=by first|exact Clo.nil|exact⟨by simp[go_sem,F],by simp[go_sem,F]⟩):Clo c:=h
theorem sr {σ ρ:Type} {f:σ->Option ρ} {x e:ρ} (h:Sum.elim f some (.inr x)=some e):x=e:=Wab h
section
variable {P:Program} {n:Cf} {Fs:List Fr} {Q:Ex->St->Prop}
theorem cS {f:FuncId} {args args':List V} {H:List O} {d:Option Nat} {all:Array Oper} {rest:List Oper} {t:List (Nat×V)} {x:V} (h:Pu P f args' x) (hk:awpS P n (.ops all rest::Fs) (St.put ⟨t,H⟩ d x H) Q)
 (ha:args.map (V.view H)=args':=by first|(simp[go_sem,F];done)|rfl) (hl:ltVs 0 args'=true:=by first|(simp[go_sem,F];done)|rfl) (hx:x.lt 0=true:=by simp[go_sem,F]) (hb:args.all (fun a=> !a.own)=true\/x.scalar=true:=by first|(simp[go_sem,F];done)|exact .inl rfl):CtS P n f args H d all rest Fs t Q:=zvn h ha hl hx hb hk
theorem cD {f:FuncId} {args args':List V} {H:List O} {d:Nat} {all:Array Oper} {rest:List Oper} {N:List Fo} {t:List (Nat×V)} {x:V} (h:Pu P f args' x) (hk:awpS P n (.draw all rest N::Fs) ⟨(d,x)::t,H⟩ Q)
 (ha:args.map (V.view H)=args':=by first|(simp[go_sem,F];done)|rfl) (hl:ltVs 0 args'=true:=by first|(simp[go_sem,F];done)|rfl) (hx:x.lt 0=true:=by simp[go_sem,F]) (hb:args.all (fun a=> !a.own)=true\/x.scalar=true:=by first|(simp[go_sem,F];done)|exact .inl rfl):CtD P n f args H (some d) all rest N Fs t Q:=yot h ha hl hx hb hk
theorem iS {f:FuncId} {fn:Func} {c:Code} {args:List V} {H:List O} {d:Option Nat} {all:Array Oper} {rest:List Oper} {t:List (Nat×V)}
 (hf:P.funcs[f]? =some fn) (h:awpS P ⟨fn.ntmps,H.length⟩ [.code c] ⟨zm7 0 args,H⟩ (endK P fn.results.toList fun v H'=>awpS P n (.ops all rest::Fs) (St.put ⟨t,H'⟩ d v H') Q))
 (hb:fn.body=some c:=by rfl) (hname:(fn.name== "runtime.NumGoroutine")=false:=by kernel_rfl) (hok:okC fn.ntmps c=true:=by kernel_rfl):CtS P n f args H d all rest Fs t Q:=zvl hf hb hname hok h
theorem pA {f:FuncId} {fn:Func} {c:Code} {args:List V} {x:V} (hf:P.funcs[f]? =some fn) (h:awpS P ⟨fn.ntmps,0⟩ [.code c] ⟨zm7 0 args,[]⟩ (endK P fn.results.toList fun v H=>v.view H=x/\x.lt 0=true))
 (hb:fn.body=some c:=by rfl) (hname:(fn.name== "runtime.NumGoroutine")=false:=by kernel_rfl) (hok:okC fn.ntmps c=true:=by kernel_rfl):Pu P f args x:=yay hf hb hname hok (zx2 h)
def Aft (P:Program) (n:Cf) (Fs:List Fr) (Q:Ex->St->Prop) {ρ β:Type} (J:ρ->β->St) (id:ρ->Option Nat) (e:ρ):Prop:=∀i b,id e=some i->zrs P n i Fs (J e b) Q
def Bck (P:Program) (n:Cf) (body:Code) (Fs:List Fr) (Q:Ex->St->Prop) {σ ρ α:Type} (f:σ->Option (σ⊕ρ)) (m:Nat) (e:ρ) (ST:σ->α->St):Prop:=∀s' a',zpv f m s'=some e->LoopP P n body Fs (ST s' a') Q
theorem lE {body:Code} {σ ρ α β:Type} {f:σ->Option (σ⊕ρ)} (ST:σ->α->St) (J:ρ->β->St) (id:ρ->Option Nat) {s0:σ} (a0:α) {e:ρ} {st:St} (h:loop f s0=some e)
  (aft:Aft P n Fs Q J id e)
  (step:Aft P n Fs Q J id e->∀(m:Nat) (s:σ) (a:α) (o:σ⊕ρ),f s=some o->Sum.elim (zpv f m) some o=some e->Bck P n body Fs Q f m e ST->awpS P n [.code body] (ST s a) (z0p P n body Fs Q))
  (g1:n.m<=(ST s0 a0).H.length:=by simp) (g2:zos (ST s0 a0).H.length ((ST s0 a0).t.map Prod.fst) st.t=true:=by simp[go_sem,F]) (g3:(st.H.take (ST s0 a0).H.length).all (O.lt (ST s0 a0).H.length)=true:=by simp[go_sem,F])
  (g4:(⟨zv9 ((ST s0 a0).t.map Prod.fst) st.t,st.H.take (ST s0 a0).H.length⟩:St)=ST s0 a0:=by simp[go_sem,z9o,WaL,F]<;>omega):LoopS P n body Fs st Q:=
 z7n _ _ _ g1 g2 g3 g4 (yf9 ST J id a0 h aft step)
theorem bk {body:Code} {σ ρ α:Type} {f:σ->Option (σ⊕ρ)} {ST:σ->α->St} {m:Nat} {e:ρ} {st:St} (ih:Bck P n body Fs Q f m e ST) {s':σ} (ho:Sum.elim (zpv f m) some (.inl s')=some e) (a':α)
 (g1:n.m<=(ST s' a').H.length:=by simp) (g2:zos (ST s' a').H.length ((ST s' a').t.map Prod.fst) st.t=true:=by simp[go_sem,F]) (g3:(st.H.take (ST s' a').H.length).all (O.lt (ST s' a').H.length)=true:=by simp[go_sem,F])
 (g4:(⟨zv9 ((ST s' a').t.map Prod.fst) st.t,st.H.take (ST s' a').H.length⟩:St)=ST s' a':=by simp[go_sem,z9o,WaL,F]<;>omega):LoopP P n body Fs st Q:=yie _ _ _ g1 g2 g3 g4 (ih s' a' ho)
theorem xt {σ ρ β:Type} {f:σ->Option ρ} {J:ρ->β->St} {id:ρ->Option Nat} {e x:ρ} {i:Nat} {st:St} (ho:Sum.elim f some (.inr x)=some e) (af:Aft P n Fs Q J id e) (b:β)
  (g1:n.m<=(J x b).H.length:=by simp) (g2:zos (J x b).H.length ((J x b).t.map Prod.fst) st.t=true:=by simp[go_sem,F]) (g3:(st.H.take (J x b).H.length).all (O.lt (J x b).H.length)=true:=by simp[go_sem,F])
  (g4:(⟨zv9 ((J x b).t.map Prod.fst) st.t,st.H.take (J x b).H.length⟩:St)=J x b:=by simp[go_sem,z9o,WaL,F]<;>omega) (hi:id x=some i:=by rfl):yfe P n i Fs st Q:=by
 cases sr ho;exact yif _ _ _ g1 g2 g3 g4 (af i b hi)
end
end Go.Lz
namespace Go.Lz
theorem p8:(2:Int)^min 8 64=256:=by decide
theorem p48:(2:Int)^min 48 64=281474976710656:=by decide
theorem p32:(2:Int)^min 32 64=4294967296:=by decide
theorem yl7:(2:Int)^min 16 64=65536:=by decide
theorem yl5:(2:Int)^min 24 64=16777216:=by decide
theorem yrl:(2:Int)^min 8 32=256:=by decide
theorem yl8:(2:Int)^min 16 32=65536:=by decide
theorem yl6:(2:Int)^min 24 32=16777216:=by decide
attribute [go_sem] yl7 yl5 yrl yl8 yl6
theorem yo1 {b:Bool}:(true==b)=b:=by cases b<;>rfl
theorem yo3 {b:Bool}:(false==b)= !b:=by cases b<;>rfl
theorem yo0 {b:Bool}:(b==true)=b:=by cases b<;>rfl
theorem yo2 {b:Bool}:(b==false)= !b:=by cases b<;>rfl
attribute [go_sem] p8 p48 p32 yo1 yo3 yo0 yo2
theorem ykw (n:Int):IntKind.i16.wrap n=(n+32768)%65536-32768:=by simp only[IntKind.wrap,IntKind.min,IntKind.signed,IntKind.bits];simp;omega
theorem yfx (n:Int):IntKind.i32.wrap n=(n+2147483648)%4294967296-2147483648:=by simp only[IntKind.wrap,IntKind.min,IntKind.signed,IntKind.bits];simp;omega
def zmi (k n:Int):Int:=if k=1 then(if n=0 then 0 else 1)else if k=2 then IntKind.i16.wrap n else if k=3\/k=4 then IntKind.i32.wrap n else 0
theorem yfw {k n:Int} (h1:¬k=1) (h2:¬k=2) (h3:¬k=3) (h4:¬k=4):zmi k n=0:=by simp[zmi,h1,h2,h3,h4]
theorem z9w {n:Int}:zmi 1 n=if n=0 then 0 else 1:=rfl
theorem z6z {n:Int}:zmi 2 n=(n+32768)%65536-32768:=by rw[<-ykw];rfl
theorem z6y {n:Int}:zmi 3 n=(n+2147483648)%4294967296-2147483648:=by rw[<-yfx];rfl
theorem z6x {n:Int}:zmi 4 n=(n+2147483648)%4294967296-2147483648:=by rw[<-yfx];rfl
theorem kinds (k:Int):k=1\/k=2\/k=3\/k=4\/(¬k=1/\¬k=2/\¬k=3/\¬k=4):=by omega
end Go.Lz
namespace Go.Lz
theorem ylz {α β:Type} {f:α->β} {xs:List α} {i:Nat} {x:α} (h:xs[i]? =some x):(xs.map f)[i]? =some (f x):=by rw[Wao,h];rfl
theorem z3q {α β:Type} (f:α->β) (xs:List α) (i:Nat) (x:α):List.take xs.length (List.map f (xs.set i x))=List.map f (xs.set i x):=WaZ (by simp)
theorem z3p {α β:Type} (f:α->β) (xs:List α) (i:Nat) (x:β):List.take xs.length ((List.map f xs).set i x)=(List.map f xs).set i x:=WaZ (by simp)
attribute [go_sem] z3q z3p
def minI (a b:Int):Int:=if b<a then b else a
def maxI (a b:Int):Int:=if b>a then b else a
theorem yrp {a b:Int}:(if b<a then b else a)=minI a b:=rfl
theorem yrq {a b:Int}:(if b>a then b else a)=maxI a b:=rfl
attribute [go_sem] yrp yrq
theorem yqc {α:Type} {a b c d e:α} {n:Nat}:List.take (min n 5) (List.take n [a,b,c,d,e])=List.take n [a,b,c,d,e]:=by
 rw[WaZ];rw[WaA];exact Wae _
attribute [go_sem] yqc
def ygh (l:List Int):Str:=l.map fun n=>UInt8.ofNat n.toNat
theorem z8s {b:Str}:zog b=(zwd b).map (eK .u8):=of_eq_true (eq_self _)
theorem ydj {l:List Int}:(l.map (eK .u8)).all z00=true:=by
 rw[Wak];intro r hr;obtain⟨n,_,rfl⟩:=Wau.1 hr;rfl
theorem ybh {l:List Int}:(l.map (eK .u8)).map z2m=ygh l:=by
 rw[Wbo];rfl
attribute [go_sem] z8s ydj ybh List.append_eq
end Go.Lz

end
section
namespace Go.Lz
mutual
def C.ren (f:Nat->Nat):C->C
 |.sl rows=>.sl (zbd f rows)
 |.slf rows=>.slf (zbd f rows)
 |.iptr row off=>.iptr (zeo f row) off
 |.fn g cap=>.fn g (zeo f cap)
 |.ifc t cs=>.ifc t (zeo f cs)
 |.ref id ver row off=>.ref (f id) ver row off
 |.msl id ver lo hi=>.msl (f id) ver lo hi
 |.mp id=>.mp (f id)
 |.int k n=>.int k n
 |.bool b=>.bool b
 |.str s=>.str s
 |.nilfn=>.nilfn
 |.nilif=>.nilif
 |.nilp=>.nilp
 |.nilm=>.nilm
def zeo (f:Nat->Nat):List C->List C
 |[]=>[]
 |c::r=>c.ren f::zeo f r
def zbd (f:Nat->Nat):List (List C)->List (List C)
 |[]=>[]
 |r::rs=>zeo f r::zbd f rs
end
mutual
def C.refs (p:Nat->Bool):C->Bool
 |.sl rows=>zay p rows
 |.slf rows=>zay p rows
 |.iptr row _=>zb9 p row
 |.fn _ cap=>zb9 p cap
 |.ifc _ cs=>zb9 p cs
 |.ref id _ _ _=>p id
 |.msl id _ _ _=>p id
 |.mp id=>p id
 |_=>true
def zb9 (p:Nat->Bool):List C->Bool
 |[]=>true
 |c::r=>c.refs p&&zb9 p r
def zay (p:Nat->Bool):List (List C)->Bool
 |[]=>true
 |r::rs=>zb9 p r&&zay p rs
end
theorem zmn {f:Nat->Nat}:∀{l:List C},zeo f l=l.map (C.ren f)
 |[]=>rfl
 |c::r=>by rw[zeo,zmn (l:=r)];rfl
theorem zi5 {f:Nat->Nat}:∀{l:List (List C)},zbd f l=l.map (List.map (C.ren f))
 |[]=>rfl
 |c::r=>by rw[zbd,zi5 (l:=r),zmn];rfl
theorem refsRow_iff {p:Nat->Bool}:∀{l:List C},zb9 p l=true↔∀c∈l,c.refs p=true
 |[]=>by simp[zb9]
 |c::r=>by simp[zb9,refsRow_iff (l:=r)]
theorem refsRows_iff {p:Nat->Bool}:∀{l:List (List C)},zay p l=true↔∀r∈l,zb9 p r=true
 |[]=>by simp[zay]
 |c::r=>by simp[zay,refsRows_iff (l:=r)]
theorem z7k {p:Nat->Bool} {rows:List (List C)} (h:zay p rows=true) {i j:Nat} {c:C} (I:at2 rows i j=some c):c.refs p=true:=by
 obtain⟨r,hr,U⟩:=at2_some.1 I;exact refsRow_iff.1 (refsRows_iff.1 h r (Wad hr)) c (Wad U)
theorem yh5 {f:Nat->Nat} {rows:List (List C)} {i j:Nat}:at2 (zbd f rows) i j=(at2 rows i j).map (C.ren f):=by
 rw[zi5];simp only[at2,Wao]
 cases rows[i]? with
 |none=>rfl
 |some r=>simp
theorem z2o {f:Nat->Nat} {rows:List (List C)} {i j:Nat} {c:C} (h:at2 (zbd f rows) i j=some c):∃I,at2 rows i j=some I/\c=I.ren f:=by
 rw[yh5,Wal]at h;obtain⟨I,h1,h2⟩:=h;exact⟨I,h1,h2.symm⟩
def V.ren (f:Nat->Nat):V->V
 |.one c=>.one (c.ren f)
 |.agg cs=>.agg (zeo f cs)
 |.tup vs=>.tup (renVs f vs)
 |.un=>.un
where renVs (f:Nat->Nat):List V->List V
 |[]=>[]
 |v::vs=>v.ren f::renVs f vs
def V.refs (p:Nat->Bool):V->Bool
 |.one c=>c.refs p
 |.agg cs=>zb9 p cs
 |.tup vs=>refsVs p vs
 |.un=>true
where refsVs (p:Nat->Bool):List V->Bool
 |[]=>true
 |v::vs=>v.refs p&&refsVs p vs
theorem z2p {f:Nat->Nat}:∀{l:List V},V.ren.renVs f l=l.map (V.ren f)
 |[]=>by rw[V.ren.renVs];rfl
 |c::r=>by rw[V.ren.renVs,z2p (l:=r)];rfl
theorem refsVs_iff {p:Nat->Bool}:∀{l:List V},V.refs.refsVs p l=true↔∀c∈l,c.refs p=true
 |[]=>by rw[V.refs.refsVs];simp
 |c::r=>by rw[V.refs.refsVs];simp[refsVs_iff (l:=r)]
def O.ren (f:Nat->Nat):O->O
 |.cells ver sz rows=>.cells ver sz (zbd f rows)
 |.map es=>.map (es.map fun e=>(e.1.ren f,e.2.ren f))
 |.dead=>.dead
def O.refs (p:Nat->Bool):O->Bool
 |.cells _ _ rows=>zay p rows
 |.map es=>es.all fun e=>e.1.refs p&&e.2.refs p
 |.dead=>true
theorem CRel.ren {E E':Env} {p:Nat->Bool} {f:Nat->Nat} (ab:∀b,E.free b->E'.free b) (ad:∀b o,E.free b->E'.w.cell? ⟨b,o,none⟩=E.w.cell? ⟨b,o,none⟩)
  (hid:∀id,p id=true->id<E.H.length->f id<E'.H.length/\E'.bd (f id)=E.bd id/\
    (∀cur sz rows,E'.H[f id]? =some (.cells cur sz rows)->∃U,E.H[id]? =some (.cells cur sz U)/\U.length=rows.length)/\(∀es,E'.H[f id]? =some (.map es)->∃ae,E.H[id]? =some (.map ae)))
  {c:C} {v:Value} (h:CRel E c v):c.refs p=true->CRel E' (c.ren f) v:=by
 induction h with
 |int h=>intro _;exact .int h
 |bool=>intro _;exact .bool
 |str h hl=>intro _;exact .str h hl
 | @sl rows a n cap vals sz hn hcap hlim hsz hb hv ih=>
   intro hl
   have hlen:(zbd f rows).length=rows.length:=by rw[zi5];simp
   refine .sl vals sz (by rw[hlen];exact hn) (by rw[hlen];exact hcap) (by rw[hlen];exact hlim) (fun r hr=>?_) (fun ai=>?_) (fun i j c af=>?_)
   ·rw[zi5]at hr
    obtain⟨r0,aj,rfl⟩:=Wau.1 hr;rw[Waq];exact hsz r0 aj
   ·obtain⟨b,off,ha,hf,hc⟩:=hb (fun e=>ai (by rw[e];rfl))
    refine⟨b,off,ha,ab b hf,fun i j c af=>?_⟩;obtain⟨I,h1,rfl⟩:=z2o af;rw[ad b _ hf];exact hc i j I h1
   ·obtain⟨I,h1,rfl⟩:=z2o af
    exact ih i j I h1 (z7k hl h1)
 | @slf rows v h hf ih=>
   intro hl;obtain⟨a,ha⟩:=hf;exact .slf (ih hl) ⟨a,by rw[ha,zi5];simp⟩
 | @iptr row off b o v vals he hb hc hv ih=>
   intro hl
   have get:∀(j:Nat) (c:C),(zeo f row)[j]? =some c->∃I,row[j]? =some I/\I.ren f=c:=fun j c hj=>by
    rw[zmn,Wao,Wal]at hj;exact hj
   refine .iptr vals he (ab _ hb) (fun j c hj=>?_) (fun j c hj=>?_)
   ·obtain⟨I,h1,rfl⟩:=get j c hj
    rw[ad _ _ hb];exact hc j I h1
   ·obtain⟨I,h1,rfl⟩:=get j c hj
    exact ih j I h1 (refsRow_iff.1 hl I (Wad h1))
 |fn hn hv ih=>
  intro hl;refine .fn (by rw[zmn,Waq];exact hn) (fun j c hj=>?_);rw[zmn,Wao,Wal]at hj;obtain⟨I,h1,rfl⟩:=hj;exact ih j I h1 (refsRow_iff.1 hl I (Wad h1))
 |ifc hn hv ih=>
  intro hl;refine .ifc (by rw[zmn,Waq];exact hn) (fun j c hj=>?_);rw[zmn,Wao,Wal]at hj;obtain⟨I,h1,rfl⟩:=hj;exact ih j I h1 (refsRow_iff.1 hl I (Wad h1))
 |nilfn=>intro _;exact .nilfn
 |nilif=>intro _;exact .nilif
 |nilp=>intro _;exact .nilp
 |nilm=>intro _;exact .nilm
 |ref aa hc h=>
  intro hl;obtain⟨h1,h2,h3,_⟩:=hid _ hl aa;refine .ref h1 hc fun cur sz rows ho=>?_;obtain⟨U,h4,_⟩:=h3 cur sz rows ho;rw[h2];exact h cur sz U h4
 |msl aa hc h=>
  intro hl;obtain⟨h1,h2,h3,_⟩:=hid _ hl aa;refine .msl h1 hc fun cur sz rows ho=>?_;obtain⟨U,h4,h5⟩:=h3 cur sz rows ho;obtain⟨k1,k2⟩:=h cur sz U h4;refine⟨k1,fun e=>?_⟩;rw[h2,<-h5];exact k2 e
 |mp aa hc h=>
  intro hl;obtain⟨h1,h2,_,h3⟩:=hid _ hl aa;refine .mp h1 hc fun es ho=>?_;obtain⟨ae,h4⟩:=h3 es ho;rw[h2];exact h ae h4
theorem VRel.ren {E E':Env} {p:Nat->Bool} {f:Nat->Nat} (hc:∀(c:C) (v:Value),CRel E c v->c.refs p=true->CRel E' (c.ren f) v) {x:V} {v:Value} (h:VRel E x v):x.refs p=true->VRel E' (x.ren f) v:=by
 induction h with
 |one h=>intro hl;rw[V.refs]at hl;rw[V.ren];exact .one (hc _ _ h hl)
 |agg hn h=>
  intro hl;rw[V.refs]at hl;rw[V.ren];refine .agg (by rw[zmn,Waq];exact hn) fun j c I=>?_;rw[zmn,Wao,Wal]at I;obtain⟨U,h1,rfl⟩:=I;exact hc _ _ (h j U h1) (refsRow_iff.1 hl U (Wad h1))
 |tup hn h ih=>
  intro hl;rw[V.refs]at hl;rw[V.ren];refine .tup (by rw[z2p,Waq];exact hn) fun j x I=>?_;rw[z2p,Wao,Wal]at I;obtain⟨U,h1,rfl⟩:=I;exact ih j U h1 (refsVs_iff.1 hl U (Wad h1))
 |un=>intro _;rw[V.ren];exact .un
theorem ORel.ren {E E':Env} {p:Nat->Bool} {f:Nat->Nat} (hc:∀(c:C) (v:Value),CRel E c v->c.refs p=true->CRel E' (c.ren f) v) {id ab:Nat} (I:E'.bd ab=E.bd id) {o:O} (hw:E.live id o->E'.w.heap[(E.bd id).blk]? =E.w.heap[(E.bd id).blk]?)
  (h:ORel E id o) (hr:o.refs p=true):ORel E' ab (o.ren f):=by
 cases o with
 |cells ver sz rows=>
  obtain⟨h3,h4,h5,h6⟩:=h
  have hlen:(zbd f rows).length=rows.length:=by rw[zi5];simp
  refine⟨by rw[I,hlen];exact h3,by rw[hlen];exact h4,fun r ad=>?_,fun hcap=>?_⟩
  ·rw[zi5]at ad
   obtain⟨r0,ai,rfl⟩:=Wau.1 ad;rw[Waq];exact h5 r0 ai
  ·rw[I]at hcap
   obtain⟨arr,ty,h1,h2,h6⟩:=h6 hcap;refine⟨arr,ty,by rw[I];exact h1.congr (hw hcap),by rw[I];exact h2,fun i j c aj=>?_⟩;obtain⟨c0,U,rfl⟩:=z2o aj;obtain⟨v,hv,ae⟩:=h6 i j c0 U;exact⟨v,by rw[I];exact hv,hc _ _ ae (z7k hr U)⟩
 |map es=>
  obtain⟨af,clock,h1,h2,h3⟩:=h;refine⟨af,clock,by rw[I,hw trivial];exact h1,by rw[Waq];exact h2,fun i k x hi=>?_⟩;rw[Wao,Wal]at hi;obtain⟨e0,U,k2⟩:=hi;obtain⟨e,q1,q2,q3⟩:=h3 i e0.1 e0.2 U
  have aa:=Wak.1 hr e0 (Wad U)
  rw[Wan]at aa;cases k2;exact⟨e,q1,hc _ _ q2 aa.1,hc _ _ q3 aa.2⟩
 |dead=>trivial
def zlj (ids:List Nat) (H:List O):List O:=ids.map fun i=>(H.getD i .dead).ren (fun j=>ids.idxOf j)
def zkp (ids:List Nat) (H H1:List O):List O:=H.mapIdx fun i o=>if ids.contains i then(H1.getD (ids.idxOf i) .dead).ren (fun k=>ids.getD k 0)else o
theorem z6h {P:Program} {f:FuncId} {aA args:List V} {H H0:List O} {K0 K:V->List O->Prop} (ids:List Nat) (h:Ct P f aA H0 K0)
  (aY:ids.Nodup) (aB:∀i∈ids,i<H.length) (aS:zlj ids H=H0) (aZ:(ids.all fun i=>(H.getD i .dead).refs (fun j=>ids.contains j))=true)
  (ha:args.map (V.ren fun j=>ids.idxOf j)=aA) (a4:(args.all fun x=>x.refs (fun j=>ids.contains j))=true)
  (hk:∀x H1,K0 x H1->H1.length=ids.length/\x.refs (fun k=>decide (k<ids.length))=true/\(H1.all fun o=>o.refs (fun k=>decide (k<ids.length)))=true/\K (x.ren fun k=>ids.getD k 0) (zkp ids H H1)):Ct P f args H K:=by
 refine⟨h.1,fun E vs hE hH hn hv=>?_⟩;subst hH
 have aT:∀{i:Nat},i∈ids->ids.contains i=true:=fun hi=>by simpa using hi
 have aj:∀{i:Nat},i∈ids->ids.idxOf i<ids.length:=fun hi=>List.idxOf_lt_length_iff.2 hi
 have ak:∀{i:Nat} (hi:i∈ids),ids.getD (ids.idxOf i) 0=i:=fun{i} hi=>by
  rw[List.getD_eq_getElem?_getD,Wac (aj hi)];simp[List.getElem_idxOf]
 have av:∀{k:Nat},k<ids.length->ids.getD k 0∈ids:=fun{k} hk=>by
  rw[List.getD_eq_getElem?_getD,Wac hk];exact Wap hk
 have aw:∀{k:Nat},k<ids.length->ids.idxOf (ids.getD k 0)=k:=fun{k} hk=>by
  rw[List.getD_eq_getElem?_getD,Wac hk];simp only[WaI];exact aY.idxOf_getElem k hk
 have an:∀{k:Nat},k<ids.length->∀{o:O},E.H[ids.getD k 0]? =some o->H0[k]? =some (o.ren fun j=>ids.idxOf j):=fun{k} hk {o} U=>by
  rw[<-aS,zlj,Wao,Wac hk]
  have:ids.getD k 0=ids[k]:=by rw[List.getD_eq_getElem?_getD,Wac hk];rfl
  rw[this]at U;simp[List.getD_eq_getElem?_getD,U]
 have ai:∀{i:Nat},i∈ids->∃o,E.H[i]? =some o/\o.refs (fun j=>ids.contains j)=true:=fun{i} hi=>by
  refine⟨E.H[i]'(aB i hi),by simp[aB i hi],?_⟩
  have:=Wak.1 aZ i hi
  rwa[List.getD_eq_getElem?_getD,Wac (aB i hi)]at this
 have ax:H0.length=ids.length:=by rw[<-aS,zlj,Waq]
 let other:Nat->Prop:=fun b=>∃(j:Nat) (o:O),E.H[j]? =some o/\j∉ids/\E.live j o/\(E.bd j).blk=b
 let E0:Env:=⟨E.w,fun b=>E.Fr b\/other b,fun k=>E.bd (ids.getD k 0),H0⟩
 have I:∀{A B:Env} {i j:Nat} {o:O} {g:Nat->Nat},A.bd i=B.bd j->(A.live i (o.ren g)↔B.live j o):=fun{A B i j o g} e=>by
  cases o<;>simp[O.ren,Env.live,e]
 have aq:∀b,E0.own b->∃(i:Nat) (o:O),i∈ids/\E.H[i]? =some o/\E.live i o/\(E.bd i).blk=b:=by
  rintro b ⟨k,o,h1,h2,h3⟩
  have hk:k<ids.length:=by rw[<-ax];exact(Wag.1 h1).1
  obtain⟨o0,aa,_⟩:=ai (av hk)
  have:=an hk aa
  rw[show E0.H[k]? =H0[k]? from rfl,this]at h1;cases h1;exact⟨ids.getD k 0,o0,av hk,aa,(I (A:=E0) (B:=E) (i:=k) (j:=ids.getD k 0) rfl).1 h2,h3⟩
 have ay:∀b,E.free b->E0.free b:=fun b hb=>⟨hb.1,fun h=>h.elim hb.2.1 (fun⟨j,o,q1,_,q2,q3⟩=>hb.2.2 ⟨j,o,q1,q2,q3⟩),fun h=>by
  obtain⟨i,o,_,q1,q2,q3⟩:=aq b h
  exact hb.2.2 ⟨i,o,q1,q2,q3⟩⟩
 have aC:∀(c:C) (v:Value),CRel E c v->c.refs (fun j=>ids.contains j)=true->CRel E0 (c.ren fun j=>ids.idxOf j) v:=fun c v aH hr=>
  aH.ren ay (fun _ _ _=>rfl) (fun id hp hid=>by
   have hm:id∈ids:=by simpa using hp
   refine⟨by show ids.idxOf id<H0.length;rw[ax];exact aj hm,by show E.bd _=_;rw[ak hm],?_,?_⟩
   ·intro cur sz rows U
    obtain⟨o0,aa,_⟩:=ai hm
    have:=an (aj hm) (by rw[ak hm];exact aa)
    rw[show E0.H[ids.idxOf id]? =H0[ids.idxOf id]? from rfl,this]at U
    cases o0 with
    |cells ver sz' af=>
     simp only[O.ren,WaP,O.cells.injEq]at U;obtain⟨rfl,rfl,rfl⟩:=U;exact⟨af,aa,by rw[zi5];simp⟩
    |map es=>simp[O.ren]at U
    |dead=>simp[O.ren]at U
   ·intro es U
    obtain⟨o0,aa,_⟩:=ai hm
    have:=an (aj hm) (by rw[ak hm];exact aa)
    rw[show E0.H[ids.idxOf id]? =H0[ids.idxOf id]? from rfl,this]at U
    cases o0 with
    |cells ver sz' af=>simp[O.ren]at U
    |map es=>exact⟨es,aa⟩
    |dead=>simp[O.ren]at U) hr
 have a5:HRel E0:=by
  have ar:∀{k:Nat} {o:O},E0.H[k]? =some o->k<ids.length/\∃o0,E.H[ids.getD k 0]? =some o0/\o0.refs (fun j=>ids.contains j)=true/\o=o0.ren fun j=>ids.idxOf j:=fun{k o} hk=>by
   have au:k<ids.length:=by rw[<-ax];exact(Wag.1 hk).1
   obtain⟨o0,aa,aI⟩:=ai (av au)
   have:=an au aa
   rw[show E0.H[k]? =H0[k]? from rfl,this]at hk;cases hk;exact⟨au,o0,aa,aI,rfl⟩
  refine⟨fun k o hk=>?_,fun i j x y hx hy lx ly aD=>?_,fun k o hk hl=>?_,fun b hb=>?_,hE.glob.of ay (fun _ _ _=>rfl)⟩
  ·obtain⟨au,o0,aa,aI,rfl⟩:=ar hk
   exact(hE.obj _ o0 aa).ren (E':=E0) aC rfl (fun _=>rfl) aI
  ·obtain⟨h1,x0,ao,_,rfl⟩:=ar hx
   obtain⟨h2,y0,az,_,rfl⟩:=ar hy;refine hE.dist _ _ x0 y0 ao az ((I (A:=E0) (B:=E) rfl).1 lx) ((I (A:=E0) (B:=E) rfl).1 ly) (fun e=>aD ?_);rw[<-aw h1,<-aw h2,e]
  ·obtain⟨h1,x0,ao,_,rfl⟩:=ar hk
   have aU:=(I (A:=E0) (B:=E) (i:=k) (j:=ids.getD k 0) rfl).1 hl
   rintro(hf|⟨j,o,q1,q2,q3,q4⟩)
   ·exact hE.nofr _ x0 ao aU hf
   ·refine hE.dist _ _ o x0 q1 ao q3 aU (fun e=>q2 (e▸av h1)) q4
  ·rcases hb with hb|⟨j,o,q1,_,q2,q3⟩
   ·exact hE.frlt b hb
   ·exact hE.own_lt ⟨j,o,q1,q2,q3⟩
 subst ha;refine Calls.mono (h.2 E0 vs a5 rfl (by simpa using hn) (fun j y hj=>?_)) ?_
 ·simp only[Wao,Wal]at hj
  obtain⟨z,hz,rfl⟩:=hj;exact(hv j z hz).ren aC (Wak.1 a4 z (Wad hz))
 ·rintro e w' ⟨v,y,E1,rfl,rfl,hK,a6,hh,tr⟩
  obtain⟨hlen,a7,a8,a9⟩:=hk y E1.H hK
  let ba:Nat->Bd:=fun i=>if ids.contains i then E1.bd (ids.idxOf i)else E.bd i
  let E':Env:=⟨E1.w,E.Fr,ba,zkp ids E.H E1.H⟩
  have ad:∀{i:Nat},i∈ids->E'.bd i=E1.bd (ids.idxOf i):=fun{i} hi=>if_pos (aT hi)
  have ae:∀{i:Nat},i∉ids->E'.bd i=E.bd i:=fun{i} hi=>if_neg (by simpa using hi)
  have ab:∀{i:Nat} {o:O},E'.H[i]? =some o->(i∈ids/\∃o1,E1.H[ids.idxOf i]? =some o1/\o=o1.ren fun k=>ids.getD k 0)\/(i∉ids/\E.H[i]? =some o):=fun{i o} hi=>by
   show(_\/_)
   simp only[E',zkp,List.getElem?_mapIdx,Wal]at hi;obtain⟨o0,h0,hi⟩:=hi
   by_cases hm:i∈ids
   ·rw[if_pos (aT hm)]at hi
    have aJ:ids.idxOf i<E1.H.length:=by rw[hlen];exact aj hm
    refine .inl ⟨hm,E1.H[ids.idxOf i],by simp[aJ],?_⟩;rw[<-hi,List.getD_eq_getElem?_getD,Wac aJ];rfl
   ·rw[if_neg (by simpa using hm)]at hi
    exact .inr ⟨hm,by rw[h0,hi]⟩
  have sizeLe:E.w.heap.size<=E1.w.heap.size:=tr.size
  have aK:∀b,E'.own b->E1.own b\/other b:=by
   rintro b ⟨i,o,h1,h2,h3⟩
   rcases ab h1 with⟨hm,o1,ho1,rfl⟩|⟨hm,U⟩
   ·refine .inl ⟨ids.idxOf i,o1,ho1,(I (A:=E') (B:=E1) (ad hm)).1 h2,by rw[<-ad hm];exact h3⟩
   ·exact .inr ⟨i,o,U,hm,(zbj (ae hm)).1 h2,by rw[<-ae hm];exact h3⟩
  have aL:∀b,E1.free b->E'.free b:=fun b hb=>by
   have aM:=hb.2.1
   rw[tr.fr]at aM;refine⟨hb.1,fun h=>aM (.inl h),fun h=>?_⟩
   rcases aK b h with h|h
   ·exact hb.2.2 h
   ·exact aM (.inr h)
  have aN:∀(c:C) (v:Value),CRel E1 c v->c.refs (fun k=>decide (k<ids.length))=true->CRel E' (c.ren fun k=>ids.getD k 0) v:=fun c v aH hr=>
   aH.ren aL (fun _ _ _=>rfl) (fun k hp hk=>by
    have aE:k<ids.length:=by simpa using hp
    have hm:=av aE
    refine⟨?_,by rw[ad hm,aw aE],?_,?_⟩
    ·show _<(zkp ids E.H E1.H).length
     simp only[zkp,List.length_mapIdx];exact aB _ hm
    ·intro cur sz rows U
     rcases ab U with⟨_,o1,ho1,e⟩|⟨al,_⟩
     ·rw[aw aE]at ho1
      cases o1 with
      |cells ver sz' af=>
       simp only[O.ren,O.cells.injEq]at e;obtain⟨rfl,rfl,rfl⟩:=e;exact⟨af,ho1,by rw[zi5];simp⟩
      |map es=>simp[O.ren]at e
      |dead=>simp[O.ren]at e
     ·exact(al hm).elim
    ·intro es U
     rcases ab U with⟨_,o1,ho1,e⟩|⟨al,_⟩
     ·rw[aw aE]at ho1
      cases o1 with
      |cells ver sz' af=>simp[O.ren]at e
      |map es=>exact⟨es,ho1⟩
      |dead=>simp[O.ren]at e
     ·exact(al hm).elim) hr
  have aG:∀b,¬E.own b->¬E0.own b:=fun b hb h=>by
   obtain⟨i,o,_,q1,q2,q3⟩:=aq b h;exact hb ⟨i,o,q1,q2,q3⟩
  have t:Trans E E':=by
   refine⟨rfl,tr.size,tr.os,tr.tape,tr.output,fun b hb U=>tr.keep b hb (aG b U),fun b hb U=>?_,by simp[E',zkp],?_,?_⟩
   ·rcases aK b U with h|⟨j,o,q1,_,q2,q3⟩
    ·obtain⟨i,o,_,q1,q2,q3⟩:=aq b (tr.own b hb h)
     exact⟨i,o,q1,q2,q3⟩
    ·exact⟨j,o,q1,q2,q3⟩
   ·intro id aW sz' af hid U
    rcases ab U with⟨hm,o1,ho1,e⟩|⟨hm,aO⟩
    ·cases o1 with
     |cells aX bb aR=>
      simp only[O.ren,O.cells.injEq]at e;obtain⟨rfl,rfl,rfl⟩:=e;obtain⟨ver,sz,rows,k1,k2,k3⟩:=tr.objC (ids.idxOf id) _ _ _ (by show _<H0.length;rw[ax];exact aj hm) ho1;obtain⟨o0,aa,_⟩:=ai hm
      have hz:=an (aj hm) (by rw[ak hm];exact aa)
      rw[show E0.H[ids.idxOf id]? =H0[ids.idxOf id]? from rfl,hz]at k1
      cases o0 with
      |cells aP aV aF=>
       simp only[O.ren,WaP,O.cells.injEq]at k1;obtain⟨rfl,rfl,rfl⟩:=k1;refine⟨aP,aV,aF,aa,k2,fun e=>?_⟩;obtain⟨q1,q2,q3⟩:=k3 e;refine⟨q1,?_,?_⟩
       ·rw[zi5,Waq]at q2
        rw[zi5,Waq];exact q2
       ·rw[ad hm,q3]
        show E.bd _=_
        rw[ak hm]
      |map es=>simp[O.ren]at k1
      |dead=>simp[O.ren]at k1
     |map es=>simp[O.ren]at e
     |dead=>simp[O.ren]at e
    ·exact⟨aW,sz',af,aO,Wae _,fun _=>⟨rfl,rfl,ae hm⟩⟩
   ·intro id bc hid U
    rcases ab U with⟨hm,o1,ho1,e⟩|⟨hm,aO⟩
    ·cases o1 with
     |cells aX bb aR=>simp[O.ren]at e
     |map bf=>
      obtain⟨es,k1,k2⟩:=tr.objM (ids.idxOf id) bf (by show _<H0.length;rw[ax];exact aj hm) ho1;obtain⟨o0,aa,_⟩:=ai hm
      have hz:=an (aj hm) (by rw[ak hm];exact aa)
      rw[show E0.H[ids.idxOf id]? =H0[ids.idxOf id]? from rfl,hz]at k1
      cases o0 with
      |cells aP aV aF=>simp[O.ren]at k1
      |map bg=>
       refine⟨bg,aa,?_⟩;rw[ad hm,k2]
       show(E.bd _).blk=_
       rw[ak hm]
      |dead=>simp[O.ren]at k1
     |dead=>simp[O.ren]at e
    ·exact⟨bc,aO,by rw[ae hm]⟩
  have bh:HRel E':=by
   refine⟨fun i o hi=>?_,fun i j x y hx hy lx ly aD hb=>?_,fun i o hi hl hf=>?_,fun b hb=>War (hE.frlt b hb) sizeLe,hE.gl t⟩
   ·rcases ab hi with⟨hm,o1,ho1,rfl⟩|⟨hm,U⟩
    ·exact(hh.obj _ o1 ho1).ren (E':=E') aN (ad hm) (fun _=>rfl) (Wak.1 a8 o1 (Wad ho1))
    ·exact(hE.obj i o U).keep t (ae hm) (fun hl=>tr.keep _ (hE.own_lt ⟨i,o,U,hl,rfl⟩) (fun h0=>by
      obtain⟨i',o',q0,q1,q2,q3⟩:=aq _ h0
      exact hE.dist i' i o' o q1 U q2 hl (fun e=>hm (e▸q0)) q3))
   ·--two objects bo apart
    have apart:∀{i j:Nat} {x y:O},i∈ids->j∉ids->E'.H[i]? =some x->E'.H[j]? =some y->E'.live i x->E'.live j y->(E'.bd i).blk≠(E'.bd j).blk:=by
     intro i j x y hi hj hx hy lx ly e
     rcases ab hx with⟨_,x1,aQ,rfl⟩|⟨al,_⟩
     ·rcases ab hy with⟨bj,_⟩|⟨_,az⟩
      ·exact hj bj
      ·have bl:=(zbj (ae hj)).1 ly
       have bm:=(I (A:=E') (B:=E1) (ad hi)).1 lx
       rw[ad hi,ae hj]at e;refine hh.nofr _ x1 aQ bm ?_;rw[tr.fr,e];exact .inr ⟨j,y,az,hj,bl,rfl⟩
     ·exact al hi
    by_cases hi:i∈ids<;>by_cases hj:j∈ids
    ·rcases ab hx with⟨_,x1,aQ,rfl⟩|⟨al,_⟩
     ·rcases ab hy with⟨_,y1,bn,rfl⟩|⟨al,_⟩
      ·rw[ad hi,ad hj]at hb
       refine hh.dist _ _ x1 y1 aQ bn ((I (A:=E') (B:=E1) (ad hi)).1 lx) ((I (A:=E') (B:=E1) (ad hj)).1 ly) (fun e=>aD ?_) hb;rw[<-ak hi,<-ak hj,e]
      ·exact al hj
     ·exact al hi
    ·exact apart hi hj hx hy lx ly hb
    ·exact apart hj hi hy hx ly lx hb.symm
    ·rcases ab hx with⟨hm,_⟩|⟨_,ao⟩
     ·exact hi hm
     ·rcases ab hy with⟨hm,_⟩|⟨_,az⟩
      ·exact hj hm
      ·rw[ae hi,ae hj]at hb
       exact hE.dist i j x y ao az ((zbj (ae hi)).1 lx) ((zbj (ae hj)).1 ly) aD hb
   ·rcases ab hi with⟨hm,o1,ho1,rfl⟩|⟨hm,U⟩
    ·have l1:=(I (A:=E') (B:=E1) (ad hm)).1 hl
     refine hh.nofr _ o1 ho1 l1 ?_;rw[tr.fr,<-ad hm];exact .inl hf
    ·have l1:=(zbj (ae hm)).1 hl
     rw[ae hm]at hf;exact hE.nofr i o U l1 hf
  exact⟨v,_,E',rfl,rfl,a9,a6.ren aN a7,bh,t⟩
theorem z9n {P:Program} {f:FuncId} {fn:Func} {c:Code} (hf:P.funcs[f]? =some fn) (hb:fn.body=some c) (U:(fn.name== "runtime.NumGoroutine")=false) (aa:okC fn.ntmps c=true)
  {args:List V} {H:List O} {K:V->List O->Prop} (h:awp P ⟨fn.ntmps,H.length⟩ c ⟨zm7 0 args,H⟩ (endK P fn.results.toList fun v H'=>H.length<=H'.length/\v.lt H.length=true/\((H'.take H.length).all (O.lt H.length))=true/\K v (H'.take H.length))):Ct P f args H K:=by
 have:=zvl hf hb U aa h
 refine⟨this.1,fun E vs h1 h2 h3 h4=>Calls.mono (this.2 E vs h1 h2 h3 h4) ?_⟩;rintro e w' ⟨v,x,E',rfl,rfl,⟨hl,hx,ho,hK⟩,hv,hh,tr⟩
 have hs:SR E ⟨0,H.length⟩ ⟨[(0,x)],E'.H⟩ {tmps:= #[v],defers:=[]} E':=by
  refine⟨Waf _,by rw[h2];exact Wae _,rfl,fun i=>?_,rfl,hh,tr⟩
  cases i with
  |zero=>simpa [look]using hv
  |succ i=>simp only[look];exact .un
 obtain⟨E2,hw,I⟩:=hs.purge [0] H.length (Wae _) (by simp[zos,look,hx]) ho;refine⟨v,x,E2,rfl,hw,by rw[I.H];exact hK,?_,I.rel,I.tr⟩
 have:=I.tm 0
 rw[zyh]at this;simpa [look]using this
end Go.Lz

end
section
namespace Go.Lz
section
variable {P:Program} {n:Cf} {Fs:List Fr} {Q:Ex->St->Prop}
theorem pAL {f:FuncId} {fn:Func} {c:Code} {args:List V} {H:List O} {K:V->List O->Prop} (hf:P.funcs[f]? =some fn) (h:awpS P ⟨fn.ntmps,H.length⟩ [.code c] ⟨zm7 0 args,H⟩ (endK P fn.results.toList fun v H'=>H.length<=H'.length/\v.lt H.length=true/\((H'.take H.length).all (O.lt H.length))=true/\K v (H'.take H.length)))
 (hb:fn.body=some c:=by rfl) (hname:(fn.name== "runtime.NumGoroutine")=false:=by kernel_rfl) (hok:okC fn.ntmps c=true:=by kernel_rfl):Ct P f args H K:=z9n hf hb hname hok (zx2 h)
theorem yfc {b:Bool} {S:List Nat} {H:List O}:flA b S H H:=by cases b<;>simp[flA,zo2]
theorem cU {f:FuncId} {args args':List V} {H:List O} {d:Option Nat} {S Fl FE:List Nat} {k:Nat} {rest:List Oper} {t:List (Nat×V)} {x:V} (h:Pu P f args' x) (hk:awpS P n (.flo S Fl FE (k+1) rest::Fs) (St.put ⟨t,H⟩ d x H) Q)
  (ha:args.map (V.view H)=args':=by first|(simp[go_sem,F];done)|rfl) (hl:ltVs 0 args'=true:=by first|(simp[go_sem,F];done)|rfl) (hx:x.lt 0=true:=by simp[go_sem,F]) (hb:args.all (fun a=> !a.own)=true\/x.scalar=true:=by first|(simp[go_sem,F];done)|exact .inl rfl):CtF P n f args H d S Fl FE k rest Fs t Q:=
 ⟨x,H,zvn h ha hl hx hb ⟨rfl,rfl⟩,yfc,hk⟩
end
theorem sq_i {P:Program} {pos:String} {op:Op} {t:List (Nat×V)} {H:List O} {S:List Nat} (h:zwp P pos op (rhoL t) H S):flS P true pos op t H S:=h
theorem sq_ {P:Program} {pos:String} {op:Op} {ρ:Operand->V} {H:List O} {S:List Nat} (h:zwp P pos op ρ H S:=by
 (intro H' hA;(try simp only[zyv,zyu,Wat,WaK,and_true]at hA);first|(simp[go_sem,hA];done)|(simp[go_sem,hA,F];done)|(simp[go_sem,hA];omega))):zwp P pos op ρ H S:=h
end Go.Lz

end
section
namespace Go.Lz
section
variable {P:Program} {n:Cf} {F:List Fr} {Q:Ex->St->Prop}
theorem LoopP.weak {body:Code} {st st':St} (hw:∀ctx a E,SR ctx n st a E->∃E',E'.w=E.w/\SR ctx n st' a E') (h:LoopP P n body F st' Q):LoopP P n body F st Q:=by
 intro hok ctx a E hs b k cs;obtain⟨E',e,hs'⟩:=hw ctx a E hs;rw[<-e];exact h hok ctx a E' hs' b k cs
theorem SR.fz {ctx:Env} {t:List (Nat×V)} {H:List O} {a:Act} {E:Env} (h:SR ctx n ⟨t,H⟩ a E) (k id:Nat) {ver sz hi:Nat} {rows:List (List C)} (hk:look t k=.one (.msl id ver 0 hi)) (ho:H[id]? =some (.cells ver sz rows)) (hh:hi=rows.length):
  ∃E',E'.w=E.w/\SR ctx n ⟨(k,.one (.sl rows))::t,H.set id .dead⟩ a E':=by
 subst hh
 have hH:E.H=H:=h.H
 subst hH;obtain⟨tr,hr⟩:=ye1 h.rel id _ rfl
 refine⟨{E with H:=E.H.set id .dead},rfl,⟨h.len,h.hm,h.defers,fun i=>?_,rfl,hr,h.tr.trans tr⟩⟩
 simp only[zfb];split
 ·rename_i e
  subst e
  have hc:=one_inv (hk▸h.tm k)
  have:=ygi h.rel tr rfl hc (show fzPc E.H (.msl id ver 0 rows.length) by simp[fzPc,ho]) (fun id' ver' lo hi cur sz' rows' e ho' hcap=>by
   obtain⟨rfl,-,-,-⟩:=C.msl.inj e;refine⟨h.rel.lt ho' hcap,h.rel.nofr _ _ ho' hcap,?_⟩;rintro⟨j,o,hj,hl,hb⟩
   have hl':E.live j o:=(zbj (E:=E) (E':={E with H:=E.H.set id .dead}) rfl).1 hl
   simp only[Wa9]at hj;split at hj
   ·split at hj
    ·simp at hj;subst hj;exact hl'.elim
    ·simp at hj
   ·rename_i hne
    exact h.rel.dist id j _ _ ho' hj hcap hl' hne hb.symm)
  simp only[fzC,ho,Wbs,WbG]at this;exact .one this
 ·exact(h.tm i).trans tr
end
end Go.Lz

end
section
namespace Go.Lz
mutual
theorem C.ren_lt0 {f:Nat->Nat}:∀(c:C),c.lt 0=true->c.ren f=c
 |.sl rows,h=>by rw[C.ren,zr0 rows h]
 |.slf rows,h=>by rw[C.ren,zr0 rows h]
 |.iptr row off,h=>by rw[C.ren,zq2 row h]
 |.fn g cap,h=>by rw[C.ren,zq2 cap h]
 |.ifc t cs,h=>by rw[C.ren,zq2 cs h]
 |.ref id ver row off,h=>by simp[C.lt]at h
 |.msl id ver lo hi,h=>by simp[C.lt]at h
 |.mp id,h=>by simp[C.lt]at h
 |.int k n,_=>rfl
 |.bool b,_=>rfl
 |.str s,_=>rfl
 |.nilfn,_=>rfl
 |.nilif,_=>rfl
 |.nilp,_=>rfl
 |.nilm,_=>rfl
theorem zq2 {f:Nat->Nat}:∀(l:List C),zem 0 l=true->zeo f l=l
 |[],_=>rfl
 |c::r,h=>by
  simp only[zem,Wan]at h;rw[zeo,C.ren_lt0 c h.1,zq2 r h.2]
theorem zr0 {f:Nat->Nat}:∀(l:List (List C)),zcn 0 l=true->zbd f l=l
 |[],_=>rfl
 |r::rs,h=>by
  simp only[zcn,Wan]at h;rw[zbd,zq2 r h.1,zr0 rs h.2]
end
mutual
theorem C.refs_lt0 {p:Nat->Bool}:∀(c:C),c.lt 0=true->c.refs p=true
 |.sl rows,h=>by rw[C.refs];exact zp1 rows h
 |.slf rows,h=>by rw[C.refs];exact zp1 rows h
 |.iptr row off,h=>by rw[C.refs];exact zpb row h
 |.fn g cap,h=>by rw[C.refs];exact zpb cap h
 |.ifc t cs,h=>by rw[C.refs];exact zpb cs h
 |.ref id ver row off,h=>by simp[C.lt]at h
 |.msl id ver lo hi,h=>by simp[C.lt]at h
 |.mp id,h=>by simp[C.lt]at h
 |.int k n,_=>rfl
 |.bool b,_=>rfl
 |.str s,_=>rfl
 |.nilfn,_=>rfl
 |.nilif,_=>rfl
 |.nilp,_=>rfl
 |.nilm,_=>rfl
theorem zpb {p:Nat->Bool}:∀(l:List C),zem 0 l=true->zb9 p l=true
 |[],_=>rfl
 |c::r,h=>by
  simp only[zem,Wan]at h;rw[zb9,C.refs_lt0 c h.1,zpb r h.2];rfl
theorem zp1 {p:Nat->Bool}:∀(l:List (List C)),zcn 0 l=true->zay p l=true
 |[],_=>rfl
 |r::rs,h=>by
  simp only[zcn,Wan]at h;rw[zay,zpb r h.1,zp1 rs h.2];rfl
end
section
variable {α:Type} {f:α->List C}
theorem zxb (h:Flat f) {g:Nat->Nat} {xs:List α}:zbd g (xs.map f)=xs.map f:=zr0 _ (zam h 0 xs)
theorem zxc (h:Flat f) {p:Nat->Bool} {xs:List α}:zay p (xs.map f)=true:=zp1 _ (zam h 0 xs)
end
section
variable {P:Program} {n:Cf} {Fs:List Fr} {Q:Ex->St->Prop}
end
end Go.Lz

end
section
namespace Go.Lz
theorem ye4 {α β:Type} {f:α->β} {k:Nat} {l:List α}:(List.take k (List.map f l)).isEmpty=(List.take k l).isEmpty:=by rw[<-List.map_take,List.isEmpty_map]
theorem ye5 {α β:Type} {f:α->β} {k:Nat} {l:List α}:(List.drop k (List.map f l)).isEmpty=(List.drop k l).isEmpty:=by rw[<-List.map_drop,List.isEmpty_map]
theorem z18 (n:Int):-9223372036854775808<=w64 n/\w64 n<=9223372036854775807:=by rw[zn1];omega
theorem yel {a b:Int}:max a b=maxI a b:=by unfold maxI;omega
attribute [go_sem] ye4 ye5 yel
structure Hide (q:Prop):Prop where
 h:q
theorem tr {p q:Prop} (k:q) (e:Hide q->p:=by
 intro k__
 (try simp-implicitDefEqProofs only[go_sem,simprocAttr,F,R])
 repeat (first|(with_reducible intro f__)|(with_reducible refine zlr ?_ ?_;exact ss))
 repeat revert f__
 exact k__.h):p:=e ⟨k⟩
section
variable {P:Program} {n:Cf} {Fs:List Fr} {Q:Ex->St->Prop}
theorem lX {body:Code} {σ ρ:Type} {f:σ->Option (σ⊕ρ)} {s0:σ} {e:ρ} {st:St} (h:loop f s0=some e) (ST:σ->Unit->St) (J:ρ->Unit->St) (id:ρ->Option Nat)
  (aft:Aft P n Fs Q J id e)
  (step:Aft P n Fs Q J id e->∀(m:Nat) (s:σ) (a:Unit) (o:σ⊕ρ),f s=some o->Sum.elim (zpv f m) some o=some e->Bck P n body Fs Q f m e ST->awpS P n [.code body] (ST s a) (z0p P n body Fs Q))
  (g1:n.m<=(ST s0 ()).H.length:=by simp) (g2:zos (ST s0 ()).H.length ((ST s0 ()).t.map Prod.fst) st.t=true:=by simp[go_sem,F]) (g3:(st.H.take (ST s0 ()).H.length).all (O.lt (ST s0 ()).H.length)=true:=by simp[go_sem,F])
  (g4:(⟨zv9 ((ST s0 ()).t.map Prod.fst) st.t,st.H.take (ST s0 ()).H.length⟩:St)=ST s0 ():=by simp[go_sem,z9o,WaL,F]<;>omega):LoopS P n body Fs st Q:=
 z7n _ _ _ g1 g2 g3 g4 (yf9 ST J id () h aft step)
end
end Go.Lz

end
section
namespace Go.Lz
class Ok (P:Program) {α:Type} (x:Option α) (f:outParam FuncId) (args:outParam (List V)) (res:outParam (α->V)):Prop where
 ok:∀r,x=some r->Pu P f args (res r)
def upR (i:Nat) (rows:List (List C)) (H:List O):List O:=match H[i]? with|some (.cells v s _)=>H.set i (.cells v s rows)|_=>H
def upV (i v:Nat) (H:List O):List O:=match H[i]? with|some (.cells _ s rows)=>H.set i (.cells v s rows)|_=>H
def upC (i j:Nat) (c:C) (H:List O):List O:=match H[i]? with|some (.cells v s [row])=>H.set i (.cells v s [row.set j c])|_=>H
def allR:List (Nat×List (List C))->List O->List O
 |[],H=>H
 |p::l,H=>allR l (upR p.1 p.2 H)
def allV:Nat->List Nat->List Nat->List O->List O
 |_,[],_,H=>H
 |q,i::is,a,H=>allV (q+1) is a (upV i (a.getD q 0) H)
def allC:List (Nat×Nat×C)->List O->List O
 |[],H=>H
 |p::l,H=>allC l (upC p.1 p.2.1 p.2.2 H)
def stY (st:St) (ks:List Nat) (m:Nat) (T:List (Nat×V)) (R:List (Nat×List (List C))) (ids a:List Nat) (Cs:List (Nat×Nat×C)):St:=⟨T++zv9 ks st.t,allC Cs (allV 0 ids a (allR R (st.H.take m)))⟩
def verL:List Nat->List O->List Nat
 |[],_=>[]
 |i::is,H=>(match H[i]? with|some (.cells v _ _)=>v|_=>0)::verL is H
attribute [go_sem] upR upV upC allR allV allC stY verL
section
variable {P:Program} {n:Cf} {Fs:List Fr} {Q:Ex->St->Prop} {G:Prop} {p0:Prop}
end
end Go.Lz

end
