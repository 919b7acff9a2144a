/- The parts of a proof: PLat, PLatP, P01, P01b, P01c, P02, V13r, P02P, P02b, P02c, P13, P13b, LzF, LzY, VW, VH, LzZ, VL, VM, P13L, P13c, Lw8, V15u, P15b -/
import Derived.Test.YtcceddpmmgabjaaGreatQt7
import Derived.RangeFuncFrom
import Derived.RangeFuncLeaves
import Derived.OrdersIn
set_option linter.unusedVariables false
set_option linter.unusedSimpArgs false
open Go.Proofs.Tryz
section
namespace Go.Lz
def ztf (n:Nat) (o:Nat->Bool) (ah:Nat->Nat->Bool):Int:=
 ((List.range n).find? fun x=>o x&&(List.range n).all fun y=> !o y||ah x y).elim (-1) fun x=>(x:Int)
noncomputable def zno (l:xtq) (a b:Int):Int:=ztf l.Names.length (fun c=>leqN l a c&&leqN l b c) (fun c d=>leqN l c d)
noncomputable def z1d (l:xtq) (a b:Int):Int:=ztf l.Names.length (fun c=>leqN l c a&&leqN l c b) (fun c d=>leqN l d c)
noncomputable def zm6 (l:xtq):Int:=ztf l.Names.length (fun _=>true) (fun c d=>leqN l c d)
theorem yc9 {n:Nat} {o:Nat->Bool} {ah:Nat->Nat->Bool} (h:∀x,x<n->o x=false):ztf n o ah=-1:=by
 unfold ztf;rw[List.find?_eq_none.2 fun x I=>by simp[h x (by simpa using I)]];rfl
theorem ybp {l:xtq} {a b:Int} (h:¬inN l a\/¬inN l b):leqN l a b=false:=by
 unfold leqN;rw[decide_eq_false_iff_not];rintro⟨h1,h2,_⟩;exact h.elim (fun h=>h h1) (fun h=>h h2)
theorem z0d {l:xtq} (hn:l.Names.length<=1000000) (a b:Int):zcd l a b=some (zno l a b):=by
 have U:∀(c:Nat) (ok:Bool),loop (zdr l a b c) (ok,0)=some (ok&&(List.range l.Names.length).all fun y=> !(leqN l a y&&leqN l b y)||leqN l c y):=fun c ok=>
  zuv l.Names.length _ (fun d I=>by
   simp only[zdr,Waw,I,if_true,zwe hn,Waa]
   cases leqN l a d<;>cases leqN l b d<;>simp) (fun d I=>by simp[zdr,I]) (fun b=>by simp[zdr]) ok
 have aa:∀(c:Nat) (ok:Bool),loop (zdq l a b c) (ok,0)=some (ok&&(List.range l.Names.length).all fun y=> !(leqN l a y&&leqN l b y)||leqN l c y):=fun c ok=>
  zuv l.Names.length _ (fun d I=>by
   simp only[zdq,Waw,I,if_true,zwe hn,Waa]
   cases leqN l a d<;>cases leqN l b d<;>simp) (fun d I=>by simp[zdq,I]) (fun b=>by simp[zdq]) ok
 have key:=zk8 (f:=ze2 l a b) l.Names.length (fun x=>(leqN l a x&&leqN l b x)&&(List.range l.Names.length).all fun y=> !(leqN l a y&&leqN l b y)||leqN l x y) (fun x=>.inl (x:Int)) (.inr ()) (by
  intro x hx;simp only[ze2,Waw,hx,if_true,zwe hn,U,aa,Waa]
  cases leqN l a x<;>cases leqN l b x<;>cases (List.range l.Names.length).all (fun y=> !(leqN l a y&&leqN l b y)||leqN l x y)<;>rfl) (by simp[ze2])
 unfold zcd;rw[key,zno,ztf,Waa];cases (List.range l.Names.length).find? fun(x:Nat)=>(leqN l a x&&leqN l b x)&&(List.range l.Names.length).all fun y=> !(leqN l a y&&leqN l b y)||leqN l x y<;>rfl
theorem yh6 {l:xtq} (hn:l.Names.length<=1000000) (a b:Int):ze8 l a b=some (z1d l a b):=by
 have U:∀(c:Nat) (ok:Bool),loop (zdp l a b c) (ok,0)=some (ok&&(List.range l.Names.length).all fun y=> !(leqN l y a&&leqN l y b)||leqN l y c):=fun c ok=>
  zuv l.Names.length _ (fun d I=>by
   simp only[zdp,Waw,I,if_true,zwe hn,Waa]
   cases leqN l d a<;>cases leqN l d b<;>simp) (fun d I=>by simp[zdp,I]) (fun b=>by simp[zdp]) ok
 have aa:∀(c:Nat) (ok:Bool),loop (zdo l a b c) (ok,0)=some (ok&&(List.range l.Names.length).all fun y=> !(leqN l y a&&leqN l y b)||leqN l y c):=fun c ok=>
  zuv l.Names.length _ (fun d I=>by
   simp only[zdo,Waw,I,if_true,zwe hn,Waa]
   cases leqN l d a<;>cases leqN l d b<;>simp) (fun d I=>by simp[zdo,I]) (fun b=>by simp[zdo]) ok
 have key:=zk8 (f:=ze0 l a b) l.Names.length (fun x=>(leqN l x a&&leqN l x b)&&(List.range l.Names.length).all fun y=> !(leqN l y a&&leqN l y b)||leqN l y x) (fun x=>.inl (x:Int)) (.inr ()) (by
  intro x hx;simp only[ze0,Waw,hx,if_true,zwe hn,U,aa,Waa]
  cases leqN l x a<;>cases leqN l x b<;>cases (List.range l.Names.length).all (fun y=> !(leqN l y a&&leqN l y b)||leqN l y x)<;>rfl) (by simp[ze0])
 unfold ze8;rw[key,z1d,ztf,Waa];cases (List.range l.Names.length).find? fun(x:Nat)=>(leqN l x a&&leqN l x b)&&(List.range l.Names.length).all fun y=> !(leqN l y a&&leqN l y b)||leqN l y x<;>rfl
theorem z34 {l:xtq} (hn:l.Names.length<=1000000):zd2 l=some (zm6 l):=by
 have U:∀(c:Nat) (ok:Bool),loop (zcq l c) (ok,0)=some (ok&&(List.range l.Names.length).all fun y=> !true||leqN l c y):=fun c ok=>
  zuv l.Names.length _ (fun d I=>by
   simp[zcq,I,zwe hn]) (fun d I=>by simp[zcq,I]) (fun b=>by simp[zcq]) ok
 have key:=zk8 (f:=zd1 l) l.Names.length (fun x=>true&&(List.range l.Names.length).all fun y=> !true||leqN l x y) (fun x=>.inl (x:Int)) (.inr ()) (by
  intro x hx;simp only[zd1,Waw,hx,if_true,U,Waa]
  cases (List.range l.Names.length).all (fun y=> !true||leqN l x y)<;>rfl) (by simp[zd1])
 unfold zd2;rw[key,zm6,ztf,Waa];cases (List.range l.Names.length).find? fun(x:Nat)=>true&&(List.range l.Names.length).all fun y=> !true||leqN l x y<;>rfl
end Go.Lz

end
section
namespace Go.Lz
theorem ybv {l:xtq} {of:Int->Option Bool} {ahead:Int->Int->Option Bool} {o:Nat->Bool} {ah:Nat->Nat->Bool} (U:∀c:Nat,c<l.Names.length->of c=some (o c)) (ha:∀c d:Nat,c<l.Names.length->d<l.Names.length->ahead c d=some (ah c d)):
  zmd l of ahead=some (ztf l.Names.length o ah):=by
 have inner:∀x:Nat,x<l.Names.length->loop (zi8 l of ahead x) 0=some (if(List.range l.Names.length).all fun y=> !o y||ah x y then .inr ()else .inl ()):=by
  intro x I
  have key:=zk8 (f:=zi8 l of ahead x) l.Names.length (fun y=>o y&& !ah x y) (fun _=>.inl ()) (.inr ()) (by
   intro y hy;simp only[zi8,Waw,hy,if_true,U y hy,ha x y I hy,Waa]
   cases o y<;>cases ah x y<;>rfl) (by simp[zi8])
  rw[key,yfi (q:=fun y=> !o y||ah x y) (fun y=>by cases o y<;>cases ah x y<;>rfl)]
 have key:=zk8 (f:=zk4 l of ahead) l.Names.length (fun x=>o x&&(List.range l.Names.length).all fun y=> !o y||ah x y) (fun x=>.inl (x:Int)) (.inr ()) (by
  intro x I;simp only[zk4,Waw,I,if_true,U x I,inner x I,Waa]
  cases o x<;>cases (List.range l.Names.length).all (fun y=> !o y||ah x y)<;>rfl) (by simp[zk4])
 unfold zmd;rw[key,ztf,Waa];cases (List.range l.Names.length).find? fun x=>o x&&(List.range l.Names.length).all fun y=> !o y||ah x y<;>rfl
theorem ybu {l:xtq} (hn:l.Names.length<=1000000):zlq l=some (zm6 l):=by
 unfold zlq;rw[ybv (o:=fun _=>true) (ah:=fun c d=>leqN l c d) (fun c hc=>rfl) (fun c d hc I=>by simp only[zls,ygc hn,Waa])];rfl
theorem ybt {l:xtq} (hn:l.Names.length<=1000000) (a b:Int):zme l a b=some (zno l a b):=by
 unfold zme;simp only[yiu,Waa,decide_eq_true_eq]
 by_cases ha:inN l a
 ·by_cases hb:inN l b
  ·obtain⟨x,rfl⟩:∃x:Nat,a=x:=⟨a.toNat,by have:=ha.1;omega⟩
   obtain⟨y,rfl⟩:∃y:Nat,b=y:=⟨b.toNat,by have:=hb.1;omega⟩;obtain⟨I,U,l1,r1⟩:=ydk hn (a:=x) (by have:=ha.2;omega);obtain⟨o2,e2,l2,r2⟩:=ydk hn (a:=y) (by have:=hb.2;omega)
   have get:∀(z:Nat) (out:List Bool),inN l z->out.length=l.Names.length->(∀k:Nat,out[k]? =some true↔Reach l z k)->∀c:Nat,c<l.Names.length->idx out (c:Int)=some (leqN l z c):=by
    intro z out hz hl hr c hc;rw[zqs,Wac (by omega)]
    congr 1
    rw[Wa1];unfold leqN;simp only[decide_eq_true_eq,hz,true_and,Int.toNat_natCast,<-hr c,Wac (show c<out.length by omega)]
    have:inN l c:=⟨by omega,by omega⟩
    simp[this]
   simp only[ha,hb,if_true,U,e2,Waa];rw[ybv (o:=fun c=>leqN l x c&&leqN l y c) (ah:=fun c d=>leqN l c d) (fun c hc=>?_) (fun c d hc hd=>?_)]
   ·rfl
   ·simp only[znw,get x I ha l1 r1 c hc,get y o2 hb l2 r2 c hc,Waa]
    cases leqN l x c<;>rfl
   ·simp only[znv,ygc hn,Waa]
  ·simp only[ha,hb,if_true,if_false]
   rw[zno,yc9 fun x _=>by simp[ybp (l:=l) (a:=b) (b:=x) (.inl hb)]]
 ·simp only[ha,if_false]
  rw[zno,yc9 fun x _=>by simp[ybp (l:=l) (a:=a) (b:=x) (.inl ha)]]
end Go.Lz

end
section
namespace Go.Lz
theorem yda {n:Nat} {o o':Nat->Bool} {ah I:Nat->Nat->Bool} (h1:∀x,x<n->o x=o' x) (h2:∀x y,x<n->y<n->ah x y=I x y):ztf n o ah=ztf n o' I:=by
 unfold ztf
 congr 1
 have:∀(xs:List Nat),(∀x∈xs,x<n)->xs.find? (fun x=>o x&&(List.range n).all fun y=> !o y||ah x y)=xs.find? (fun x=>o' x&&(List.range n).all fun y=> !o' y||I x y):=by
  intro xs
  induction xs with
  |nil=>intro _;rfl
  |cons x xs ih=>
   intro h
   have U:=h x (by simp)
   rw[WbQ,WbQ,ih (fun y hy=>h y (by simp[hy])),h1 x U]
   have:((List.range n).all fun y=> !o y||ah x y)=(List.range n).all fun y=> !o' y||I x y:=by
    rw[Wa1,Wak,Wak];constructor
    ·intro hh y hy;have:=hh y hy;rw[h1 y (by simpa using hy),h2 x y U (by simpa using hy)]at this;exact this
    ·intro hh y hy;have:=hh y hy;rw[<-h1 y (by simpa using hy),<-h2 x y U (by simpa using hy)]at this;exact this
   rw[this]
 exact this _ (fun x U=>by simpa using U)
def z0y (l:xtq) (e:A2 Int):Bool:=decide (inN l e.a0)&&decide (inN l e.a1)
noncomputable def zwt (l:xtq) (a b:Nat):Bool:=(leqN l a b&&leqN l b a)||decide (zno l a b<0)||decide (z1d l a b<0)
noncomputable def zpe (l:xtq) (a:Nat):Bool:=decide (l.Names.getD a []=[])||(List.range a).any fun b=>decide (l.Names.getD b []=l.Names.getD a [])||zwt l a b
noncomputable def z8j (l:xtq):Int:=
 if l.Names.length<1 then 3 else if 8<l.Names.length then 3 else if l.Below.all (z0y l)then(if(List.range l.Names.length).any (zpe l)then 4 else 0)else 4
theorem z3h {ρ:Type} {p:Nat->Bool} {a b:ρ} (xs:List Nat):(xs.find? p).elim a (fun _=>b)=if xs.any p then b else a:=by
 induction xs with
 |nil=>rfl
 |cons x xs I=>
  rw[WbQ,List.any_cons]
  cases p x with
  |true=>rfl
  |false=>simpa using I
theorem ydh {α:Type} {p:α->Bool} {xs:List α} {d:α}:(List.range xs.length).any (fun i=>p (xs.getD i d))=xs.any p:=by
 rw[Wa1,Wbv,Wbv];constructor
 ·rintro⟨i,hi,h⟩
  have hi:i<xs.length:=by simpa using hi
  refine⟨xs[i],Wap hi,?_⟩;simpa [List.getD_eq_getElem?_getD,hi]using h
 ·rintro⟨x,I,h⟩
  obtain⟨i,hi⟩:=WbJ I
  have hl:=(Wag.1 hi).1
  exact⟨i,by simpa using hl,by simp[List.getD_eq_getElem?_getD,hi,h]⟩
theorem yec {l:xtq}:zgn l=some (z8j l):=by
 unfold zgn z8j
 by_cases h1:l.Names.length<1
 ·rw[if_pos (by omega),if_pos h1]
 by_cases h2:8<l.Names.length
 ·rw[if_neg (by omega),if_pos (by omega),if_neg h1,if_pos h2]
 have hn:l.Names.length<=1000000:=by omega
 rw[if_neg (by omega),if_neg (by omega),if_neg h1,if_neg h2]
 have k1:=zk8 (f:=zef l) l.Below.length (fun i=> !z0y l (l.Below.getD i ⟨0,0⟩)) (fun _=>.inl 4) (.inr ()) (by
  intro i hi;simp only[zef,Waw,hi,if_true,Wac hi,Waa,z82,z0y,List.getD_eq_getElem?_getD,WaI,decide_eq_true_eq]
  by_cases c1:inN l l.Below[i].a0<;>by_cases c2:inN l l.Below[i].a1<;>simp[c1,c2]) (by simp[zef])
 have k3:∀a:Nat,a<l.Names.length->loop (zc8 l a (l.Names.getD a [])) 0=some (if(List.range a).any fun b=>decide (l.Names.getD b []=l.Names.getD a [])||zwt l a b then .inl 4 else .inr ()):=by
  intro a ha
  have k:=zk8 (f:=zc8 l a (l.Names.getD a [])) a (fun b=>decide (l.Names.getD b []=l.Names.getD a [])||zwt l a b) (fun _=>.inl 4) (.inr ()) (by
   intro b hb
   have U:b<l.Names.length:=by omega
   have eb:l.Names[b]? =some (l.Names.getD b []):=by simp[List.getD_eq_getElem?_getD,U]
   simp only[zc8,Waw,hb,if_true,eb,Waa,zwe hn,z0d hn,yh6 hn,zwt]
   generalize l.Names.getD a []=na
   generalize l.Names.getD b []=nb
   by_cases I:na=nb
   ·subst I;simp
   ·have aa:¬nb=na:=fun h=>I h.symm
    by_cases c1:zno l a b<0<;>by_cases c2:z1d l a b<0<;>rcases Wcj (leqN l a b)with c3|c3<;>rcases Wcj (leqN l b a)with c4|c4<;>simp[I,aa,c1,c2,c3,c4]) (by simp[zc8])
  rw[k,z3h]
 have k2:=zk8 (f:=zee l) l.Names.length (zpe l) (fun _=>.inl 4) (.inr ()) (by
  intro a ha
  have ea:l.Names[a]? =some (l.Names.getD a []):=by simp[List.getD_eq_getElem?_getD,ha]
  simp only[zee,Waw,ha,if_true,ea,Waa,k3 a ha]
  by_cases I:l.Names.getD a []=[]
  ·have hb:zpe l a=true:=by unfold zpe;rw[decide_eq_true I];rfl
   rw[if_pos I,if_pos hb]
  ·have hb:zpe l a=(List.range a).any fun b=>decide (l.Names.getD b []=l.Names.getD a [])||zwt l a b:=by unfold zpe;rw[decide_eq_false I,Bool.false_or]
   rw[if_neg I,<-hb]
   rcases Wcj (zpe l a)with c1|c1<;>simp[c1]) (by simp[zee])
 rw[k1,k2,z3h,z3h,ydh (p:=fun e=> !z0y l e)];simp only[Waa]
 have e1:l.Below.any (fun e=> !z0y l e)= !l.Below.all (z0y l):=by rw[List.all_eq_not_any_not];simp
 rw[e1];cases l.Below.all (z0y l)<;>cases (List.range l.Names.length).any (zpe l)<;>rfl
end Go.Lz

end
section
namespace Go.Lz
theorem z02 {n:Nat} {o:Nat->Bool} {ah:Nat->Nat->Bool} (h:0<=ztf n o ah):∃c:Nat,ztf n o ah=c/\c<n/\o c=true/\∀y,y<n->o y=true->ah c y=true:=by
 unfold ztf at h|-
 cases hf:(List.range n).find? fun x=>o x&&(List.range n).all fun y=> !o y||ah x y with
 |none=>rw[hf]at h;simp at h
 |some c=>
  have hc:=List.mem_of_find?_eq_some hf
  have I:=List.find?_some hf
  simp only[Wan,Wak,WaC,WaE,Wa4]at I;refine⟨c,rfl,by simpa using hc,I.1,fun y hy U=>?_⟩
  rcases I.2 y hy with h1|h1
  ·rw[h1]at U;cases U
  ·exact h1
theorem z6r {n:Nat} {o:Nat->Bool} {ah:Nat->Nat->Bool} {c:Nat} (hc:c<n) (I:o c=true) (ha:∀y,y<n->o y=true->ah c y=true) (anti:∀x,x<n->ah x c=true->ah c x=true->x=c):ztf n o ah=c:=by
 have h0:0<=ztf n o ah:=by
  unfold ztf
  cases hf:(List.range n).find? fun x=>o x&&(List.range n).all fun y=> !o y||ah x y with
  |none=>
   have:=List.find?_eq_none.1 hf c (by simpa using hc)
   exfalso
   apply this
   simp only[Wan,Wak,WaC,WaE,Wa4];refine⟨I,fun y hy=>?_⟩
   cases U:o y with
   |false=>exact .inl rfl
   |true=>exact .inr (ha y hy U)
  |some x=>simp
 obtain⟨x,e,hx,aa,ab⟩:=z02 h0;rw[e,anti x hx (ab c hc I) (ha x hx aa)]
structure Lat (l:xtq):Prop where
 pos:0<l.Names.length
 few:l.Names.length<=8
 anti:∀a b:Nat,a<l.Names.length->b<l.Names.length->leqN l a b=true->leqN l b a=true->a=b
 join:∀a b:Nat,a<l.Names.length->b<l.Names.length->0<=zno l a b
 meet:∀a b:Nat,a<l.Names.length->b<l.Names.length->0<=z1d l a b
open Classical in
theorem leq_iff {l:xtq} {a b:Int}:leqN l a b=true↔inN l a/\inN l b/\Reach l a.toNat b.toNat:=by
 unfold leqN;rw[decide_eq_true_eq]
theorem zvy {l:xtq} {a:Nat} (ha:a<l.Names.length):leqN l a a=true:=leq_iff.2 ⟨⟨by omega,by omega⟩,⟨by omega,by omega⟩,.refl⟩
theorem zq5 {l:xtq} {a b c:Int} (h1:leqN l a b=true) (h2:leqN l b c=true):leqN l a c=true:=
 leq_iff.2 ⟨(leq_iff.1 h1).1,(leq_iff.1 h2).2.1,(leq_iff.1 h1).2.2.trans (leq_iff.1 h2).2.2⟩
theorem yb3 {l:xtq} {a b:Int}:zno l a b=zno l b a:=yda (fun x _=>Bool.and_comm _ _) (fun x y _ _=>rfl)
theorem ybg {l:xtq} {a b:Int}:z1d l a b=z1d l b a:=yda (fun x _=>Bool.and_comm _ _) (fun x y _ _=>rfl)
theorem ymp {l:xtq} (h:z8j l=0):Lat l:=by
 unfold z8j at h;split at h
 ·omega
 split at h
 ·omega
 split at h
 ·rename_i h1 h2 h3
  split at h
  ·omega
  rename_i h4
  have h5:∀a,a<l.Names.length->zpe l a=false:=fun a ha=>by
   cases hb:zpe l a with
   |false=>rfl
   |true=>exact(h4 (Wbv.2 ⟨a,by simpa using ha,hb⟩)).elim
  have U:∀a b,b<a->a<l.Names.length->zwt l a b=false:=fun a b hb ha=>by
   have:=h5 a ha
   unfold zpe at this;rw[Wbw]at this
   have:=Wb6.1 this.2 b (by simpa using hb)
   simp only[WaE,not_or,Wb7]at this;exact this.2
  have h7:∀a b,b<a->a<l.Names.length->¬(leqN l a b=true/\leqN l b a=true)/\0<=zno l a b/\0<=z1d l a b:=fun a b hb ha=>by
   have:=U a b hb ha
   unfold zwt at this;simp only[Wbw,Bool.and_eq_false_iff,decide_eq_false_iff_not]at this;refine⟨fun⟨x,y⟩=>?_,by omega,by omega⟩
   rcases this.1.1 with z|z
   ·rw[z]at x;cases x
   ·rw[z]at y;cases y
  have anti:∀a b:Nat,a<l.Names.length->b<l.Names.length->leqN l a b=true->leqN l b a=true->a=b:=by
   intro a b ha hb x y
   rcases Wb8 a b with hl|hl|hl
   ·exact((h7 b a hl hb).1 ⟨y,x⟩).elim
   ·exact hl
   ·exact((h7 a b hl ha).1 ⟨x,y⟩).elim
  refine⟨by omega,by omega,anti,fun a b ha hb=>?_,fun a b ha hb=>?_⟩
  ·rcases Wb8 a b with hl|hl|hl
   ·rw[yb3];exact(h7 b a hl hb).2.1
   ·subst hl
    rw[show zno l a a=(a:Int)from z6r ha (by simp[zvy ha]) (fun y _ hy=>by simpa using hy) (fun x I u v=>anti x a I ha u v)];omega
   ·exact(h7 a b hl ha).2.1
  ·rcases Wb8 a b with hl|hl|hl
   ·rw[ybg];exact(h7 b a hl hb).2.2
   ·subst hl
    rw[show z1d l a a=(a:Int)from z6r ha (by simp[zvy ha]) (fun y _ hy=>by simpa using hy) (fun x I u v=>anti x a I ha v u)];omega
   ·exact(h7 a b hl ha).2.2
 ·omega
theorem Lat.join_spec {l:xtq} (h:Lat l) {a b:Nat} (ha:a<l.Names.length) (hb:b<l.Names.length):
  ∃c:Nat,zno l a b=c/\c<l.Names.length/\leqN l a c=true/\leqN l b c=true/\∀d:Nat,d<l.Names.length->leqN l a d=true->leqN l b d=true->leqN l c d=true:=by
 obtain⟨c,e,hc,I,hm⟩:=z02 (h.join a b ha hb);rw[Wan]at I;exact⟨c,e,hc,I.1,I.2,fun d U h1 h2=>hm d U (by rw[h1,h2];rfl)⟩
theorem Lat.meet_spec {l:xtq} (h:Lat l) {a b:Nat} (ha:a<l.Names.length) (hb:b<l.Names.length):
  ∃c:Nat,z1d l a b=c/\c<l.Names.length/\leqN l c a=true/\leqN l c b=true/\∀d:Nat,d<l.Names.length->leqN l d a=true->leqN l d b=true->leqN l d c=true:=by
 obtain⟨c,e,hc,I,hm⟩:=z02 (h.meet a b ha hb);rw[Wan]at I;exact⟨c,e,hc,I.1,I.2,fun d U h1 h2=>hm d U (by rw[h1,h2];rfl)⟩
end Go.Lz

end
section
namespace Go.Lz
section
variable {l:xtq} (h:Lat l) {a b c d:Nat}
include h
theorem Lat.big:l.Names.length<=1000000:=by have:=h.few;omega
theorem Lat.least:∀k,k<=l.Names.length->0<k->∃c:Nat,c<l.Names.length/\∀d:Nat,d<k->leqN l c d=true
 |0,_,hk=>by omega
 |1,h1,_=>⟨0,h1,fun d I=>by
  have:d=0:=by omega
  subst this;exact zvy h1⟩
 |k+2,h1,_=>by
  obtain⟨c,hc,hm⟩:=Lat.least (k+1) (by omega) (by omega);obtain⟨x,_,U,x1,x2,_⟩:=h.meet_spec hc (show k+1<l.Names.length by omega);refine⟨x,U,fun d I=>?_⟩
  by_cases e:d=k+1
  ·subst e;exact x2
  ·exact zq5 x1 (hm d (by omega))
theorem Lat.greatest:∀k,k<=l.Names.length->0<k->∃c:Nat,c<l.Names.length/\∀d:Nat,d<k->leqN l d c=true
 |0,_,hk=>by omega
 |1,h1,_=>⟨0,h1,fun d I=>by
  have:d=0:=by omega
  subst this;exact zvy h1⟩
 |k+2,h1,_=>by
  obtain⟨c,hc,hm⟩:=Lat.greatest (k+1) (by omega) (by omega);obtain⟨x,_,U,x1,x2,_⟩:=h.join_spec hc (show k+1<l.Names.length by omega);refine⟨x,U,fun d I=>?_⟩
  by_cases e:d=k+1
  ·subst e;exact x2
  ·exact zq5 (hm d (by omega)) x1
theorem Lat.bottom_spec:∃c:Nat,zm6 l=c/\c<l.Names.length/\∀d:Nat,d<l.Names.length->leqN l c d=true:=by
 obtain⟨c,hc,hm⟩:=Lat.least h _ (Wae _) h.pos;exact⟨c,z6r hc rfl (fun y hy _=>hm y hy) (fun x I u v=>h.anti x c I hc u v),hc,hm⟩
end
end Go.Lz

end
section
namespace Go.Lz
theorem ybi {α τ ρ:Type} {xs:List α} {S:Nat->τ} {p:α->Bool} {a b:ρ} {f:τ->Option (τ⊕ρ)} (step:∀i (h:i<xs.length),f (S i)=some (if p xs[i]then .inl (S (i+1))else .inr a)) (last:f (S xs.length)=some (.inr b)):
  loop f (S 0)=some (if xs.all p then b else a):=by
 have key:∀k i,xs.length-i=k->i<=xs.length->loop f (S i)=some (if(xs.drop i).all p then b else a):=by
  intro k
  induction k with
  |zero=>
   intro i hk hi
   have:i=xs.length:=by omega
   subst this;rw[zcs last,List.drop_length];rfl
  |succ k ih=>
   intro i hk hi
   have U:i<xs.length:=by omega
   have I:=step i U
   rw[z49 U,Wbi]
   cases hp:p xs[i]with
   |true=>rw[hp]at I;rw[zkn I,ih (i+1) (by omega) (by omega)];rfl
   |false=>rw[hp]at I;rw[zcs I];rfl
 exact key _ 0 rfl (Waf _)
def inR (n:Nat) (i:Int):Bool:=decide (0<=i)&&decide (i<(n:Int))
theorem inR_iff {n:Nat} {i:Int}:inR n i=true↔0<=i/\i<(n:Int):=by simp[inR]
theorem z4t {xs:List Int} {i:Int} (h:inR xs.length i=true):idx xs i=some (xs.getD i.toNat 0):=by
 have:=inR_iff.1 h
 unfold idx;rw[if_pos this.1,Wac (by omega)];simp[List.getD_eq_getElem?_getD,Wac (show i.toNat<xs.length by omega)]
noncomputable def zzb (l:xtq) (labels:List Int) (rules:List (A2 Int)):Bool:=rules.all fun r=>inR labels.length r.a0&&inR labels.length r.a1&&leqN l (labels.getD r.a0.toNat 0) (labels.getD r.a1.toNat 0)
theorem inR_neg {n:Nat} {i:Int}:inR n i=false↔i<0\/(n:Int)<=i:=by
 rw[<-Wb7,inR_iff];omega
theorem yeb {l:xtq} (hn:l.Names.length<=1000000) (labels:List Int) (rules:List (A2 Int)):zgm l labels rules=some (zzb l labels rules):=by
 unfold zgm zzb
 rw[zsb (xs:=rules) (p:=fun r=>inR labels.length r.a0&&inR labels.length r.a1&&leqN l (labels.getD r.a0.toNat 0) (labels.getD r.a1.toNat 0)) (a:=(.inl false:Bool⊕Unit)) (b:=.inr ()) (fun i hi=>by
  simp only[zhb,Waw,hi,if_true,Wac hi,Waa]
  cases h0:inR labels.length rules[i].a0 with
  |false=>
   by_cases c:rules[i].a0<0
   ·simp[c]
   ·have:(labels.length:Int)<=rules[i].a0:=by have:=inR_neg.1 h0;omega
    simp[c,this]
  |true=>
   have I:=inR_iff.1 h0
   rw[if_neg (by omega),if_neg (by omega)]
   cases h1:inR labels.length rules[i].a1 with
   |false=>
    by_cases c:rules[i].a1<0
    ·simp[c]
    ·have:(labels.length:Int)<=rules[i].a1:=by have:=inR_neg.1 h1;omega
     simp[c,this]
   |true=>
    have c1:=inR_iff.1 h1
    rw[if_neg (by omega),if_neg (by omega),z4t h0,z4t h1];simp[zwe hn]
    split<;>rfl) (by simp[zhb])]
 cases rules.all fun r=>inR labels.length r.a0&&inR labels.length r.a1&&leqN l (labels.getD r.a0.toNat 0) (labels.getD r.a1.toNat 0)<;>rfl
end Go.Lz

end
section
namespace Go.Lz
open Go.Proofs
attribute [-go_sem] zl6 g_b gd_b
set_option maxRecDepth 100000
set_option maxHeartbeats 4000000
noncomputable section
def zc1 (l:xtq) (I:List Int):(Int×Nat)->Option ((Int×Nat)⊕(Int⊕Int))
 |(U,aa)=>if(aa:Int)<(I.length:Int)then(if U<0 then(some (.inr (.inl ((-1)))))else((I[aa]?).bind fun ab=>(zbb l ab).bind fun ad=>if ad=true then((zcd l U ab).bind fun ae=>some (.inl (ae,(aa+1))))else(some (.inr (.inl ((-1)))))))else(some (.inr (.inr (U))))
def ziz (l:xtq) (I:List Int):Option Int:=
 (zd2 l).bind fun aa=>(loop (zc1 l I) (aa,0)).bind (fun ab=>match ab with|(.inl ad)=>some ad|(.inr U)=>some U)
def zc5 (ab:(List Int)) (ad:(List Int)):((List Int)×Nat)->Option (((List Int)×Nat)⊕(Int⊕(List Int)))
 |(I,U)=>if(U:Int)<(ad.length:Int)then((ad[U]?).bind fun aa=>if aa<0 then(some (.inr (.inl ((-1)))))else(if(ab.length:Int)<=aa then(some (.inr (.inl ((-1)))))else((idx ab aa).bind fun ae=>need ((I.length+1)*8<=140737488355328) (some (.inl ((I++[ae]),(U+1)))))))else(some (.inr (.inr (I))))
def zb1 (p:xtm) (labels:List Int) (e:xtn):Option Int:=
 (zdg p labels).bind fun ab=>(zdf p e).bind fun ad=>(loop (zc5 ab ad) ([],0)).bind (fun ae=>match ae with|(.inl U)=>some U|(.inr I)=>(ziz p.Lattice I).bind fun aa=>some aa)
end
theorem zvb {l:xtq} {U:List Int} {r:Int} (h:ziz l U=some r):
  Pu prog 51 [.agg (xt5 l),.one (.sl (U.map eI))] (.one (.int .i64 r)):=by
 have F:=trivial;have R:=trivial
 refine pA func51 ?_;simp only[f51];unfold ziz at h;refine bi h fun av h ai=>?_;refine tr ?_;intros;refine cS (zmc ai) ?_;refine bi h fun an h aj=>?_;refine tt ?_
 refine lX aj (fun|(ae,ab),_=>⟨[(1,.one (.sl (U.map eI))),(2,.one (.ref 0 0 0 0)),(5,.one (.int .i64 ae)),(6,.one (.int .i64 (ab:Int)))],[.cells 0 2 [(eQ_ l)]]⟩) (fun|(.inl aw),_=>⟨[],[]⟩|(.inr ad),_=>⟨[(5,.one (.int .i64 ad))],[.cells 0 2 [(eQ_ l)]]⟩) (fun|(.inl _)=>none|(.inr _)=>some 0) ?_ ?_
 intro i5 b5 af
 rcases an with ao|ad
 cases af;obtain rfl:=Wab af;obtain⟨⟩:=b5;dsimp only at h|-;cases h;exact fin;intro aq m5 s5 a5 o5 I aa ar;obtain⟨ae,ab⟩:=s5;obtain⟨⟩:=a5;dsimp only[zc1]at I|-;refine tr ?_;intros;refine fl I F ?_ ?_<;>intro I _ F;refine tr ?_;intros;refine fi I F ?_ ?_<;>intro I _ F;cases I;obtain rfl:=sr aa
 try dsimp only at h
 cases h;exact fin;refine bx I F fun ax I au F=>?_;refine bi I fun ay I ak=>?_;refine tr ?_;intros;refine cD (zbt ak) ?_;refine tr ?_;intros;refine fv I F ?_ ?_<;>intro I _ F;refine bi I fun az I al=>?_;refine tr ?_;intros;refine cD (ze1 al) ?_;cases I;refine tr ?_;intros;refine wn ab F fun F=>?_;exact bk ar aa ();cases I;obtain rfl:=sr aa
 try dsimp only at h
 cases h;exact fin;cases I;refine tt ?_;exact xt aa aq ()
theorem zsl {p:xtm} {labels:List Int} {e:xtn} {r:Int} (h:zb1 p labels e=some r):
  Pu prog 22 [.agg (xtr p),.one (.sl (labels.map eI)),.agg (xto e)] (.one (.int .i64 r)):=by
 have F:=trivial;have R:=trivial
 refine pA func22 ?_;simp only[f22];unfold zb1 at h;refine bi h fun ao h ak=>?_;refine tr ?_;intros;refine cS (zn7 ak) ?_;refine bi h fun aq h al=>?_;refine tr ?_;intros;refine cS (zff al) ?_;refine bi h fun ar h an=>?_;refine tt ?_;refine zw8 9 1 (by simp[go_sem]) ?_
 refine lE (fun(au:(List Int)×Nat) (av:Nat)=>match au,av with|(aa,ae),ab=>⟨[(3,.one (.ref 0 0 0 0)),(7,.one (.sl (ao.map eI))),(8,.one (.sl (aq.map eI))),(9,.one (.msl 2 ab 0 aa.length)),(10,.one (.int .i64 (ae:Int)))],[.cells 0 6 [(eP_ p)],.cells 0 5 [[.int .i64 e.Op,.int .i64 e.N,.int .i64 e.Kind,.str e.Name,.sl (e.Args.map xto)]],.cells ab 1 (aa.map eI)]⟩) (fun(af:Int⊕(List Int)) (aw:Nat)=>match af,aw with|(.inl aB),_=>⟨[],[]⟩|(.inr U),b8=>⟨[(3,.one (.ref 0 0 0 0)),(9,.one (.msl 2 b8 0 U.length))],[.cells 0 6 [(eP_ p)],.cells 0 5 [[.int .i64 e.Op,.int .i64 e.N,.int .i64 e.Kind,.str e.Name,.sl (e.Args.map xto)]],.cells b8 1 (U.map eI)]⟩) (fun(af:Int⊕(List Int))=>match af with|(.inl _)=>none|(.inr _)=>some 0) 0 an ?_ ?_
 intro i8 b8 aj
 rcases ar with ax|U
 cases aj;obtain rfl:=Wab aj;dsimp only at h|-;refine bi h fun aC h ai=>?_;refine tr ?_;intros;refine cS (zvb ai) ?_;cases h;exact fin;intro ay m8 s8 ab o8 I ad az;obtain⟨aa,ae⟩:=s8;dsimp only[zc5]at I|-;refine tr ?_;intros;refine fl I F ?_ ?_<;>intro I _ F;refine bx I F fun aF I aD F=>?_;refine tr ?_;intros;refine fi I F ?_ ?_<;>intro I _ F;cases I;obtain rfl:=sr ad
 try dsimp only at h
 cases h;exact fin;refine tr ?_;intros;refine fi I F ?_ ?_<;>intro I _ F;cases I;obtain rfl:=sr ad
 try dsimp only at h
 cases h;exact fin;refine by_ I F fun aE I aA F=>?_;refine nd I F fun I F=>?_;cases I;refine tr ?_;intros;refine wn ae F fun F=>?_;exact bk az ad (ab+1);cases I;refine tt ?_;exact xt ad ay ab
end Go.Lz

end
section
namespace Go.Lz
theorem yo4 {l:xtq} (hn:l.Names.length<=1000000) (xs:List Int):∃r,zun l xs=some r/\ziz l xs=some r:=by
 have e:zp0 l xs=zc1 l xs:=by
  funext s
  obtain⟨a,i⟩:=s;simp only[zp0,zc1,ybt hn,z0d hn,z82,Waa,decide_eq_true_eq]
  by_cases hi:(i:Int)<(xs.length:Int)
  ·have I:i<xs.length:=by omega
   simp only[hi,if_true,Wac I,Waa]
   by_cases h1:a<0
   ·simp[h1]
   ·by_cases h2:xs[i]<0
    ·have:¬inN l xs[i]:=fun h=>by have:=h.1;omega
     simp[h1,h2,this]
    ·by_cases h3:(l.Names.length:Int)<=xs[i]
     ·have:¬inN l xs[i]:=fun h=>by have:=h.2;omega
      simp[h1,h2,h3,this]
     ·have:inN l xs[i]:=⟨by omega,by omega⟩
      simp[h1,h2,h3,this]
  ·simp[hi]
 have ht:∀b:Int,∃r,loop (zc1 l xs) (b,0)=some r:=fun b=>by
  obtain⟨r,e,_⟩:=zmp (f:=zc1 l xs) (fun s=>s.2<=xs.length) (fun _=>True) (fun s=>xs.length-s.2) (by
   rintro⟨a,i⟩ h1;dsimp only at h1;simp only[zc1,z0d hn,z82,Waa,decide_eq_true_eq]
   by_cases hi:i<xs.length
   ·simp only[show(i:Int)<(xs.length:Int) by omega,if_true,Wac hi,Waa]
    by_cases h1:a<0
    ·right;exact⟨_,by rw[if_pos h1],trivial⟩
    ·rw[if_neg h1]
     by_cases h2:inN l xs[i]
     ·left;exact⟨_,by rw[if_pos h2],by dsimp only;omega,by dsimp only;omega⟩
     ·right;exact⟨_,by rw[if_neg h2],trivial⟩
   ·right;exact⟨_,by rw[if_neg (by omega)],trivial⟩) (b,0) (Waf _)
  exact⟨r,e⟩
 unfold zun ziz;rw[ybu hn,z34 hn,e];obtain⟨r,hr⟩:=ht (zm6 l);simp only[Waa,hr]
 cases r with
 |inl a=>exact⟨a,rfl,rfl⟩
 |inr a=>exact⟨a,rfl,rfl⟩
end Go.Lz

end
section
namespace Go.Lz
theorem z5b {p q:Nat->Bool} {z:Nat}:∀{xs:List Nat},(∀y∈xs,q y=true->p y=true)->z∈xs->p z=true->q z=false->xs.countP q<xs.countP p
 |[],_,h,_,_=>by cases h
 |x::xs,h,hz,I,hq=>by
  have hle:xs.countP q<=xs.countP p:=List.countP_mono_left fun y hy=>h y (by simp[hy])
  rw[List.countP_cons,List.countP_cons]
  by_cases e:z=x
  ·subst e;simp[I,hq];omega
  ·have:=z5b (xs:=xs) (fun y hy=>h y (by simp[hy])) (by rcases WaB.1 hz with h1|h1;exact(e h1).elim;exact h1) I hq
   have hx:=h x (by simp)
   cases U:q x with
   |false=>simp;omega
   |true=>rw[hx U];simp;omega
theorem yab {f:Int->Nat}:∀{xs:List Int} {k:Nat} {v:Int},k<xs.length->((xs.set k v).map f).sum+f (xs.getD k 0)=(xs.map f).sum+f v
 |[],k,v,h=>by simp at h
 |x::xs,0,v,_=>by simp;omega
 |x::xs,k+1,v,h=>by
  have:=yab (f:=f) (xs:=xs) (k:=k) (v:=v) (by simpa using h)
  simp at this|-;omega
noncomputable def ht (l:xtq) (x:Int):Nat:=(List.range l.Names.length).countP fun(y:Nat)=>leqN l x y
noncomputable def mu (l:xtq) (out:List Int):Nat:=(out.map (ht l)).sum
section
variable {l:xtq} (h:Lat l)
include h
theorem Lat.jn {a b:Int} (ha:inN l a) (hb:inN l b):inN l (zno l a b)/\leqN l a (zno l a b)=true/\leqN l b (zno l a b)=true/\∀d:Int,leqN l a d=true->leqN l b d=true->leqN l (zno l a b) d=true:=by
 obtain⟨x,rfl⟩:∃x:Nat,a=x:=⟨a.toNat,by have:=ha.1;omega⟩;obtain⟨y,rfl⟩:∃y:Nat,b=y:=⟨b.toNat,by have:=hb.1;omega⟩;obtain⟨c,e,hc,c1,c2,c3⟩:=h.join_spec (show x<l.Names.length by have:=ha.2;omega) (show y<l.Names.length by have:=hb.2;omega);rw[e];refine⟨⟨by omega,by omega⟩,c1,c2,fun d d1 d2=>?_⟩
 have I:=(leq_iff.1 d1).2.1
 obtain⟨z,rfl⟩:∃z:Nat,d=z:=⟨d.toNat,by have:=I.1;omega⟩;exact c3 z (by have:=I.2;omega) d1 d2
theorem Lat.ht_lt {a b:Int} (ha:inN l a) (hb:inN l b) (I:leqN l a b=false):ht l (zno l a b)<ht l b:=by
 obtain⟨j1,j2,j3,j4⟩:=h.jn ha hb;obtain⟨y,hy⟩:∃y:Nat,b=y:=⟨b.toNat,by have:=hb.1;omega⟩
 have U:y<l.Names.length:=by have:=hb.2;omega
 refine z5b (z:=y) (fun w hw hq=>zq5 j3 hq) (by simpa using U) (by rw[hy];exact zvy U) ?_
 cases hj:leqN l (zno l a b) y with
 |false=>rfl
 |true=>rw[<-hy]at hj;rw[zq5 j2 hj]at I;cases I
end
structure GoodL (l:xtq) (n:Nat) (out:List Int):Prop where
 len:out.length=n
 all:∀x∈out,inN l x
theorem GoodL.at {l:xtq} {n:Nat} {out:List Int} (g:GoodL l n out) {i:Int} (hi:inR n i=true):inN l (out.getD i.toNat 0):=by
 have:=inR_iff.1 hi
 have hl:i.toNat<out.length:=by rw[g.len];omega
 rw[List.getD_eq_getElem?_getD,Wac hl];exact g.all _ (Wap hl)
theorem GoodL.set {l:xtq} {n:Nat} {out:List Int} (g:GoodL l n out) {k:Nat} {v:Int} (hv:inN l v):GoodL l n (out.set k v):=
 ⟨by rw[Wa7,g.len],fun x I=>by
   rcases WbZ I with h1|h1
   ·exact g.all x h1
   ·rw[h1];exact hv⟩
noncomputable def z8u (l:xtq) (fixed out:List Int) (again:Bool) (r:A2 Int):List Int×Bool:=
 if fixed.getD r.a1.toNat 0=-1 then(if leqN l (out.getD r.a0.toNat 0) (out.getD r.a1.toNat 0)=true then(out,again)else(out.set r.a1.toNat (zno l (out.getD r.a0.toNat 0) (out.getD r.a1.toNat 0)),true))else(out,again)
section
variable {l:xtq} (h:Lat l) {fixed:List Int} {rules:List (A2 Int)} (hr:∀r∈rules,inR fixed.length r.a0=true/\inR fixed.length r.a1=true)
include h hr
theorem yqd {out:List Int} (g:GoodL l fixed.length out) (again:Bool) {i:Nat} (hi:i<rules.length):
  zcc l fixed rules (out,again,i)=some (.inl ((z8u l fixed out again rules[i]).1,(z8u l fixed out again rules[i]).2,i+1)):=by
 obtain⟨h0,h1⟩:=hr rules[i] (Wap hi)
 have U:=g.at h0
 have g1:=g.at h1
 rw[<-g.len]at h0 h1
 have I:inR fixed.length rules[i].a1=true:=by rw[<-g.len];exact h1
 simp only[zcc,Waw,hi,if_true,Wac hi,Waa,z4t h0,z4t h1,z4t I,zwe h.big,z0d h.big,z8u]
 by_cases c1:fixed.getD rules[i].a1.toNat 0=-1
 ·rw[if_pos c1,if_pos c1]
  by_cases c2:leqN l (out.getD rules[i].a0.toNat 0) (out.getD rules[i].a1.toNat 0)=true
  ·rw[if_pos c2,if_pos c2]
  ·rw[if_neg c2,if_neg c2]
   obtain⟨j1,_⟩:=h.jn U g1;rw[if_neg (by have:=j1.1;omega)]
 ·rw[if_neg c1,if_neg c1]
  split<;>rfl
theorem yd0 {out:List Int} (g:GoodL l fixed.length out) (again:Bool) {r:A2 Int} (hm:r∈rules):GoodL l fixed.length (z8u l fixed out again r).1:=by
 obtain⟨h0,h1⟩:=hr r hm;unfold z8u;split
 ·split
  ·exact g
  ·exact g.set (h.jn (g.at h0) (g.at h1)).1
 ·exact g
theorem yl3 {K:List Int->Prop} (hK:∀out r,GoodL l fixed.length out->K out->r∈rules->fixed.getD r.a1.toNat 0=-1->leqN l (out.getD r.a0.toNat 0) (out.getD r.a1.toNat 0)=false->K (out.set r.a1.toNat (zno l (out.getD r.a0.toNat 0) (out.getD r.a1.toNat 0))))
  {out0:List Int} (g0:GoodL l fixed.length out0) (k0:K out0):
  ∃res:List Int×Bool,loop (zcc l fixed rules) (out0,false,0)=some (.inr res)/\GoodL l fixed.length res.1/\K res.1/\(res.2=true->mu l res.1<mu l out0)/\
   (res.2=false->res.1=out0/\∀r∈rules,fixed.getD r.a1.toNat 0=-1->leqN l (out0.getD r.a0.toNat 0) (out0.getD r.a1.toNat 0)=true):=by
 obtain⟨r,e,q⟩:=zmp (f:=zcc l fixed rules)
  (fun s=>s.2.2<=rules.length/\GoodL l fixed.length s.1/\K s.1/\(s.2.1=true->mu l s.1<mu l out0)/\(s.2.1=false->s.1=out0/\∀j (I:j<rules.length),j<s.2.2->fixed.getD rules[j].a1.toNat 0=-1->leqN l (out0.getD rules[j].a0.toNat 0) (out0.getD rules[j].a1.toNat 0)=true))
  (fun r=>∃res:List Int×Bool,r=.inr res/\GoodL l fixed.length res.1/\K res.1/\(res.2=true->mu l res.1<mu l out0)/\(res.2=false->res.1=out0/\∀r∈rules,fixed.getD r.a1.toNat 0=-1->leqN l (out0.getD r.a0.toNat 0) (out0.getD r.a1.toNat 0)=true))
  (fun s=>rules.length-s.2.2) (by
    rintro⟨out,again,i⟩ ⟨i0,i1,i2,i3,i4⟩;dsimp only at i0 i1 i2 i3 i4|-
    by_cases hi:i<rules.length
    ·left
     refine⟨_,yqd h hr i1 again hi,⟨by dsimp only;omega,yd0 h hr i1 again (Wap hi),?_⟩,by dsimp only;omega⟩;dsimp only;obtain⟨h0,h1⟩:=hr rules[i] (Wap hi)
     have skip:(fixed.getD rules[i].a1.toNat 0=-1->leqN l (out.getD rules[i].a0.toNat 0) (out.getD rules[i].a1.toNat 0)=true)->K out/\(again=true->mu l out<mu l out0)/\(again=false->out=out0/\∀j (I:j<rules.length),j<i+1->fixed.getD rules[j].a1.toNat 0=-1->leqN l (out0.getD rules[j].a0.toNat 0) (out0.getD rules[j].a1.toNat 0)=true):=fun hs=>
      ⟨i2,i3,fun ha=>⟨(i4 ha).1,fun j I aa hf=>by
        by_cases e:j=i
        ·subst e;rw[<-(i4 ha).1];exact hs hf
        ·exact(i4 ha).2 j I (by omega) hf⟩⟩
     unfold z8u
     by_cases c1:fixed.getD rules[i].a1.toNat 0=-1
     ·rw[if_pos c1]
      by_cases c2:leqN l (out.getD rules[i].a0.toNat 0) (out.getD rules[i].a1.toNat 0)=true
      ·rw[if_pos c2];exact skip fun _=>c2
      ·rw[if_neg c2]
       have U:leqN l (out.getD rules[i].a0.toNat 0) (out.getD rules[i].a1.toNat 0)=false:=by simpa using c2
       refine⟨hK out _ i1 i2 (Wap hi) c1 U,fun _=>?_,fun hf=>by cases hf⟩
       have ab:=h.ht_lt (i1.at h0) (i1.at h1) U
       have hl:rules[i].a1.toNat<out.length:=by rw[i1.len];have:=inR_iff.1 h1;omega
       have hs:=yab (f:=ht l) (v:=zno l (out.getD rules[i].a0.toNat 0) (out.getD rules[i].a1.toNat 0)) hl
       have hle:mu l out<=mu l out0:=by
        cases again with
        |true=>have:=i3 rfl;omega
        |false=>rw[(i4 rfl).1];exact Wae _
       unfold mu at hle|-;dsimp only;omega
     ·rw[if_neg c1];exact skip fun hf=>(c1 hf).elim
    ·right
     have e:i=rules.length:=by omega
     subst e;refine⟨_,by simp only[zcc,Int.lt_irrefl,if_false],(out,again),rfl,i1,i2,i3,fun ha=>⟨(i4 ha).1,fun r hm hf=>?_⟩⟩;obtain⟨j,I,rfl⟩:=Wbj hm
     exact(i4 ha).2 j I I hf) (out0,false,0) ⟨Waf _,g0,k0,(fun h=>by cases h),fun _=>⟨rfl,fun j _ I=>(Nat.not_lt_zero _ I).elim⟩⟩
 obtain⟨res,rfl,q⟩:=q;exact⟨res,e,q⟩
theorem yeg {K:List Int->Prop} (hK:∀out r,GoodL l fixed.length out->K out->r∈rules->fixed.getD r.a1.toNat 0=-1->leqN l (out.getD r.a0.toNat 0) (out.getD r.a1.toNat 0)=false->K (out.set r.a1.toNat (zno l (out.getD r.a0.toNat 0) (out.getD r.a1.toNat 0))))
  {out0:List Int} (g0:GoodL l fixed.length out0) (k0:K out0):
  ∃res:List Int,loop (zc7 l fixed rules) (out0,true)=some (.inr res)/\GoodL l fixed.length res/\K res/\∀r∈rules,fixed.getD r.a1.toNat 0=-1->leqN l (res.getD r.a0.toNat 0) (res.getD r.a1.toNat 0)=true:=by
 obtain⟨r,e,q⟩:=zmp (f:=zc7 l fixed rules)
  (fun s=>GoodL l fixed.length s.1/\K s.1/\(s.2=false->∀r∈rules,fixed.getD r.a1.toNat 0=-1->leqN l (s.1.getD r.a0.toNat 0) (s.1.getD r.a1.toNat 0)=true))
  (fun r=>∃res:List Int,r=.inr res/\GoodL l fixed.length res/\K res/\∀r∈rules,fixed.getD r.a1.toNat 0=-1->leqN l (res.getD r.a0.toNat 0) (res.getD r.a1.toNat 0)=true)
  (fun s=>2*mu l s.1+(if s.2 then 1 else 0)) (by
    rintro⟨out,again⟩ ⟨i1,i2,i3⟩;dsimp only at i1 i2 i3|-
    cases again with
    |false=>right;exact⟨_,by simp only[zc7,WaD,if_false],out,rfl,i1,i2,i3 rfl⟩
    |true=>
     left
     obtain⟨res,e1,q1,q2,q3,U⟩:=yl3 h hr hK i1 i2;refine⟨(res.1,res.2),by simp only[zc7,if_true,e1,Waa],⟨q1,q2,fun hf=>?_⟩,?_⟩
     ·rw[(U hf).1];exact(U hf).2
     ·dsimp only
      cases I:res.2 with
      |true=>have:=q3 I;simp only[if_true];omega
      |false=>rw[(U I).1];simp) (out0,true) ⟨g0,k0,fun h=>by cases h⟩
 obtain⟨res,rfl,q⟩:=q;exact⟨res,e,q⟩
end
end Go.Lz

end
section
namespace Go.Lz
def labF (b x:Int):Int:=if x=-1 then b else x
def z43 (l:xtq) (x:Int):Bool:=decide (x=-1)||decide (inN l x)
theorem z96 {α β:Type} {xs:List α} {f:α->β} {i:Nat} (h:i<xs.length):(xs.take (i+1)).map f=(xs.take i).map f++[f xs[i]]:=by
 rw[List.take_succ_eq_append_getElem h,WbX];rfl
section
variable {l:xtq} (h:Lat l) (fixed:List Int)
include h in
theorem yq1 (hf:fixed.length<=1000):loop (zed l fixed (zm6 l)) ([],0)=some (if fixed.all (z43 l)then .inr (fixed.map (labF (zm6 l)))else .inl ([],false)):=by
 obtain⟨c,hb,hc,_⟩:=h.bottom_spec
 have I:inN l (zm6 l):=by rw[hb];exact⟨by omega,by omega⟩
 exact ybi (xs:=fixed) (S:=fun i=>((fixed.take i).map (labF (zm6 l)),i)) (p:=z43 l) (by
  intro i hi
  have hn:(((fixed.take i).map (labF (zm6 l))).length+1)*8<=140737488355328:=by simp;omega
  simp only[zed,Waw,hi,if_true,Wac hi,Waa,z82,decide_eq_true_eq,zc9 hn,z96 hi,I,z43]
  by_cases c1:fixed[i]=-1
  ·simp[c1,labF]
  ·by_cases c2:inN l fixed[i]<;>simp[c1,c2,labF]) (by simp[zed])
end
def z0b (n:Nat) (r:A2 Int):Bool:=inR n r.a0&&inR n r.a1
theorem yq0 (rules:List (A2 Int)) (out:List Int):loop (zec rules out) 0=some (if rules.all (z0b out.length)then .inr ()else .inl ([],false)):=
 zsb (xs:=rules) (p:=z0b out.length) (a:=(.inl ([],false):(List Int×Bool)⊕Unit)) (b:=.inr ()) (fun i hi=>by
  simp only[zec,Waw,hi,if_true,Wac hi,Waa];rw[show z0b out.length rules[i]=(inR out.length rules[i].a0&&inR out.length rules[i].a1)from rfl]
  cases h0:inR out.length rules[i].a0 with
  |false=>
   by_cases c:rules[i].a0<0
   ·simp[c]
   ·have:(out.length:Int)<=rules[i].a0:=by have:=inR_neg.1 h0;omega
    simp[c,this]
  |true=>
   have I:=inR_iff.1 h0
   rw[if_neg (by omega),if_neg (by omega)]
   cases h1:inR out.length rules[i].a1 with
   |false=>
    by_cases c:rules[i].a1<0
    ·simp[c]
    ·have:(out.length:Int)<=rules[i].a1:=by have:=inR_neg.1 h1;omega
     simp[c,this]
   |true=>
    have c1:=inR_iff.1 h1
    rw[if_neg (by omega),if_neg (by omega)]
    simp) (by simp[zec])
structure ykr (l:xtq) (fixed labels:List Int) (rules:List (A2 Int)):Prop where
 len:labels.length=fixed.length
 all:∀x∈labels,inN l x
 holds:zzb l labels rules=true
 fix:∀i,i<fixed.length->fixed.getD i 0=-1\/fixed.getD i 0=labels.getD i 0
structure ytl (l:xtq) (fixed:List Int) (rules:List (A2 Int)) (r:List Int×Bool):Prop where
 no:r.2=false->r.1=[]
 len:r.2=true->r.1.length=fixed.length
 holds:r.2=true->zzb l r.1 rules=true
 fix:r.2=true->∀i,i<fixed.length->fixed.getD i 0≠-1->r.1.getD i 0=fixed.getD i 0
 all:r.2=true->∀x∈r.1,inN l x
 best:∀labels,ykr l fixed labels rules->r.2=true/\∀i,i<fixed.length->leqN l (r.1.getD i 0) (labels.getD i 0)=true
theorem holds_at {l:xtq} {labels:List Int} {rules:List (A2 Int)}:zzb l labels rules=true↔∀r∈rules,inR labels.length r.a0=true/\inR labels.length r.a1=true/\leqN l (labels.getD r.a0.toNat 0) (labels.getD r.a1.toNat 0)=true:=by
 unfold zzb;rw[Wak];simp only[Wan,and_assoc]
theorem z8a {xs:List Int} {i:Nat} (h:i<xs.length):xs.getD i 0∈xs:=by
 rw[List.getD_eq_getElem?_getD,Wac h];exact Wap h
theorem ybq {l:xtq} (h:Lat l) {fixed:List Int} (hf:fixed.length<=1000) (rules:List (A2 Int)):∃r,zgl l fixed rules=some r/\ytl l fixed rules r:=by
 obtain⟨c,hb,hc,an⟩:=h.bottom_spec
 have aj:inN l (zm6 l):=by rw[hb];exact⟨by omega,by omega⟩
 unfold zgl;rw[z34 h.big];simp only[Waa];rw[if_neg (by have:=aj.1;omega),yq1 h _ hf];simp only[Waa]
 have aa:∀labels,ykr l fixed labels rules->fixed.all (z43 l)=true:=fun labels k=>Wak.2 fun x hx=>by
  obtain⟨i,hi,rfl⟩:=Wbj hx
  have e:fixed.getD i 0=fixed[i]:=by simp[List.getD_eq_getElem?_getD,hi]
  rcases k.fix i hi with h1|h1
  ·rw[e]at h1;simp[z43,h1]
  ·rw[e]at h1
   have:=k.all _ (z8a (xs:=labels) (i:=i) (by rw[k.len];exact hi))
   rw[<-h1]at this;simp[z43,this]
 cases ae:fixed.all (z43 l)with
 |false=>
  refine⟨([],false),by simp,⟨fun _=>rfl,(fun h=>by cases h),(fun h=>by cases h),(fun h=>by cases h),(fun h=>by cases h),fun labels k=>?_⟩⟩;rw[aa labels k]at ae;cases ae
 |true=>
  simp only[if_true];rw[yq0];simp only[Waa,Waq]
  cases af:rules.all (z0b fixed.length)with
  |false=>
   refine⟨([],false),by simp,⟨fun _=>rfl,(fun h=>by cases h),(fun h=>by cases h),(fun h=>by cases h),(fun h=>by cases h),fun labels k=>?_⟩⟩
   have:rules.all (z0b fixed.length)=true:=Wak.2 fun r hr=>by
    have:=holds_at.1 k.holds r hr
    rw[k.len]at this;simp[z0b,this.1,this.2.1]
   rw[this]at af;cases af
  |true=>
   simp only[if_true]
   have hr:∀r∈rules,inR fixed.length r.a0=true/\inR fixed.length r.a1=true:=fun r hm=>by
    have:=Wak.1 af r hm
    simpa [z0b]using this
   have ab:∀i,i<fixed.length->(fixed.map (labF (zm6 l))).getD i 0=labF (zm6 l) (fixed.getD i 0):=fun i hi=>by
    simp[List.getD_eq_getElem?_getD,hi]
   have g0:GoodL l fixed.length (fixed.map (labF (zm6 l))):=⟨by simp,fun x hx=>by
    obtain⟨y,hy,rfl⟩:=Wau.1 hx
    have:=Wak.1 ae y hy
    unfold labF;split
    ·exact aj
    ·rename_i I;simpa [z43,I]using this⟩
   obtain⟨res,e2,q1,⟨q2,q3⟩,q4⟩:=yeg h hr (K:=fun out=>(∀i,i<fixed.length->fixed.getD i 0≠-1->out.getD i 0=fixed.getD i 0)/\∀labels,ykr l fixed labels rules->∀i,i<fixed.length->leqN l (out.getD i 0) (labels.getD i 0)=true) (by
    intro out r g ⟨k1,k2⟩ hm U hle;obtain⟨h0,h1⟩:=hr r hm
    have hl:r.a1.toNat<out.length:=by rw[g.len];have:=inR_iff.1 h1;omega
    have ai:r.a0.toNat<fixed.length:=by have:=inR_iff.1 h0;omega
    have ad:r.a1.toNat<fixed.length:=by have:=inR_iff.1 h1;omega
    have hs:∀i v,(out.set r.a1.toNat v).getD i 0=if i=r.a1.toNat then v else out.getD i 0:=fun i v=>by
     by_cases e:i=r.a1.toNat
     ·subst e;simp[List.getD_eq_getElem?_getD,hl]
     ·simp[List.getD_eq_getElem?_getD,WaT (fun h=>e h.symm),e]
    refine⟨fun i hi I=>?_,fun labels k i hi=>?_⟩
    ·rw[hs,if_neg (fun e=>by subst e;exact I U)];exact k1 i hi I
    ·rw[hs]
     split
     ·rename_i e
      subst e;exact(h.jn (g.at h0) (g.at h1)).2.2.2 _ (zq5 (k2 labels k _ ai) (holds_at.1 k.holds r hm).2.2) (k2 labels k _ ad)
     ·exact k2 labels k i hi) g0 ⟨fun i hi I=>by rw[ab i hi,labF,if_neg I],fun labels k i hi=>by
    have ak:=k.all _ (z8a (xs:=labels) (i:=i) (by rw[k.len];exact hi))
    obtain⟨y,hy⟩:∃y:Nat,labels.getD i 0=y:=⟨(labels.getD i 0).toNat,by have:=ak.1;omega⟩
    have al:y<l.Names.length:=by have:=ak.2;omega
    rw[ab i hi,labF,hy];split
    ·rw[hb];exact an y al
    ·rename_i I
     rcases k.fix i hi with h1|h1
     ·exact(I h1).elim
     ·rw[h1,hy];exact zvy al⟩
   rw[e2];simp only[Waa,yeb h.big]
   cases hh:zzb l res rules with
   |true=>
    exact⟨(res,true),by simp,⟨(fun h=>by cases h),fun _=>q1.len,fun _=>hh,fun _=>q2,fun _=>q1.all,fun labels k=>⟨rfl,q3 labels k⟩⟩⟩
   |false=>
    refine⟨([],false),by simp,⟨fun _=>rfl,(fun h=>by cases h),(fun h=>by cases h),(fun h=>by cases h),(fun h=>by cases h),fun labels k=>?_⟩⟩
    have:zzb l res rules=true:=holds_at.2 fun r hm=>by
     obtain⟨h0,h1⟩:=hr r hm;rw[q1.len];refine⟨h0,h1,?_⟩
     have ai:r.a0.toNat<fixed.length:=by have:=inR_iff.1 h0;omega
     have ad:r.a1.toNat<fixed.length:=by have:=inR_iff.1 h1;omega
     by_cases U:fixed.getD r.a1.toNat 0=-1
     ·exact q4 r hm U
     ·rcases k.fix _ ad with h2|h2
      ·exact(U h2).elim
      ·rw[q2 _ ad U,h2]
       exact zq5 (q3 labels k _ ai) (holds_at.1 k.holds r hm).2.2
    rw[this]at hh;cases hh
end Go.Lz

end
section
namespace Go.Lz
def rg (x:Int):Prop:=-2<=x/\x<=100
def lx (x y:A2 Int):Prop:=x.a0<y.a0\/(x.a0=y.a0/\x.a1<y.a1)
structure SL (l:List (A2 Int)):Prop where
 srt:l.Pairwise lx
 rng:∀x∈l,rg x.a0/\rg x.a1
theorem yb8:∀(l:List Int) (a b:Int),l.Pairwise (·<·)->(∀x∈l,a<=x/\x<b)->a<=b->(l.length:Int)<=b-a
 |[],a,b,_,_,h=>by simp;omega
 |x::xs,a,b,I,hr,h=>by
  have U:=hr x (by simp)
  rw[List.pairwise_cons]at I
  have:=yb8 xs (x+1) b I.2 (fun y hy=>⟨by have:=I.1 y hy;omega,(hr y (by simp[hy])).2⟩) (by omega)
  simp only[Waj];omega
theorem SL.len {l:List (A2 Int)} (h:SL l):l.length<=16384:=by
 have:=yb8 (l.map fun x=>(x.a0+2)*128+(x.a1+2)) 0 16384 (by
  rw[List.pairwise_map];refine List.Pairwise.imp_of_mem (fun I hy U=>?_) h.srt
  have h1:=h.rng _ I
  have h2:=h.rng _ hy
  simp only[rg]at h1 h2
  rcases U with h|h<;>omega) (fun x I=>by
  obtain⟨y,hy,rfl⟩:=Wau.1 I
  have h1:=h.rng _ hy
  simp only[rg]at h1
  omega) (by omega)
 rw[Waq]at this;omega
theorem SL.nil:SL []:=⟨.nil,fun _ h=>by cases h⟩
theorem SL.ins {l:List (A2 Int)} (h:SL l) {x:A2 Int} {k:Nat} (hx:rg x.a0/\rg x.a1) (hk:k<=l.length) (hl:∀j (I:j<l.length),j<k->lx l[j] x) (hg:∀(I:k<l.length),lx x l[k]):SL (l.take k++[x]++l.drop k):=by
 have ht:∀y∈l.take k,lx y x:=fun y hy=>by
  obtain⟨j,I,rfl⟩:=Wbj hy;rw[WaA]at I;rw[List.getElem_take];exact hl j (by omega) (by omega)
 have hd:∀y∈l.drop k,lx x y:=fun y hy=>by
  obtain⟨j,I,rfl⟩:=Wbj hy;rw[WaM]at I;rw[List.getElem_drop]
  have h0:=hg (by omega)
  cases j with
  |zero=>exact h0
  |succ j=>
   have:=List.pairwise_iff_getElem.1 h.srt k (k+(j+1)) (by omega) (by omega) (by omega)
   simp only[lx]at h0 this|-;omega
 have U:=h.srt
 rw[<-WbU k l,List.pairwise_append]at U;refine⟨?_,fun y hy=>?_⟩
 ·rw[List.pairwise_append,List.pairwise_append]
  refine⟨⟨U.1,List.pairwise_singleton _ _,fun a ha b hb=>by rw[WaX.1 hb];exact ht a ha⟩,U.2.1,fun a ha b hb=>?_⟩
  rcases WaN.1 ha with ha|ha
  ·exact U.2.2 a ha b hb
  ·rw[WaX.1 ha];exact hd b hb
 ·rcases WaN.1 hy with hy|hy
  ·rcases WaN.1 hy with hy|hy
   ·exact h.rng y (Wa2 hy)
   ·rw[WaX.1 hy];exact hx
  ·exact h.rng y (Wa5 hy)
theorem yid {l:List (A2 Int)} (h:SL l) {x:A2 Int} (hx:rg x.a0/\rg x.a1):Tot (zit l x) SL:=by
 have hn:=h.len
 unfold zit;refine Tot.ite (fun _=>Tot.mk h) fun _=>?_;refine Tot.bind (Tot.loop (fun k=>k<=l.length/\∀j (I:j<l.length),j<k->lx l[j] x) (R:=fun k=>k<=l.length/\(∀j (I:j<l.length),j<k->lx l[j] x)/\∀I:k<l.length,¬lx l[k] x) (fun k=>l.length-k) ⟨Waf _,fun j _ I=>by omega⟩ fun k ⟨hk,hl⟩=>?_) fun k ⟨hk,hl,hg⟩=>?_
 ·unfold zkw
  refine Tot.ite (fun h'=>?_) fun h'=>Tot.mk ⟨hk,hl,fun I=>by omega⟩
  have U:k<l.length:=by omega
  refine(Tot.get U).bind fun y ⟨_,hy⟩=>?_;subst hy
  have more:lx l[k] x->Rd (fun k=>k<=l.length/\∀j (I:j<l.length),j<k->lx l[j] x) (fun k=>k<=l.length/\(∀j (I:j<l.length),j<k->lx l[j] x)/\∀I:k<l.length,¬lx l[k] x) (fun k=>l.length-k) (l.length-k) (.inl (k+1)):=fun aa=>⟨⟨U,fun j I ad=>by
   by_cases e:j=k
   ·subst e;exact aa
   ·exact hl j I (by omega)⟩,by simp only;omega⟩
  exact Tot.ite (fun a=>Tot.mk (more (.inl a))) fun a=>Tot.ite (fun b=>Tot.ite (fun c=>Tot.mk (more (.inr ⟨b,c⟩))) fun c=>Tot.mk ⟨hk,hl,fun _=>by simp only[lx];omega⟩) fun b=>Tot.mk ⟨hk,hl,fun _=>by simp only[lx];omega⟩
 have fin:(∀I:k<l.length,lx x l[k])->Tot (if(l.take k).isEmpty=true then(need (0<=(k:Int)/\(k:Int)<=(l.length:Int)/\(l.length:Int)<=l.length) (need ((1+(l.drop k).length)*16<=140737488355328) (some ([x]++(l.drop k)))))else(need ((l.take k).length*16<=140737488355328) (need (((l.take k).length+1)*16<=140737488355328) (need (0<=(k:Int)/\(k:Int)<=(l.length:Int)/\(l.length:Int)<=l.length) (need (((l.take k).length+1+(l.drop k).length)*16<=140737488355328) (some (((l.take k)++[x])++(l.drop k)))))))) SL:=fun ab=>by
  have hi:=h.ins hx hk hl ab
  have lt:(l.take k).length<=16384:=by rw[WaA];omega
  have ld:(l.drop k).length<=16384:=by rw[WaM];omega
  refine Tot.ite (fun e=>Tot.need (by omega) (Tot.need (by omega) (Tot.mk ?_))) fun _=>Tot.need (by omega) (Tot.need (by omega) (Tot.need (by omega) (Tot.need (by omega) (Tot.mk hi))));rw[Wbr.1 e]at hi;exact hi
 refine Tot.ite (fun h'=>?_) fun h'=>Tot.need (by omega) (fin fun I=>by omega)
 have U:k<l.length:=by omega
 refine(Tot.get U).bind fun y ⟨_,hy⟩=>?_;subst hy;refine Tot.ite (fun _=>Tot.mk h) fun ne=>Tot.need (by omega) (fin fun I=>?_)
 have:=hg I
 simp only[lx]at this|-;omega
theorem zxx {l:List (A2 Int)} (h:SL l) {fr:List Int} (hf:∀x∈fr,rg x) {y:Int} (hy:rg y):Tot (zca l fr y) SL:=by
 unfold zca;refine Tot.bind (Tot.loop (fun s=>s.2<=fr.length/\SL s.1) (R:=SL) (fun s=>fr.length-s.2) ⟨Waf _,h⟩ fun⟨l,i⟩ ⟨hi,hl⟩=>?_) fun r hr=>Tot.mk hr;simp only at hi hl;unfold zka;exact Tot.ite (fun U=>(Tot.get (by omega)).bind fun x I=>(yid hl ⟨hf x I.1,hy⟩).bind fun r hr=>Tot.mk ⟨⟨by simp only;omega,hr⟩,by simp only;omega⟩) fun _=>Tot.mk hl
theorem zv1 {α:Type} {xs:List α} {q:α->Bool} {m:Nat} (h:xs.length<=m):-1<=zug xs q/\zug xs q<m:=by
 unfold zug
 cases hf:xs.findIdx? q with
 |none=>simp only;omega
 |some i=>
  obtain⟨hi,_⟩:=Wci.1 hf;simp only;omega
end Go.Lz

end
section
namespace Go.Lz
theorem yaa {l:List xtn} {i:Nat} (h:i<l.length):szEs (l.drop i)=szE l[i]+szEs (l.drop (i+1)):=by
 rw[Wa3 h];rfl
theorem z59 {p:xtm} (P:zlc p):∀(n:Nat) (e:xtn),szE e<=30000->depE e<=n->Tot (zaz n p e) fun r=>(∀x∈r,rg x)/\r.length<=szE e
 |0,e,_,h=>by rw[zd5]at h;omega
 |n+1,e,hs,h=>by
  have p1:=P.nv;have p2:=P.nb;have p3:=P.ns
  have v0:∀s,rg (varN p s):=fun s=>by have:=zv1 (q:=fun(v:xtv)=>decide (v.Name=s)) p1;unfold varN rg;omega
  have b0:∀s,-1<=zio p s/\zio p s<12:=fun s=>by have:=zv1 (q:=fun(v:xt1)=>decide (v.Name=s)) p2;unfold zio;omega
  have s0:∀s,-1<=zou p s/\zou p s<8:=fun s=>by have:=zv1 (q:=fun(v:xt2)=>decide (v.Name=s)) p3;unfold zou;omega
  rw[zum]at hs;rw[zd5]at h
  have ab:∀(x:xtn),x∈e.Args->Tot (zaz n p x) fun r=>(∀x∈r,rg x)/\r.length<=szE x:=fun x I=>z59 P n x (by have:=zpz I;omega) (by have:=zgs I;omega)
  have lp:∀(l:List Int) (f:List Int×Nat->Option ((List Int×Nat)⊕List Int)),(∀l i,f (l,i)=if(i:Int)<(e.Args.length:Int)then((e.Args[i]?).bind fun ad=>(zaz n p ad).bind fun U=>need ((l.length+U.length)*8<=140737488355328) (some (.inl ((l++U),(i+1)))))else(some (.inr l)))->(∀x∈l,rg x)->l.length<=1->Tot (loop f (l,0)) fun r=>(∀x∈r,rg x)/\r.length<=szE e:=fun l f hf hl ae=>by
   refine Tot.loop (fun s=>s.2<=e.Args.length/\(∀x∈s.1,rg x)/\s.1.length+szEs (e.Args.drop s.2)<=1+szEs e.Args) (fun s=>e.Args.length-s.2) ⟨Waf _,hl,by simp only[WbG];omega⟩ fun⟨l,i⟩ ⟨hi,hr,hz⟩=>?_;simp only at hi hr hz;rw[hf];refine Tot.ite (fun h'=>?_) fun h'=>Tot.mk ⟨hr,by rw[zum];omega⟩
   have aa:i<e.Args.length:=by omega
   rw[yaa aa]at hz;refine(Tot.get aa).bind fun x ⟨I,ex⟩=>(ab x I).bind fun r ⟨q1,q2⟩=>?_;subst ex;refine Tot.need (by omega) (Tot.mk ⟨⟨aa,fun y hy=>?_,?_⟩,by simp only;omega⟩)
   ·rcases WaN.1 hy with hy|hy
    ·exact hr y hy
    ·exact q1 y hy
   ·simp only[Wai];omega
  have one:∀(x:Int),rg x->Tot (some [x]) fun r=>(∀x∈r,rg x)/\r.length<=szE e:=fun x I=>Tot.mk ⟨fun y hy=>by rw[WaX.1 hy];exact I,by rw[zum];simp only[Wby];omega⟩
  show Tot (zdb (zaz n) p e) _
  unfold zdb zhe;simp only[zpc,zmo,zr1,Waa];refine Tot.ite (fun _=>one _ (v0 _)) fun _=>Tot.ite (fun _=>one _ ?_) fun _=>Tot.ite (fun _=>one _ ?_) fun _=>Tot.ite (fun _=>?_) fun _=>?_
  ·have:=b0 e.Name
   unfold rg;rw[zhd (by omega) (by omega)];omega
  ·have:=s0 e.Name
   unfold rg;rw[zhd (n:=(p.Vars.length:Int)+(p.Blocks.length:Int)) (by omega) (by omega),zhd (n:=2*zou p e.Name) (by omega) (by omega),zhd (n:=(p.Vars.length:Int)+(p.Blocks.length:Int)+2*zou p e.Name) (by omega) (by omega),zhd (by omega) (by omega)];omega
  ·exact(lp [_] _ (fun l i=>rfl) (fun y hy=>by rw[WaX.1 hy];exact v0 _) (by simp)).bind fun r hr=>Tot.mk hr
  ·exact(lp [] _ (fun l i=>rfl) (fun y hy=>by cases hy) (by simp)).bind fun r hr=>Tot.mk hr
theorem ye8 {p:xtm} (P:zlc p) {e:xtn} (g:GoodE e):Tot (zdf p e) fun r=>(∀x∈r,rg x)/\r.length<=20000:=
 (z59 P 1000000 e (by have:=g.sz;omega) (by have:=g.dep;omega)).imp fun r h=>⟨h.1,by have:=g.sz;omega⟩
theorem z3x {p:xtm} (P:zlc p) {I:List Int} (ha:∀x∈I,rg x):∀(n:Nat) (e:xtn) (l:List (A2 Int)),fmE e->szE e<=30000->depE e<=n->depE e<=1000->SL l->Tot (zch n p l e I) SL
 |0,e,_,_,_,h,_,_=>by rw[zd5]at h;omega
 |n+1,e,l,ok,hs,h,hd,hl=>by
  have p1:=P.nv;have p2:=P.nb;have p3:=P.ns
  have s0:∀s,-1<=zou p s/\zou p s<8:=fun s=>by have:=zv1 (q:=fun(v:xt2)=>decide (v.Name=s)) p3;unfold zou;omega
  have F:=zxp ok
  have ops:=F.ops
  rw[zzc]at ok;rw[zum]at hs;rw[zd5]at h hd
  have aa:∀(x:xtn) (l:List (A2 Int)),x∈e.Args->SL l->Tot (zch n p l x I) SL:=fun x l U hl=>z3x P ha n x l (zlu ok.2 x U) (by have:=zpz U;omega) (by have:=zgs U;omega) (by have:=zgs U;omega) hl
  have lp:∀(l:List (A2 Int)) (f:List (A2 Int)×Nat->Option ((List (A2 Int)×Nat)⊕List (A2 Int))),(∀l i,f (l,i)=if(i:Int)<(e.Args.length:Int)then((e.Args[i]?).bind fun ab=>(zch n p l ab I).bind fun ad=>some (.inl (ad,(i+1))))else(some (.inr l)))->SL l->Tot (loop f (l,0)) SL:=fun l f hf hl=>by
   refine Tot.loop (fun s=>s.2<=e.Args.length/\SL s.1) (fun s=>e.Args.length-s.2) ⟨Waf _,hl⟩ fun⟨l,i⟩ ⟨hi,hr⟩=>?_;simp only at hi hr;rw[hf];exact Tot.ite (fun h'=>(Tot.get (by omega)).bind fun x U=>(aa x l U.1 hr).bind fun r q=>Tot.mk ⟨⟨by simp only;omega,q⟩,by simp only;omega⟩) fun _=>Tot.mk hr
  show Tot (zes (zch n) p l e I) _
  unfold zes zhe;simp only[zr1,Waa];refine Tot.ite (fun ae=>?_) fun _=>(lp l _ (fun l i=>rfl) hl).bind fun r hr=>Tot.mk hr
  have:=s0 e.Name
  rw[zhd (n:=(p.Vars.length:Int)+(p.Blocks.length:Int)) (by omega) (by omega),zhd (n:=2*zou p e.Name) (by omega) (by omega),zhd (n:=(p.Vars.length:Int)+(p.Blocks.length:Int)+2*zou p e.Name) (by omega) (by omega),zhd (n:=(p.Vars.length:Int)+(p.Blocks.length:Int)+2*zou p e.Name+1) (by omega) (by omega)];refine(Tot.get (by omega)).bind fun x U=>?_;refine((z59 P 1000000 x (by have:=zpz U.1;omega) (by have:=zgs U.1;omega))).bind fun r ⟨q,_⟩=>(zxx hl q (y:=_) ?_).bind fun r1 h1=>(zxx h1 ha (y:=_) ?_).bind fun r2 h2=>(lp r2 _ (fun l i=>rfl) h2).bind fun r hr=>Tot.mk hr
  ·rw[zhd (by omega) (by omega)];unfold rg;omega
  ·unfold rg;omega
theorem ztd {a b:List Int} (ha:a.length<=1000000000) (hb:b.length<=1000000000) (qa:∀x∈a,rg x) (qb:∀x∈b,rg x):Tot (zbk a b) fun r=>(∀x∈r,rg x)/\r.length<=a.length+b.length:=by
 have inner:∀(out:List Int) (i:Nat) (f:Bool×Nat->Option ((Bool×Nat)⊕Bool)),i<b.length->(∀t k,f (t,k)=if(k:Int)<(out.length:Int)then(if t=true then(some (.inr t))else((out[k]?).bind fun I=>(b[i]?).bind fun U=>some (.inl ((decide (I=U)),(k+1)))))else(some (.inr t)))->Tot (loop f (false,0)) fun _=>True:=fun out i f hi hf=>by
  refine Tot.loop (fun s=>s.2<=out.length) (fun s=>out.length-s.2) (Waf _) fun⟨t,k⟩ hk=>?_;simp only at hk;rw[hf];exact Tot.ite (fun h'=>Tot.ite (fun _=>Tot.mk trivial) fun _=>(Tot.get (by omega)).bind fun _ _=>(Tot.get hi).bind fun _ _=>Tot.mk ⟨by simp only;omega,by simp only;omega⟩) fun _=>Tot.mk trivial
 have outer:∀(o:List Int) (f:List Int×Nat->Option ((List Int×Nat)⊕List Int)) (g:List Int->Nat->Bool×Nat->Option ((Bool×Nat)⊕Bool)),(∀o i t k,g o i (t,k)=if(k:Int)<(o.length:Int)then(if t=true then(some (.inr t))else((o[k]?).bind fun I=>(b[i]?).bind fun U=>some (.inl ((decide (I=U)),(k+1)))))else(some (.inr t)))->(∀o i,f (o,i)=if(i:Int)<(b.length:Int)then((loop (g o i) (false,0)).bind (fun ad=>if ad=true then(some (.inl (o,(i+1))))else((b[i]?).bind fun ab=>need ((o.length+1)*8<=140737488355328) (some (.inl ((o++[ab]),(i+1)))))))else(some (.inr o)))->(∀x∈o,rg x)->o.length<=a.length->Tot (loop f (o,0)) fun r=>(∀x∈r,rg x)/\r.length<=a.length+b.length:=fun o f g hg hf qo ho=>by
  refine Tot.loop (fun s=>s.2<=b.length/\(∀x∈s.1,rg x)/\s.1.length<=a.length+s.2) (fun s=>b.length-s.2) ⟨Waf _,qo,by simp only;omega⟩ fun⟨o,i⟩ ⟨hi,hr,hz⟩=>?_;simp only at hi hr hz;rw[hf];refine Tot.ite (fun h'=>?_) fun _=>Tot.mk ⟨hr,by omega⟩
  have aa:i<b.length:=by omega
  refine(inner o i _ aa (hg o i)).bind fun t _=>Tot.ite (fun _=>Tot.mk ⟨⟨aa,hr,by simp only;omega⟩,by simp only;omega⟩) fun _=>(Tot.get aa).bind fun x hx=>Tot.need (by omega) (Tot.mk ⟨⟨aa,fun y hy=>?_,by simp only[Wai,Wby];omega⟩,by simp only;omega⟩)
  rcases WaN.1 hy with hy|hy
  ·exact hr y hy
  ·rw[WaX.1 hy];exact qb x hx.1
 unfold zbk;refine Tot.ite (fun _=>?_) fun _=>Tot.need (by omega) ?_
 ·exact(outer [] _ (zkc b) (fun o i t k=>rfl) (fun o i=>rfl) (fun y hy=>by cases hy) (Waf _)).bind fun r hr=>Tot.mk hr
 ·exact(outer a _ (zkb b) (fun o i t k=>rfl) (fun o i=>rfl) qa (Wae _)).bind fun r hr=>Tot.mk hr
end Go.Lz

end
section
namespace Go.Lz
def addD (I:List Deferred) (a:Act):Act:={a with defers:=a.defers++I}
theorem zv3 {I:List Deferred} {a:Act} {d:Option Tmp} {v:Value}:(addD I a).put d v=addD I (a.put d v):=by cases d<;>rfl
theorem z5e {I:List Deferred} {a:Act}:(addD I a).eval=a.eval:=by funext x;cases x<;>rfl
theorem ydp {P:Program} {I:List Deferred} {o:Oper} {a:Act} {w:World} {next next':Act->World->Prop} {Q Q':Exit->Act->World->Prop} (h:o.wp P a w next Q) (hn:∀U w',next U w'->next' (addD I U) w') (hQ:∀e U w',Q e U w'->Q' e (addD I U) w'):o.wp P (addD I a) w next' Q':=by
 unfold Oper.wp at h|-;rw[z5e]
 generalize (execOp a.eval o).run P w=r at h|-
 cases r with
 |ok x w'=>
  cases x with
  |value v=>show next' ((addD I a).put o.dst v) w';rw[zv3];exact hn _ _ h
  |skip=>show next' ((addD I a).put o.dst undef) w';rw[zv3];exact hn _ _ h
  |defer d=>show next' ((addD I {a with defers:=d::a.defers}).put o.dst undef) w';rw[zv3];exact hn _ _ h
  |enter f args=>
   refine Calls.mono h ?_;rintro e w2 hR
   cases e with
   |returned v=>show next' ((addD I a).put o.dst v) w2;rw[zv3];exact hn _ _ hR
   |panicked c=>exact hQ _ _ _ hR
   |outgrown=>obtain⟨U,w',hq⟩:=hR;exact⟨_,_,hQ _ _ _ hq⟩
  |row r args=>exact Rows.mono h fun v w2 hR=>by rw[zv3];exact hn _ _ hR
  |_=>exact h.elim
 |halt x w'=>
  cases x with
  |panic v=>exact hQ _ _ _ h
  |_=>exact h.elim
theorem zuh {P:Program} {U:List Deferred} {ops:Array Oper} {Q Q':Exit->Act->World->Prop} (hQ:∀e I w',Q e I w'->Q' e (addD U I) w'):∀(l:List Nat) (a:Act) (w:World),wpOps P ops Q l a w->wpOps P ops Q' l (addD U a) w
 |[],a,w,h=>hQ _ _ _ h
 |i::l,a,w,h=>by
  simp only[wpOps]at h|-
  cases ho:ops[i]? with
  |none=>simp only[ho]at h|-;exact zuh hQ l a w h
  |some o=>
   simp only[ho]at h|-
   have ey:yielded ops (addD U a).tmps=yielded ops a.tmps:=rfl
   rw[ey];split
   ·rename_i hw
    rw[if_pos hw]at h
    rcases h with h|⟨h1,I,w',h2⟩
    ·exact .inl (ydp h (fun I w'=>zuh hQ l I w') hQ)
    ·refine .inr ⟨?_,_,_,hQ _ _ _ h2⟩
     unfold Oper.asks at h1|-;rw[z5e];exact h1
   ·rename_i hw
    rw[if_neg hw]at h;rw[zv3];exact zuh hQ l _ _ h
structure Mv (E E':Env):Prop where
 H:E'.H=E.H
 bd:E'.bd=E.bd
 free:∀b,E.free b->E'.free b
 cell:∀(a:Addr) v,E.free a.block->E.w.cell? a=some v->E'.w.cell? a=some v
theorem CRel.mv {E E':Env} (t:Mv E E') {c:C} {v:Value} (h:CRel E c v):CRel E' c v:=by
 induction h with
 |int h=>exact .int h
 |bool=>exact .bool
 |str h hl=>exact .str h hl
 | @sl rows a n cap vals sz hn hcap hlim hsz hb hv I=>
   refine .sl vals sz hn hcap hlim hsz (fun aa=>?_) I;obtain⟨b,off,ha,hf,hc⟩:=hb aa;exact⟨b,off,ha,t.free _ hf,fun i j c ab=>t.cell _ _ hf (hc i j c ab)⟩
 |slf h hf I=>exact .slf I hf
 |iptr vals he hb hc hv I=>exact .iptr vals he (t.free _ hb) (fun j c hj=>t.cell _ _ hb (hc j c hj)) I
 |fn hn hv I=>exact .fn hn I
 |ifc hn hv I=>exact .ifc hn I
 |nilfn=>exact .nilfn
 |nilif=>exact .nilif
 |nilp=>exact .nilp
 |nilm=>exact .nilm
 | @ref id ver row off v hid hc h=>
   refine .ref (by rw[t.H];exact hid) hc fun cur sz rows U=>?_;rw[t.H]at U;rw[t.bd];exact h cur sz rows U
 | @msl id ver lo hi v hid hc h=>
   refine .msl (by rw[t.H];exact hid) hc fun cur sz rows U=>?_;rw[t.H]at U;rw[t.bd];exact h cur sz rows U
 | @mp id v hid hc h=>
   refine .mp (by rw[t.H];exact hid) hc fun es U=>?_;rw[t.H]at U;rw[t.bd];exact h es U
theorem VRel.mv {E E':Env} (t:Mv E E') {x:V} {v:Value} (h:VRel E x v):VRel E' x v:=by
 induction h with
 |one h=>exact .one (h.mv t)
 |agg hn h=>exact .agg hn fun j c I=>(h j c I).mv t
 |tup hn h U=>exact .tup hn U
 |un=>exact .un
theorem ORel.mv {E E':Env} (t:Mv E E') {id:Nat} {o:O} (h:ORel E id o) (hb:E.live id o->E'.w.heap[(E.bd id).blk]? =E.w.heap[(E.bd id).blk]?):ORel E' id o:=by
 cases o with
 |cells ver sz rows=>
  obtain⟨h3,h4,h5,I⟩:=h;refine⟨by rw[t.bd];exact h3,h4,h5,fun hc=>?_⟩;rw[t.bd]at hc;obtain⟨arr,ty,h1,h2,I⟩:=I hc;refine⟨arr,ty,?_,?_,?_⟩
  ·rw[t.bd];exact h1.congr (hb hc)
  ·rw[t.bd];exact h2
  ·intro i j c aa
   obtain⟨v,hv,hr⟩:=I i j c aa;exact⟨v,by rw[t.bd];exact hv,hr.mv t⟩
 |map es=>
  obtain⟨U,clock,h1,h2,h3⟩:=h;refine⟨U,clock,by rw[t.bd,hb trivial];exact h1,h2,fun i k x hi=>?_⟩;obtain⟨e,he,hk,hx⟩:=h3 i k x hi;exact⟨e,he,hk.mv t,hx.mv t⟩
 |dead=>trivial
theorem HRel.mv {E E':Env} (h:HRel E) (t:Mv E E') (aa:∀id o,E.H[id]? =some o->E.live id o->E'.w.heap[(E.bd id).blk]? =E.w.heap[(E.bd id).blk]?)
  (ab:∀b,E'.Fr b->b<E'.w.heap.size) (ad:∀id o,E.H[id]? =some o->E.live id o->¬E'.Fr (E.bd id).blk):HRel E':=by
 have U:∀{id:Nat} {o:O},E'.live id o->E.live id o:=fun{id o} h=>(zbj (by rw[t.bd])).1 h
 refine⟨fun id o ho=>?_,fun i j x y I hy lx ly ae=>?_,fun i x I lx=>?_,ab,fun p hp=>⟨t.free _ (h.glob p hp).1,fun j v hj=>t.cell ⟨p.1,j,none⟩ v (h.glob p hp).1 ((h.glob p hp).2 j v hj)⟩⟩
 ·rw[t.H]at ho;exact(h.obj id o ho).mv t (aa id o ho)
 ·rw[t.H]at I hy;rw[t.bd];exact h.dist i j x y I hy (U lx) (U ly) ae
 ·rw[t.H]at I;rw[t.bd];exact ad i x I (U lx)
theorem SR.mv {ctx:Env} {n:Cf} {st:St} {a:Act} {E E':Env} (h:SR ctx n st a E) (t:Mv E E') (I:HRel E') (tr:Trans ctx E'):SR ctx n st a E':=
 ⟨h.len,h.hm,h.defers,fun i=>(h.tm i).mv t,by rw[t.H];exact h.H,I,tr⟩
theorem zoh {E:Env} (h:HRel E) {D:Nat} {d:Option (List Deferred)} (hD:E.w.heap[D]? =some (.deferred d)):¬E.own D:=by
 rintro⟨id,o,I,hl,rfl⟩
 have:=h.obj id o I
 cases o with
 |cells ver sz rows=>
  obtain⟨_,_,_,U⟩:=this;obtain⟨arr,ty,⟨fz,h1,_⟩,_⟩:=U hl;rw[hD]at h1;cases h1
 |map es=>
  obtain⟨aa,clock,h1,_⟩:=this;rw[hD]at h1;cases h1
 |dead=>exact hl
theorem mvD {E:Env} (h:HRel E) {D:Nat} {d:Option (List Deferred)} (hD:E.w.heap[D]? =some (.deferred d)) (o:Obj):Mv E {E with w:=E.w.putObj D o}/\HRel {E with w:=E.w.putObj D o}:=by
 have U:=zoh h hD
 have hsz:(E.w.putObj D o).heap.size=E.w.heap.size:=by simp[World.putObj]
 have lv:∀{id:Nat} {x:O},({E with w:=E.w.putObj D o}:Env).live id x->E.live id x:=fun{id x} h=>(zbj (E:=E) (E':={E with w:=E.w.putObj D o}) rfl).1 h
 have t:Mv E {E with w:=E.w.putObj D o}:=by
  refine⟨rfl,rfl,fun b hb=>⟨by show _<(E.w.putObj D o).heap.size;rw[hsz];exact hb.1,hb.2.1,fun⟨id,x,h1,h2,h3⟩=>hb.2.2 ⟨id,x,h1,lv h2,h3⟩⟩,fun a v hf hc=>?_⟩
  by_cases e:a.block=D
  ·simp[World.cell?,e,hD]at hc
  ·show(E.w.putObj D o).cell? a=some v
   rw[World.cell?_of_block (World.putObj_heap_other e)];exact hc
 refine⟨t,h.mv t (fun id x I hl=>?_) (fun b hb=>by show _<(E.w.putObj D o).heap.size;rw[hsz];exact h.frlt b hb) (fun id x I hl=>h.nofr id x I hl)⟩;exact World.putObj_heap_other (fun e=>U ⟨id,x,I,hl,e⟩)
theorem yk9 {ctx E:Env} (t:Trans ctx E) {D:Nat} (hD:ctx.w.heap.size<=D) (o:Obj):Trans ctx {E with w:=E.w.putObj D o}:=by
 have U:∀b,({E with w:=E.w.putObj D o}:Env).own b->E.own b:=by
  rintro b ⟨id,x,h1,h2,h3⟩
  exact⟨id,x,h1,(zbj (E:=E) (E':={E with w:=E.w.putObj D o}) rfl).1 h2,h3⟩
 refine⟨t.fr,by show _<=(E.w.putObj D o).heap.size;simpa [World.putObj]using t.size,t.os,t.tape,t.output,fun b hb I=>?_,fun b hb I=>t.own b hb (U b I),t.len,t.objC,t.objM⟩;exact(World.putObj_heap_other (show b≠D by omega)).trans (t.keep b hb I)
theorem znu {P:Program} {c rest:Code} {n:Cf} {ctx:Env} {st:St} {a:Act} {E:Env} {I:Exit->Act->World->Prop} (hs:SR ctx n st a E) {st':St} (h:∀K:Ex->St->Prop,K .normal st'->awpS P n [.code c] st K) (hr:∀a E,SR ctx n st' a E->rest.wp P I a E.w) (U:okC n.n c=true:=by kernel_rfl):(c.seq rest).wp P I a E.w:=by
 refine wp_seq (wp_mono (zh0 c st _ (h (fun e s=>e=.normal/\s=st') ⟨rfl,rfl⟩) U ctx a E hs) ?_);rintro _ a' _ ⟨_,_,E',rfl,rfl,⟨rfl,rfl⟩,aa⟩;exact hr a' E' aa
theorem zyi {P:Program} {n:Nat} {fn:Func} {m:Cf} {ctx:Env} {st:St} {a:Act} {E:Env} {D:Nat} {K:V->List O->Prop} (I:SR ctx m st a E) (hD:E.w.heap[D]? =some (.deferred (some []))) (hle:ctx.w.heap.size<=D) (hk:resK P fn.results.toList st K):
  LeavesInM Fence.wide n P fn a.tmps (fun e w'=>∃v x E',e=.returned v/\E'.w=w'/\K x E'.H/\VRel E' x v/\HRel E'/\Trans ctx E') [{target:=.collected D,args:= #[]}] .returning E.w:=by
 obtain⟨t,U⟩:=mvD I.rel hD (.deferred none)
 have tr:=yk9 I.tr hle (.deferred none)
 obtain⟨v,x,h1,h2,h3⟩:=z7i (I.mv t U tr) hk;exact⟨by simp,.inl ⟨D,_,rfl,run_takeDeferred hD,⟨v,h1,v,x,_,rfl,rfl,h3,h2,U,tr⟩⟩⟩
theorem z2i {E:Env} (hE:HRel E) {args:List V} {vs:Array Value} (n:Nat) (hn:vs.size=args.length) (hv:∀(j:Nat) (x:V),args[j]? =some x->VRel E x (vs.getD j undef)):
  SR E ⟨n,E.H.length⟩ ⟨zm7 0 args,E.H⟩ {tmps:=vs++Array.replicate (n-vs.size) undef,defers:=[]} E:=by
 refine⟨by simp;omega,Wae _,rfl,fun i=>?_,rfl,hE,Trans.refl E⟩;simp only[zo3,Waf,if_true,WaY];simp only[List.getD_eq_getElem?_getD]
 cases I:args[i]? with
 |none=>simp only[Wca];exact .un
 |some x=>
  have U:i<vs.size:=by rw[hn];exact(Wag.1 I).1
  have:=hv i x I
  simp only[WaI];rw[Wah]at this|-;rw[Wbe U];exact this
theorem zy9 {P:Program} {f:FuncId} {args:List V} {x:V} (hx:(∃k n,x=.one (.int k n))\/∃b,x=.one (.bool b)) (h:Ct P f args [] fun v _=>v=x):Pu P f args x:=by
 refine⟨h.1,fun E vs hE U hn hv=>Calls.mono (h.2 E vs hE U hn hv) ?_⟩;rintro e w' ⟨u,y,E',rfl,rfl,rfl,I,hh,tr⟩;refine⟨u,_,E'.shut,rfl,rfl,⟨rfl,rfl⟩,?_,zvt hh,?_⟩
 ·rcases hx with⟨k,n,rfl⟩|⟨b,rfl⟩
  ·obtain⟨rfl,h1⟩:=int_inv (one_inv I);exact .one (.int h1)
  ·have:=bool_inv (one_inv I);subst this;exact .one .bool
 have e0:∀b,¬E.own b:=by rintro b ⟨id,o,ho,_⟩;simp[U]at ho
 refine⟨tr.fr,tr.size,tr.os,tr.tape,tr.output,fun b hb _=>tr.keep b hb (e0 b),?_,by simp[U],by simp[Env.shut],by simp[Env.shut]⟩;rintro b hb ⟨id,o,ho,_⟩;simp[Env.shut]at ho
theorem z8i {P:Program} {f:FuncId} {fn:Func} {c:Code} {args:List V} {H:List O} {K:V->List O->Prop} (n:Nat) (hf:P.funcs[f]? =some fn) (h:∀(E:Env) (a:Act),E.H=H->SR E ⟨fn.ntmps,H.length⟩ ⟨zm7 0 args,H⟩ a E->
  c.wp P (bodyPostM Fence.wide n P fn fun e w'=>∃v x E',e=.returned v/\E'.w=w'/\K x E'.H/\VRel E' x v/\HRel E'/\Trans E E') a E.w) (hb:fn.body=some c:=by rfl) (I:(fn.name== "runtime.NumGoroutine")=false:=by kernel_rfl):Ct P f args H K:=by
 refine⟨⟨fn,hf,I,by simp[hb]⟩,fun E vs hE U hn hv=>callsIn_wide.1 (callsIn_of_wp_marks (n:=n) hf hb trivial (wpIn_wide.2 ?_))⟩;subst U;exact h E _ rfl (z2i hE fn.ntmps hn hv)
theorem yao {P:Program} {id:Nat} {ops:Array Oper} {n:Cf} {ctx:Env} {st:St} {a:Act} {E:Env} {Q:Exit->Act->World->Prop} (hs:SR ctx n st a E) {st':St} (h:∀K:Ex->St->Prop,K .normal st'->awpS P n [.code (.region id ops false)] st K) (hQ:∀I E',SR ctx n st' I E'->Q .normal I E'.w) (U:okC n.n (.region id ops false)=true:=by kernel_rfl):wpOps P ops Q (List.range ops.size) a E.w:=by
 have ab:∀o∈ops.toList,∀d,o.dst=some d->d<n.n:=by
  intro o ho d hd;simp only[okC,Wak]at U
  have:=U o ho
  simpa [hd]using this
 have h2:awp P n (.region id ops false) st (fun e s=>e=.normal/\s=st'):=zx2 (h (fun e s=>e=.normal/\s=st') ⟨rfl,rfl⟩)
 simp only[awp,true_and]at h2;refine zx3 (K:=fun s=>s=st') Q (fun s I E' hK ad=>by subst hK;exact hQ I E' ad) ab (List.range ops.size) ops.toList (by simp) (fun k i hk=>?_) st a E hs h2
 have aa:=(Wag.1 hk).1
 simp at aa;simp[aa]at hk;subst hk;simp
theorem z21 {E E':Env} (t:Trans E E') (I:E.H=[]):E.w.grownBy E'.w none:=
 ⟨t.os,t.tape,t.output,t.size,fun k U _=>t.keep k U (by rintro⟨id,o,ho,_⟩;simp[I]at ho)⟩
theorem zy7 {P:Program} {g:FuncId} (I:∃fn,P.funcs[g]? =some fn/\(fn.name== "runtime.NumGoroutine")=false/\fn.body.isNone=false) (args:Array Value) (w:World):(callFunc g args).run P w=.ok (.enter g args) w:=by
 obtain⟨fn,h1,h2,h3⟩:=I
 have U:¬fn.name= "runtime.NumGoroutine" :=by simpa using h2
 have aa:¬fn.body=none:=by intro e;simp[e]at h3
 simp[callFunc,h1,U,aa]
end Go.Lz

end
section
namespace Go.Lz
def FF (ro:Option Nat):Fence:={Fence.wide with round:=ro}
theorem z11 {ro:Option Nat} {n:Nat} {P:Program} {f:FuncId} {args:Array Value} {w:World} {R:Ending->World->Prop} (h:Calls P f args w R):CallsIn (FF ro) n P f args w R:=(callsIn_wide (n:=n)).2 h
theorem z8y {ro:Option Nat} {n m l:Nat} {P:Program} {f:FuncId} {tmps:Array Value} {x y:Code} {w:World} {R:Ending->World->Prop} (h:RoundIn Fence.wide n P l f tmps x y w R):RoundIn (FF ro) m P l f tmps x y w R:=
 ⟨trivial,fun c cs _=>h.2 c cs (room_wide _)⟩
theorem zf6 {a:Act} {d:Option Tmp} {v:Value} {i:Tmp} (h:d≠some i):(a.put d v).tmps.getD i undef=a.tmps.getD i undef:=by
 cases d with
 |none=>rfl
 |some d=>
  have I:d≠i:=fun e=>h (by rw[e])
  simp only[Act.put,Wah,WbE,if_neg I]
def zvv:Op->Bool
 |.defer _=>false
 |_=>true
theorem z9y {ro:Option Nat} {n:Nat} {P:Program} {o:Oper} {a:Act} {w:World} {next next':Act->World->Prop} {Q Q':Exit->Act->World->Prop} (hd:zvv o.op=true) (h:o.wp P a w next Q)
  (hn:∀U w',next U w'->(∀i,o.dst≠some i->U.tmps.getD i undef=a.tmps.getD i undef)->next' U w') (hQ:∀a w,¬Q .outgrown a w) (hp:∀c a w,¬Q (.panic c) a w):o.wpIn (FF ro) n P a w next' Q':=by
 refine⟨fun _ _=>trivial,?_⟩;rw[Oper.semAt_eq _ _ _ (by intro c e;rw[e]at hd;cases hd)];unfold Oper.wp at h
 generalize (execOp a.eval o).run P w=r at h|-
 cases r with
 |ok x w'=>
  cases x with
  |value v=>exact hn _ _ h fun i hi=>zf6 hi
  |skip=>exact hn _ _ h fun i hi=>zf6 hi
  |defer d=>exact hn _ _ h fun i hi=>zf6 (a:={a with defers:=d::a.defers}) hi
  |enter f args=>
   refine⟨fun e=>(by cases e),z11 (Calls.mono h ?_)⟩;rintro e w2 I
   cases e with
   |returned v=>exact hn _ _ I fun i hi=>zf6 hi
   |panicked c=>exact(hp _ _ _ I).elim
   |outgrown=>obtain⟨U,w',hq⟩:=I;exact(hQ _ _ hq).elim
  |row r args=>
   refine⟨fun e=>(by cases e),fun c cs _=>?_⟩;obtain⟨v,w2,I,hs⟩:=h c cs;exact⟨v,w2,hn _ _ I fun i hi=>zf6 hi,(stepsIn_wide (P:=P)).2 hs⟩
  |_=>exact h.elim
 |halt x w'=>
  cases x with
  |panic v=>exact(hp _ _ _ h).elim
  |_=>exact h.elim
theorem zx4 {ro:Option Nat} {nn:Nat} {P:Program} {all:Array Oper} {ctx:Env} {n:Cf} {K:St->Prop} {Q:Exit->Act->World->Prop} (l2:List Nat) (ab:∀o∈all.toList,(∀d,o.dst=some d->d<n.n)/\zvv o.op=true):
  ∀(l:List Nat) (rest:List Oper),rest.length=l.length->(∀(k i:Nat),l[k]? =some i->all[i]? =rest[k]?)->∀(st:St) (a:Act) (E:Env),SR ctx n st a E->awpOps P all rest st K->
   (∀st' a' E',K st'->SR ctx n st' a' E'->(∀i,(∀o∈rest,o.dst≠some i)->a'.tmps.getD i undef=a.tmps.getD i undef)->wpOpsIn (FF ro) nn P all Q l2 a' E'.w)->wpOpsIn (FF ro) nn P all Q (l++l2) a E.w
 |[],rest,hl,hi,st,a,E,h,hw,hk=>by
  have:rest=[]:=WaJ (by simpa using hl)
  subst this;exact hk st a E hw h fun _ _=>rfl
 |i::l,rest,hl,hi,st,a,E,h,hw,hk=>by
  cases rest with
  |nil=>simp at hl
  |cons o rest=>
   have ho:all[i]? =some o:=by simpa using hi 0 i rfl
   have aa:o∈all.toList:=Wad (by simpa using ho)
   simp only[Wbh,wpOpsIn,ho];obtain⟨st',hs,hh⟩:=zs8 h hw
   have ad:=zx4 (ro:=ro) (nn:=nn) (P:=P) (all:=all) (ctx:=ctx) (n:=n) (K:=K) (Q:=Q) l2 ab l rest (by simpa using hl) (fun k j hk=>by simpa using hi (k+1) j (by simpa using hk))
   rcases hh with⟨I,hx⟩|⟨I,hy⟩
   ·simp only[I,if_true]
    refine z9y (Q:=fun _ _ _=>False) (next:=fun a' w'=>∃U E2,E2.w=w'/\awpOps P all rest U K/\SR ctx n U a' E2) (ab o aa).2 (zz0 hs (ab o aa).1 hx _ _ fun U a2 E2 hK ae=>⟨U,E2,rfl,hK,ae⟩) ?_ (fun _ _ h=>h) (fun _ _ _ h=>h)
    rintro a' _ ⟨U,E2,rfl,hK,ae⟩ al;exact ad _ _ _ ae hK fun an a3 E3 af ai aj=>hk _ _ _ af ai fun j hj=>(aj j fun o' ak=>hj o' (WbO _ ak)).trans (al j (hj o (WbP ..)))
   ·simp only[I,WaD,if_false]
    exact⟨fun _ _=>trivial,ad _ _ _ (hs.skip2 (ab o aa).1) hy fun an a3 E3 af ai aj=>hk _ _ _ af ai fun j hj=>(aj j fun o' ak=>hj o' (WbO _ ak)).trans (zf6 (hj o (WbP ..)))⟩
def okD (n:Nat) (ops:Array Oper):Bool:=ops.toList.all fun o=>(match o.dst with|some d=>decide (d<n)|none=>true)&&zvv o.op
theorem z4g {n:Nat} {ops:Array Oper} (h:okD n ops=true):∀o∈ops.toList,(∀d,o.dst=some d->d<n)/\zvv o.op=true:=by
 intro o I;simp only[okD,Wak,Wan]at h;obtain⟨h1,h2⟩:=h o I;exact⟨fun d U=>by simpa [U]using h1,h2⟩
def zov (keep:List Nat) (st:St):List (Nat×V):=keep.map fun i=>(i,(look st.t i).view st.H)
theorem ybm {keep:List Nat} {st:St} {i:Nat}:look (zov keep st) i=if keep.contains i then(look st.t i).view st.H else .un:=by
 unfold zov
 induction keep with
 |nil=>rfl
 |cons k ks I=>
  simp only[Wbg,zfb,Wcd];split
  ·rename_i e;subst e;simp
  ·rename_i e
   rw[I]
   have:(i==k)=false:=by simp;exact fun h=>e h.symm
   simp[this]
theorem SR.seen {ctx:Env} {n:Cf} {st:St} {a:Act} {E:Env} (h:SR ctx n st a E) (keep:List Nat) (I:keep.all (fun i=>((look st.t i).view st.H).lt 0)=true):SR E.shut n ⟨zov keep st,[]⟩ a E.shut:=by
 refine⟨h.len,Waf _,h.defers,fun i=>?_,rfl,zvt h.rel,Trans.refl _⟩;rw[ybm];split
 ·rename_i hi
  have:=(Wak.1 I) i (by simpa using hi)
  have hv:=zw4 h.rel (h.tm i)
  rw[h.H]at hv;exact hv this
 ·exact .un
def zn4 (all:Array Oper) (l:List Nat):List Oper:=l.filterMap fun i=>all[i]?
theorem ybo {all:Array Oper}:∀{l:List Nat},(zn4 all l).length=l.length->∀(k i:Nat),l[k]? =some i->all[i]? =(zn4 all l)[k]?
 |[],_,k,i,h=>by simp at h
 |x::l,h,k,i,I=>by
  unfold zn4 at h|-;rw[WbH]at h|-
  cases U:all[x]? with
  |none=>
   rw[U]at h
   have:=List.length_filterMap_le (fun i=>all[i]?) l
   simp only[Waj]at h;omega
  |some o=>
   rw[U]at h;simp only[Waj,Nat.add_right_cancel_iff]at h
   cases k with
   |zero=>simp at I;subst I;simpa using U
   |succ k=>
    have:=ybo (all:=all) (l:=l) h k i (by simpa using I)
    unfold zn4 at this;simpa using this
def z4y (rest:List Oper) (fr:List Nat):Bool:=rest.all fun o=>fr.all fun i=>o.dst !=some i
theorem z5s {ro:Option Nat} {nn:Nat} {P:Program} {all:Array Oper} {n:Cf} {E0:Env} {a:Act} {E:Env} {st:St} {Q:Exit->Act->World->Prop} (I:SR E0 n st a E) (hH:st.H=[]) (l:List Nat) (l2:List Nat) (keep fr:List Nat) {st':St}
  (h:∀K:Ex->St->Prop,K .normal st'->awpS P n [.ops all (zn4 all l)] st K) (hk:keep.all (fun i=>((look st'.t i).view st'.H).lt 0)=true)
  (hQ:∀U E',E.w.grownBy E'.w none->E'.Fr=E.Fr->E'.H=[]->SR E' n ⟨zov keep st',[]⟩ U E'->(∀i∈fr,U.tmps.getD i undef=a.tmps.getD i undef)->wpOpsIn (FF ro) nn P all Q l2 U E'.w)
  (hl:(zn4 all l).length=l.length:=by kernel_rfl) (ab:z4y (zn4 all l) fr=true:=by kernel_rfl) (ad:okD n.n all=true:=by kernel_rfl):wpOpsIn (FF ro) nn P all Q (l++l2) a E.w:=by
 have ae:SR E n st a E:=⟨I.len,by rw[I.H,hH];exact Waf _,I.defers,I.tm,I.H,I.rel,Trans.refl E⟩
 refine zx4 (K:=fun s=>Ex.normal=.normal/\s=st') l2 (z4g ad) l (zn4 all l) hl (ybo hl) st a E ae (h (fun e s=>e=.normal/\s=st') ⟨rfl,rfl⟩) ?_;rintro _ U E' ⟨_,rfl⟩ aa hf;refine hQ U E'.shut (show E.w.grownBy E'.w none from z21 aa.tr (by rw[I.H,hH])) aa.tr.fr rfl (aa.seen keep hk) fun i hi=>hf i fun o ho=>?_;simp only[z4y,Wak]at ab;simpa using ab o ho i hi
theorem regY {ro:Option Nat} {nn id:Nat} {P:Program} {all:Array Oper} {n:Cf} {E0:Env} {a:Act} {E:Env} {st:St} {Q:Exit->Act->World->Prop} (I:SR E0 n st a E) (hH:st.H=[]) (keep fr:List Nat) {st':St}
  (h:∀K:Ex->St->Prop,K .normal st'->awpS P n [.code (.region id all false)] st K) (U:keep.all (fun i=>((look st'.t i).view st'.H).lt 0)=true)
  (hQ:∀a' E',E.w.grownBy E'.w none->E'.Fr=E.Fr->E'.H=[]->SR E' n ⟨zov keep st',[]⟩ a' E'->(∀i∈fr,a'.tmps.getD i undef=a.tmps.getD i undef)->Q .normal a' E'.w)
  (ab:z4y all.toList fr=true:=by kernel_rfl) (ae:okD n.n all=true:=by kernel_rfl):(Code.region id all false).wpIn (FF ro) nn P Q a E.w:=by
 refine wpIn_region ?_
 have af:SR E n st a E:=⟨I.len,by rw[I.H,hH];exact Waf _,I.defers,I.tm,I.H,I.rel,Trans.refl E⟩
 rw[<-Wba (List.range all.size)];refine zx4 (K:=fun s=>Ex.normal=.normal/\s=st') [] (z4g ae) (List.range all.size) all.toList (by simp) (fun k i U=>?_) st a E af (h (fun e s=>e=.normal/\s=st') ⟨rfl,rfl⟩) ?_
 ·have ad:=(Wag.1 U).1
  simp at ad;simp[ad]at U;subst U;simp
 rintro _ a' E' ⟨_,rfl⟩ aa hf;refine hQ a' E'.shut (show E.w.grownBy E'.w none from z21 aa.tr (by rw[I.H,hH])) aa.tr.fr rfl (aa.seen keep U) fun i hi=>hf i fun o ho=>?_;simp only[z4y,Wak]at ab;simpa using ab o ho i hi
theorem ydm {ro:Option Nat} {nn m l:Nat} {P:Program} {o:Oper} {f x:Operand} {aa:Array TypeId} (I:o.op=.call {callee:=.value f,args:= #[x],argTypes:=aa}) {a:Act} {w:World} {xv:Value} {R:Ending->World->Prop} (hf:a.eval f=.func (.yield l) #[] #[]) (hx:a.eval x=xv)
  (hy:YieldAt Fence.wide m P l #[xv] w R) {next:Act->World->Prop} {Q:Exit->Act->World->Prop} (hR:∀e w',R e w'->∃b,e=.returned (.bool b)/\next (a.put o.dst (.bool b)) w'):o.wpIn (FF ro) nn P a w next Q:=by
 obtain⟨fn,tmps,ab,body,h1,h2⟩:=hy;refine⟨fun _ _=>trivial,?_⟩;rw[Oper.semAt_eq _ _ _ (by simp[I])]
 have U:(execOp a.eval o).run P w=.ok (.round l fn tmps ab body) w:=by
  simp[execOp,I,resolve,hf,hx,Deferred.ofValue,invoke,h1]
 rw[U];refine⟨fun e=>(by cases e),z8y (h2.mono ?_)⟩;rintro e w' hr;obtain⟨b,rfl,hn⟩:=hR e w' hr;exact hn
structure KR (cal:World->Nat->Prop) (A B:World):Prop where
 os:B.os=A.os
 tape:B.tape=A.tape
 output:B.output=A.output
 size:A.heap.size<=B.heap.size
 free:∀b,b<A.heap.size->¬cal A b->¬cal B b
 cell:∀(a:Addr) v,¬cal A a.block->A.cell? a=some v->B.cell? a=some v
 wf:(∀b,cal A b->b<A.heap.size)->∀b,cal B b->b<B.heap.size
theorem yc4 {w:World} {a:Addr} {v:Value} (h:w.cell? a=some v):a.block<w.heap.size:=World.block_lt_of_cell? w a h
theorem KR.refl (cal:World->Nat->Prop) (A:World):KR cal A A:=⟨rfl,rfl,rfl,Wae _,fun _ _ h=>h,fun _ _ _ h=>h,fun h=>h⟩
theorem KR.trans {cal:World->Nat->Prop} {A B C:World} (h:KR cal A B) (k:KR cal B C):KR cal A C:=
 ⟨k.os.trans h.os,k.tape.trans h.tape,k.output.trans h.output,WaF h.size k.size,fun b hb hc=>k.free b (War hb h.size) (h.free b hb hc),fun a v hc hv=>k.cell a v (h.free _ (yc4 hv) hc) (h.cell a v hc hv),fun hw=>k.wf (h.wf hw)⟩
structure Host (cal:World->Nat->Prop) (N0:Nat):Prop where
 stab:∀W W':World,N0<=W.heap.size->W.grownBy W' none->∀b,cal W' b->cal W b
theorem KR.grown {cal:World->Nat->Prop} {N0:Nat} (I:Host cal N0) {A B:World} (hn:N0<=A.heap.size) (h:A.grownBy B none):KR cal A B:=
 ⟨h.os,h.tape,h.output,h.size,fun b _ hc hb=>hc (I.stab A B hn h b hb),fun a v _ hv=>h.cell hv (by simp),fun hw b hb=>War (hw b (I.stab A B hn h b hb)) h.size⟩
structure At (cal:World->Nat->Prop) (N0:Nat) (E:Env):Prop where
 rel:HRel E
 H:E.H=[]
 fr:∀b,cal E.w b->E.Fr b
 n0:N0<=E.w.heap.size
theorem At.grow {cal:World->Nat->Prop} {N0:Nat} (I:Host cal N0) {E E':Env} (h:At cal N0 E) (g:E.w.grownBy E'.w none) (U:E'.Fr=E.Fr) (hH:E'.H=[]) (hr:HRel E'):At cal N0 E':=
 ⟨hr,hH,fun b hb=>by rw[U];exact h.fr b (I.stab _ _ h.n0 g b hb),WaF h.n0 g.size⟩
def Env.host (E:Env) (cal:World->Nat->Prop) (W:World):Env:=⟨W,fun b=>b<W.heap.size/\(E.Fr b\/cal W b),E.bd,[]⟩
theorem At.host {cal:World->Nat->Prop} {N0:Nat} {E:Env} (h:At cal N0 E) {W:World} (k:KR cal E.w W):At cal N0 (E.host cal W)/\Mv E (E.host cal W):=by
 have t:Mv E (E.host cal W):=by
  refine⟨h.H.symm,rfl,fun b hb=>⟨War hb.1 k.size,?_,by rintro⟨id,o,I,_⟩;simp[Env.host]at I⟩,fun a v hf hv=>k.cell a v (fun hc=>hf.2.1 (h.fr _ hc)) hv⟩
  rintro⟨_,U|U⟩
  ·exact hb.2.1 U
  ·exact k.free b hb.1 (fun hc=>hb.2.1 (h.fr b hc)) U
 exact⟨⟨h.rel.mv t (fun id o I=>by simp[h.H]at I) (fun b hb=>hb.1) (fun id o I=>by simp[h.H]at I),rfl,fun b hb=>⟨k.wf (fun b hb=>h.rel.frlt b (h.fr b hb)) b hb,.inr hb⟩,WaF h.n0 k.size⟩,t⟩
theorem SR.host {I E E':Env} {n:Cf} {st:St} {a:Act} (h:SR I n st a E) (t:Mv E E') (hr:HRel E') (U:E'.H=[]):SR E' n st a E':=
 ⟨h.len,by rw[U];exact Waf _,h.defers,fun i=>(h.tm i).mv t,by rw[t.H];exact h.H,hr,Trans.refl _⟩
theorem yc5 {P:Program} {f:FuncId} {fn:Func} {args:Array Value} {w:World} {R:Ending->World->Prop} {Q:Exit->Act->World->Prop} (nn:Nat) (hf:P.funcs[f]? =some fn) (hb:fn.body.isSome=true) (h:∀c a,fn.body=some c->a=({tmps:=args++Array.replicate (fn.ntmps-args.size) undef,defers:=[]}:Act)->c.wpIn (FF none) nn P Q a w)
  (hQ:∀e I w',Q e I w'->(e=.ret\/e=.normal)/\I.defers=[]/\∃v,(results fn I.tmps).run P w'=.ok v w'/\R (.returned v) w'):Calls P f args w R:=by
 obtain⟨c,hc⟩:=Wb3.1 hb;refine calls_of_wp hf hc (wp_mono ((wpIn_wide (n:=nn)).1 (h c _ hc rfl)) ?_);rintro e I w' hq
 obtain⟨rfl|rfl,U,v,hv,hr⟩:=hQ e I w' hq
 ·exact⟨U,v,hv,hr⟩
 ·exact⟨U,v,hv,hr⟩
theorem z0g {ro:Option Nat} {nn i:Nat} {P:Program} {ops:Array Oper} {Q:Exit->Act->World->Prop} {l:List Nat} {a:Act} {w:World} {o:Oper} {v:Value} (U:ops[i]? =some o) (hg:o.guard=none) (I:zvv o.op=true) (hr:(execOp a.eval o).run P w=.ok (.value v) w)
  (h:wpOpsIn (FF ro) nn P ops Q l (a.put o.dst v) w):wpOpsIn (FF ro) nn P ops Q (i::l) a w:=by
 simp only[wpOpsIn,U,Region.wanted,hg,if_true];refine⟨fun _ _=>trivial,?_⟩;rw[Oper.semAt_eq _ _ _ (by intro c e;rw[e]at I;cases I),hr];exact h
theorem zl7 {ro:Option Nat} {nn i:Nat} {P:Program} {ops:Array Oper} {Q:Exit->Act->World->Prop} {l:List Nat} {a:Act} {w:World} {o:Oper} {x:Operand} (U:ops[i]? =some o) (hg:o.guard=none) (I:o.op=.move x\/o.op=.assign x)
  (h:wpOpsIn (FF ro) nn P ops Q l (a.put o.dst (a.eval x)) w):wpOpsIn (FF ro) nn P ops Q (i::l) a w:=by
 refine z0g U hg (by rcases I with e|e<;>rw[e]<;>rfl) ?_ h
 rcases I with e|e<;>simp[execOp,e]
theorem z5t {ro:Option Nat} {nn i m l0:Nat} {P:Program} {ops:Array Oper} {Q:Exit->Act->World->Prop} {l:List Nat} {a:Act} {w:World} {o:Oper} {f x:Operand} {I:Array TypeId} {U:Value} {R:Ending->World->Prop} (ho:ops[i]? =some o) (hg:o.guard=none)
  (aa:o.op=.call {callee:=.value f,args:= #[x],argTypes:=I}) (hf:a.eval f=.func (.yield l0) #[] #[]) (hx:a.eval x=U) (hy:YieldAt Fence.wide m P l0 #[U] w R)
  (h:∀e w',R e w'->∃b,e=.returned (.bool b)/\wpOpsIn (FF ro) nn P ops Q l (a.put o.dst (.bool b)) w'):wpOpsIn (FF ro) nn P ops Q (i::l) a w:=by
 simp only[wpOpsIn,ho,Region.wanted,hg,if_true];exact ydm aa hf hx hy h
theorem z1t {ro:Option Nat} {nn i g:Nat} {P:Program} {ops:Array Oper} {Q:Exit->Act->World->Prop} {l:List Nat} {a:Act} {w:World} {o:Oper} {args:Array Operand} {U:Array TypeId} {R:Ending->World->Prop} (ho:ops[i]? =some o) (hg:o.guard=none)
  (I:o.op=.call {callee:=.value (.func g),args:=args,argTypes:=U}) (aa:∃fn,P.funcs[g]? =some fn/\(fn.name== "runtime.NumGoroutine")=false/\fn.body.isNone=false) (hc:Calls P g (args.map a.eval) w R)
  (h:∀e w',R e w'->∃v,e=.returned v/\wpOpsIn (FF ro) nn P ops Q l (a.put o.dst v) w'):wpOpsIn (FF ro) nn P ops Q (i::l) a w:=by
 simp only[wpOpsIn,ho,Region.wanted,hg,if_true];refine⟨fun _ _=>trivial,?_⟩
 rw[Oper.semAt_eq _ _ _ (by simp[I]),zv2 I (show a.eval (.func g)=.func (.func g) #[] #[]from rfl) aa]
 simp only[Array.append_empty];refine⟨fun e=>(by cases e),z11 (hc.mono ?_)⟩;rintro e w' hr;obtain⟨v,rfl,h2⟩:=h e w' hr;exact h2
theorem zk7 {a:Act} {d:Tmp} {v:Value} (h:d<a.tmps.size):(a.put (some d) v).tmps.getD d undef=v:=by
 rw[zny h,if_pos rfl]
theorem yex {ro:Option Nat} {nn l0:Nat} {P:Program} {all:Array Oper} {n:Cf} {E0:Env} {a:Act} {E:Env} {T:List (Nat×V)} {Q:Exit->Act->World->Prop} {U oy:Oper} {I aa:Tmp} {aj:Array TypeId} {x:Int} (hs:SR E0 n ⟨T,[]⟩ a E) (h2:a.tmps.getD 2 undef=.func (.yield l0) #[] #[])
  (l:List Nat) (iy:Nat) (l2:List Nat) (keep:List Nat) {st':St} (e0:all[0]? =some U) (p0:U.op=.move (.tmp 2)) (d0:U.dst=some I) (g0:U.guard=none) (ey:all[iy]? =some oy) (py:oy.op=.call {callee:=.value (.tmp I),args:= #[.tmp aa],argTypes:=aj}) (gy:oy.guard=none)
  (hn:I<n.n/\I≠2) (h:∀K:Ex->St->Prop,K .normal st'->awpS P n [.ops all (zn4 all l)] ⟨(I,.un)::T,[]⟩ K) (hk:keep.all (fun i=>((look st'.t i).view st'.H).lt 0)=true) (hx:look (zov keep st') aa=.one (.int .i64 x))
  (hq:∀a' E',SR E' n ⟨zov keep st',[]⟩ a' E'->E.w.grownBy E'.w none->E'.Fr=E.Fr->E'.H=[]->a'.tmps.getD 2 undef=.func (.yield l0) #[] #[]->(IntKind.i64.min<=x/\x<=IntKind.i64.max)->∃m R,YieldAt Fence.wide m P l0 #[.int .i64 x] E'.w R/\∀e w',R e w'->∃b,e=.returned (.bool b)/\wpOpsIn (FF ro) nn P all Q l2 (a'.put oy.dst (.bool b)) w')
  (hl:(zn4 all l).length=l.length:=by kernel_rfl) (ak:z4y (zn4 all l) [2,I]=true:=by kernel_rfl) (al:okD n.n all=true:=by kernel_rfl):wpOpsIn (FF ro) nn P all Q (0::(l++(iy::l2))) a E.w:=by
 refine zl7 e0 g0 (.inl p0) ?_
 have ad:=hs.put (o:=U) (fun d hd=>by rw[d0]at hd;cases hd;exact hn.1) (x:=.un) (v:=a.eval (.tmp 2)) .un hs.H hs.rel (Trans.refl E)
 have q2:(a.put U.dst (a.eval (.tmp 2))).tmps.getD 2 undef=.func (.yield l0) #[] #[]:=by
  rw[zf6 (by rw[d0];simpa using hn.2)];exact h2
 have ae:(a.put U.dst (a.eval (.tmp 2))).tmps.getD I undef=.func (.yield l0) #[] #[]:=by
  rw[d0,zk7 (War hn.1 hs.len)];exact h2
 rw[d0]at ad q2 ae|-;refine z5s ad rfl l (iy::l2) keep [2,I] h hk (fun a' E' g f H af ab=>?_) hl ak al
 have r2:=(ab 2 (by simp)).trans q2
 have an:=(ab I (by simp)).trans ae
 have ai:a'.eval (.tmp aa)=.int .i64 x/\(IntKind.i64.min<=x/\x<=IntKind.i64.max):=by
  have:=af.tm aa
  rw[hx]at this;exact int_inv (one_inv this)
 obtain⟨m,R,hy,hR⟩:=hq a' E' af g f H r2 ai.2;exact z5t ey gy py an ai.1 hy hR
theorem zz2 {F:Fence} {n:Nat} {P:Program} {x y:Code} {Q:Exit->Act->World->Prop} {a:Act} {w:World} (G:Act->World->Prop) (h1:∀K:Act->World->Prop,(∀a w,G a w->K a w)->x.wpIn F n P (Exit.then K Q) a w) (h2:∀a w,G a w->y.wpIn F n P Q a w):(x.seq y).wpIn F n P Q a w:=
 wpIn_seq (h1 _ fun a w I=>h2 a w I)
theorem zn5 {F:Fence} {nn:Nat} {P:Program} {ops:Array Oper} {Q:Exit->Act->World->Prop} {a:Act} {w:World} (h:Q .normal a w):wpOpsIn F nn P ops Q [] a w:=h
theorem yer {T:List (Nat×V)} {keep:List Nat} {i:Nat}:look (keep.map fun i=>(i,look T i)) i=if keep.contains i then look T i else .un:=by
 induction keep with
 |nil=>rfl
 |cons k ks I=>
  simp only[Wbg,zfb,Wcd];split
  ·rename_i e;subst e;simp
  ·rename_i e
   rw[I]
   have:(i==k)=false:=by simp;exact fun h=>e h.symm
   simp[this]
theorem SR.sub {ctx:Env} {n:Cf} {T:List (Nat×V)} {H:List O} {a:Act} {E:Env} (h:SR ctx n ⟨T,H⟩ a E) (keep:List Nat):SR ctx n ⟨keep.map fun i=>(i,look T i),H⟩ a E:=
 ⟨h.len,h.hm,h.defers,fun i=>by rw[yer];split;exact h.tm i;exact .un,h.H,h.rel,h.tr⟩
theorem SR.put1 {ctx:Env} {n:Cf} {T:List (Nat×V)} {a:Act} {E:Env} (h:SR ctx n ⟨T,[]⟩ a E) {d:Tmp} (I:d<n.n) {x:V} {v:Value} (U:VRel E x v):SR ctx n ⟨(d,x)::T,[]⟩ (a.put (some d) v) E:=
 h.put (o:={dst:=some d,op:=.move (.tmp 0),type:=0,pos:= "",after:= #[],guard:=none}) (fun _ e=>by cases e;exact I) U h.H h.rel (Trans.refl E)
theorem yli {E:Env} {rows:List (List C)} {v:Value} (h:VRel E (.one (.sl rows)) v):rows.length<=281474976710656:=by
 cases (one_inv h)with
 |sl vals sz hn hcap hlim hsz hb hv=>exact hlim
end Go.Lz

end
section
namespace Go.Lz
open Go.Proofs
attribute [-go_sem] zl6 g_b gd_b
set_option maxRecDepth 100000
set_option maxHeartbeats 400000
def z8o (f:xtn->Option (List Int)):List xtn->Option (List Int)
 |[]=>some []
 |x::xs=>(f x).bind fun a=>(z8o f xs).map (a++·)
noncomputable def zui (d:flow_desk):Nat->xtn->Option (List Int)
 |0,_=>none
 |k+1,e=>if e.Op=2 then(zlo d.p e.Name).map fun v=>[v]else if e.Op=4 then(zm2 d e.Name).map fun v=>[v]else if e.Op=21 then(zp3 d e.Name).map fun v=>[v]else
  (if e.Op=3 then(zlo d.p e.Name).map fun v=>[v]else some []).bind fun a=>(z8o (zui d k) e.Args).map (a++·)
def ygs (f:FuncId) (dv ev:List C) (atoms:List Int):Prop:=
 ∀(cal:World->Nat->Prop) (N0 N l m:Nat) (J Jx:List Int->World->Prop) (B:Nat),Host cal N0->AbidesFrom B J->
  (∀pre x U,(IntKind.i64.min<=x/\x<=IntKind.i64.max)->J pre U->pre.length<N->YieldAt Fence.wide m prog l #[.int .i64 x] U fun e W'=>(e=.returned (.bool true)/\J (pre++[x]) W'/\KR cal U W')\/(e=.returned (.bool false)/\Jx (pre++[x]) W'))->
  ∀(pre:List Int) (E:Env) (v0 v1:Value),At cal N0 E->VRel E (.agg dv) v0->VRel E (.agg ev) v1->J pre E.w->pre.length+atoms.length<=N->
   Calls prog f #[v0,v1,.func (.yield l) #[] #[]] E.w fun e w'=>(e=.returned (.bool true)/\J (pre++atoms) w'/\KR cal E.w w')\/(e=.returned (.bool false)/\∃I,(∃s,I++s=pre++atoms)/\Jx I w')
theorem ygx:∀(k:Nat) (d:flow_desk) (e:xtn) (atoms:List Int),zui d k e=some atoms->ygs 194 (zaq d) (xto e) atoms:=by
 intro k
 induction k with
 |zero=>intro d e atoms h;cases h
 |succ k ih=>
 intro d e atoms h cal N0 N l m J Jx B hh hJ ar pre E v0 v1 ay h0 h1 hj hN
 have F:=trivial;have R:=trivial
 refine yc5 4 func194 rfl (Q:=fun e' a' w'=>e'=.ret/\a'.defers=[]/\∃b,a'.tmps.getD 6 undef=.bool b/\((b=true/\J (pre++atoms) w'/\KR cal E.w w')\/(b=false/\∃I,(∃s,I++s=pre++atoms)/\Jx I w'))) ?_ ?_
 case refine_2=>
  rintro _ a' w' ⟨rfl,hd,b,hb,hr⟩;refine⟨.inl rfl,hd,.bool b,by simp[results,f194];simpa using hb,?_⟩
  rcases hr with⟨rfl,h1,h2⟩|⟨rfl,h1⟩
  ·exact .inl ⟨rfl,h1,h2⟩
  ·exact .inr ⟨rfl,h1⟩
 intro c a hc ha
 have hs:SR E ⟨59,0⟩ ⟨zm7 0 [.agg (zaq d),.agg (xto e),.un],[]⟩ a E:=by
  have:=z2i ay.rel (args:=[.agg (zaq d),.agg (xto e),.un]) (vs:= #[v0,v1,.func (.yield l) #[] #[]]) 59 rfl (fun j x hx=>by
   match j with
   |0=>simp at hx;subst hx;exact h0
   |1=>simp at hx;subst hx;exact h1
   |2=>simp at hx;subst hx;exact .un
   |j+3=>simp at hx)
  rw[ay.H]at this;rw[ha];exact this
 have y0:a.tmps.getD 2 undef=.func (.yield l) #[] #[]:=by rw[ha];simp[f194]
 clear ha;simp only[f194,WaP]at hc;subst hc;refine wpIn_seq (regY (ro:=none) hs rfl [3,4] [2] (st':= ?s1) ?h1 ?v1 ?q1)
 case h1=>
  intro K kk;refine tt ?_;exact kk
 case v1=>simp[go_sem,Nat.reduceAdd,Nat.reduceMul,Nat.reduceLeDiff,Nat.reduceEqDiff,Nat.reduceLT,Int.reduceLE,Int.reduceLT,Int.reduceNeg,Int.reduceEq,Int.reduceAdd,Int.reduceSub,Int.reduceToNat,reduceCtorEq,↓reduceIte]
 case q1=>
 intro a1 E1 g1 f1 H1 au y1
 have au:SR E1 ⟨59,0⟩ ⟨[(3,.one (.iptr (zaq d) 0)),(4,.one (.iptr (xto e) 0))],[]⟩ a1 E1:=by simpa [go_sem,Nat.reduceAdd,Nat.reduceMul,Nat.reduceLeDiff,Nat.reduceEqDiff,Nat.reduceLT,Int.reduceLE,Int.reduceLT,Int.reduceNeg,Int.reduceEq,Int.reduceAdd,Int.reduceSub,Int.reduceToNat,reduceCtorEq,↓reduceIte,zov]using au
 have t1:At cal N0 E1:=ay.grow hh g1 f1 H1 au.rel
 have j1:J pre E1.w:=hJ _ _ _ none hj g1 (fun r e=>by cases e)
 have k1:KR cal E.w E1.w:=.grown hh ay.n0 g1
 have y1:=(y1 2 (by simp)).trans y0
 refine zz2 (fun a4 w4=>∃(E4:Env) (ak rest:List Int),E4.w=w4/\At cal N0 E4/\J ak w4/\KR cal E.w w4/\SR E4 ⟨59,0⟩ ⟨[(3,.one (.iptr (zaq d) 0)),(4,.one (.iptr (xto e) 0))],[]⟩ a4 E4/\a4.tmps.getD 2 undef=.func (.yield l) #[] #[]/\z8o (zui d k) e.Args=some rest/\ak++rest=pre++atoms) (fun K hK=>?_) ?tail
 case tail=>
  rintro a4 _ ⟨E4,ak,rest,rfl,t4,j4,k4,aG,y4,ai,aB⟩;refine zz2 (fun a9 w9=>J (pre++atoms) w9/\KR cal E.w w9/\a9.defers=[]/\59<=a9.tmps.size) (fun K2 aL=>?_) ?tail2
  case tail2=>
   rintro a9 w9 ⟨h1,h2,h3,h4⟩;refine wpIn_seq (wpIn_region ?_)
   show wpOpsIn (FF none) 4 prog _ _ [0] _ _
   refine zl7 rfl rfl (.inr rfl) (zn5 (wpIn_ret ⟨rfl,h3,true,?_,.inl ⟨rfl,h1,h2⟩⟩))
   show(a9.put (some 6) (.bool true)).tmps.getD 6 undef=.bool true
   exact zk7 (show 6<a9.tmps.size by omega)
  refine wpIn_seq (regY (ro:=none) aG rfl [3,4,47,48,49] [2] (st':= ?sA) ?hA ?vA ?qA)
  case hA=>
   intro K kk;refine tt ?_;intro _;exact kk
  case vA=>simp[go_sem,Nat.reduceAdd,Nat.reduceMul,Nat.reduceLeDiff,Nat.reduceEqDiff,Nat.reduceLT,Int.reduceLE,Int.reduceLT,Int.reduceNeg,Int.reduceEq,Int.reduceAdd,Int.reduceSub,Int.reduceToNat,reduceCtorEq,↓reduceIte]
  case qA=>
  intro a5 E5 g5 f5 H5 ad y5
  have ad:SR E5 ⟨59,0⟩ ⟨[(3,.one (.iptr (zaq d) 0)),(4,.one (.iptr (xto e) 0)),(47,.one (.sl (e.Args.map xto))),(48,.one (.int .i64 (e.Args.length:Int))),(49,.one (.int .i64 0))],[]⟩ a5 E5:=by simpa [go_sem,Nat.reduceAdd,Nat.reduceMul,Nat.reduceLeDiff,Nat.reduceEqDiff,Nat.reduceLT,Int.reduceLE,Int.reduceLT,Int.reduceNeg,Int.reduceEq,Int.reduceAdd,Int.reduceSub,Int.reduceToNat,reduceCtorEq,↓reduceIte,zov]using ad
  have t5:At cal N0 E5:=t4.grow hh g5 f5 H5 ad.rel
  have j5:J ak E5.w:=hJ _ _ _ none j4 g5 (fun r e=>by cases e)
  have k5:KR cal E.w E5.w:=k4.trans (.grown hh t4.n0 g5)
  have y5:=(y5 2 (by simp)).trans y4
  clear aG t4 j4 k4 y4 g5 f5 H5
  refine wpIn_block (wpIn_loop (fun a6 w6=>∃(i:Nat) (E6:Env) (pre6 aq:List Int),E6.w=w6/\i<=e.Args.length/\At cal N0 E6/\J pre6 w6/\KR cal E.w w6/\SR E6 ⟨59,0⟩ ⟨[(3,.one (.iptr (zaq d) 0)),(4,.one (.iptr (xto e) 0)),(47,.one (.sl (e.Args.map xto))),(48,.one (.int .i64 (e.Args.length:Int))),(49,.one (.int .i64 (i:Int)))],[]⟩ a6 E6/\a6.tmps.getD 2 undef=.func (.yield l) #[] #[]/\z8o (zui d k) (e.Args.drop i)=some aq/\pre6++aq=pre++atoms)
   (fun a6 _=>match a6.tmps.getD 49 undef with|.int _ i=>e.Args.length-i.toNat|_=>0) ⟨0,E5,ak,rest,rfl,Waf _,t5,j5,k5,ad,y5,ai,aB⟩ ?_)
  rintro a6 _ ⟨i,E6,pre6,aq,rfl,hi,t6,j6,k6,aC,y6,an,ao⟩
  have m6:a6.tmps.getD 49 undef=.int .i64 (i:Int):=(int_inv (one_inv (aC.tm 49))).1
  simp only[m6];clear m6 ad t5 j5 k5 y5 ai aB;refine wpIn_seq (regY (ro:=none) aC rfl [3,4,47,48,49,50] [2] (st':= ?sB) ?hB ?vB ?qB)
  case hB=>
   intro K kk;refine tt ?_;exact kk
  case vB=>simp[go_sem,Nat.reduceAdd,Nat.reduceMul,Nat.reduceLeDiff,Nat.reduceEqDiff,Nat.reduceLT,Int.reduceLE,Int.reduceLT,Int.reduceNeg,Int.reduceEq,Int.reduceAdd,Int.reduceSub,Int.reduceToNat,reduceCtorEq,↓reduceIte]
  case qB=>
  intro a7 E7 g7 f7 H7 aa y7
  have aa:SR E7 ⟨59,0⟩ ⟨[(3,.one (.iptr (zaq d) 0)),(4,.one (.iptr (xto e) 0)),(47,.one (.sl (e.Args.map xto))),(48,.one (.int .i64 (e.Args.length:Int))),(49,.one (.int .i64 (i:Int))),(50,.one (.bool (decide ((i:Int)<(e.Args.length:Int)))))],[]⟩ a7 E7:=by simpa [go_sem,Nat.reduceAdd,Nat.reduceMul,Nat.reduceLeDiff,Nat.reduceEqDiff,Nat.reduceLT,Int.reduceLE,Int.reduceLT,Int.reduceNeg,Int.reduceEq,Int.reduceAdd,Int.reduceSub,Int.reduceToNat,reduceCtorEq,↓reduceIte,zov]using aa
  have t7:At cal N0 E7:=t6.grow hh g7 f7 H7 aa.rel
  have j7:J pre6 E7.w:=hJ _ _ _ none j6 g7 (fun r e=>by cases e)
  have k7:KR cal E.w E7.w:=k6.trans (.grown hh t6.n0 g7)
  have y7:=(y7 2 (by simp)).trans y6
  have c7:a7.eval (.tmp 50)=.bool (decide ((i:Int)<(e.Args.length:Int))):=bool_inv (one_inv (aa.ρ (.tmp 50)))
  clear aC t6 j6 k6 y6 g7 f7 H7
  by_cases aD:i<e.Args.length
  case neg=>
   refine wpIn_seq (wpIn_cond (t:=false) (by rw[c7];simp;omega) (wpIn_exit ?_))
   have e1:e.Args.drop i=[]:=Wbx (by omega)
   rw[e1]at an;obtain rfl:=Wab an;rw[Wba]at ao;exact aL _ _ ⟨ao▸j7,k7,aa.defers,aa.len⟩
  case pos=>
  refine wpIn_seq (wpIn_cond (t:=true) (by rw[c7];simp;omega) (wpIn_skip ?_))
  have hx:e.Args[i]? =some e.Args[i]:=Wac aD
  rw[Wa3 aD]at an;obtain⟨ax,aH,an⟩:=Wbk.1 an;obtain⟨az,aM,aE⟩:=Wal.1 an
  generalize aZ:e.Args[i]=x at hx aH
  have hlen:=yli (aa.tm 47)
  have F:=And.intro (show e.Args.length<=281474976710656 by simpa using hlen) (And.intro (z4i hx) F)
  refine zz2 (fun a9 w9=>∃(E9:Env),E9.w=w9/\At cal N0 E9/\J (pre6++ax) w9/\KR cal E.w w9/\SR E9 ⟨59,0⟩ ⟨[(3,.one (.iptr (zaq d) 0)),(4,.one (.iptr (xto e) 0)),(47,.one (.sl (e.Args.map xto))),(48,.one (.int .i64 (e.Args.length:Int))),(49,.one (.int .i64 (i:Int)))],[]⟩ a9 E9/\a9.tmps.getD 2 undef=.func (.yield l) #[] #[]) (fun K3 aN=>?_) ?tail3
  case tail3=>
   rintro a9 _ ⟨E9,rfl,t9,j9,k9,ab,y9⟩;refine regY (ro:=none) ab rfl [3,4,47,48,49] [2] (st':= ?sC) ?hC ?vC ?qC
   case hC=>
    intro K kk;refine tt ?_;refine wn i F fun F=>?_;refine tt ?_;exact kk
   case vC=>simp[go_sem,Nat.reduceAdd,Nat.reduceMul,Nat.reduceLeDiff,Nat.reduceEqDiff,Nat.reduceLT,Int.reduceLE,Int.reduceLT,Int.reduceNeg,Int.reduceEq,Int.reduceAdd,Int.reduceSub,Int.reduceToNat,reduceCtorEq,↓reduceIte]
   case qC=>
    intro aA EA gA fA HA aj yA
    have aj:SR EA ⟨59,0⟩ ⟨[(3,.one (.iptr (zaq d) 0)),(4,.one (.iptr (xto e) 0)),(47,.one (.sl (e.Args.map xto))),(48,.one (.int .i64 (e.Args.length:Int))),(49,.one (.int .i64 ((i+1:Nat):Int)))],[]⟩ aA EA:=by simpa [go_sem,Nat.reduceAdd,Nat.reduceMul,Nat.reduceLeDiff,Nat.reduceEqDiff,Nat.reduceLT,Int.reduceLE,Int.reduceLT,Int.reduceNeg,Int.reduceEq,Int.reduceAdd,Int.reduceSub,Int.reduceToNat,reduceCtorEq,↓reduceIte,zov]using aj
    have mA:aA.tmps.getD 49 undef=.int .i64 ((i+1:Nat):Int):=(int_inv (one_inv (aj.tm 49))).1
    refine⟨⟨i+1,EA,pre6++ax,az,rfl,by omega,t9.grow hh gA fA HA aj.rel,hJ _ _ _ none j9 gA (fun r e=>by cases e),k9.trans (.grown hh t9.n0 gA),aj,(yA 2 (by simp)).trans y9,aM,by rw[<-ao,<-aE];simp⟩,?_⟩;simp only[mA];omega
  refine wpIn_block (wpIn_seq (regY (ro:=none) aa rfl [3,4,47,48,49,8] [2] (st':= ?sD) ?hD ?vD ?qD))
  case hD=>
   intro K kk;refine tt ?_;exact kk
  case vD=>simp[go_sem,Nat.reduceAdd,Nat.reduceMul,Nat.reduceLeDiff,Nat.reduceEqDiff,Nat.reduceLT,Int.reduceLE,Int.reduceLT,Int.reduceNeg,Int.reduceEq,Int.reduceAdd,Int.reduceSub,Int.reduceToNat,reduceCtorEq,↓reduceIte]
  case qD=>
  intro a8 E8 g8 f8 H8 av y8
  have av:SR E8 ⟨59,0⟩ ⟨[(3,.one (.iptr (zaq d) 0)),(4,.one (.iptr (xto e) 0)),(47,.one (.sl (e.Args.map xto))),(48,.one (.int .i64 (e.Args.length:Int))),(49,.one (.int .i64 (i:Int))),(8,.one (.iptr (xto x) 0))],[]⟩ a8 E8:=by simpa [go_sem,Nat.reduceAdd,Nat.reduceMul,Nat.reduceLeDiff,Nat.reduceEqDiff,Nat.reduceLT,Int.reduceLE,Int.reduceLT,Int.reduceNeg,Int.reduceEq,Int.reduceAdd,Int.reduceSub,Int.reduceToNat,reduceCtorEq,↓reduceIte,zov]using av
  have t8:At cal N0 E8:=t7.grow hh g8 f8 H8 av.rel
  have j8:J pre6 E8.w:=hJ _ _ _ none j7 g8 (fun r e=>by cases e)
  have k8:KR cal E.w E8.w:=k7.trans (.grown hh t7.n0 g8)
  have y8:=(y8 2 (by simp)).trans y7
  clear aa t7 j7 k7 y7 c7 g8 f8 H8;refine wpIn_seq (wpIn_region ?_)
  show wpOpsIn (FF none) 4 prog _ _ ([0,1]++[2,3,4]) a8 E8.w
  refine z5s av rfl [0,1] [2,3,4] [3,4,47,48,49,53,54] [2] (st':= ?sE) ?hE ?vE ?qE
  case hE=>
   intro K kk;simp only[zn4,WbH,WbR,Wa6,WaK,Wat];refine tt ?_;exact kk
  case vE=>simp[go_sem,Nat.reduceAdd,Nat.reduceMul,Nat.reduceLeDiff,Nat.reduceEqDiff,Nat.reduceLT,Int.reduceLE,Int.reduceLT,Int.reduceNeg,Int.reduceEq,Int.reduceAdd,Int.reduceSub,Int.reduceToNat,reduceCtorEq,↓reduceIte]
  case qE=>
  intro a9 E9 g9 f9 H9 ab y9
  have ab:SR E9 ⟨59,0⟩ ⟨[(3,.one (.iptr (zaq d) 0)),(4,.one (.iptr (xto e) 0)),(47,.one (.sl (e.Args.map xto))),(48,.one (.int .i64 (e.Args.length:Int))),(49,.one (.int .i64 (i:Int))),(53,.agg (zaq d)),(54,.agg (xto x))],[]⟩ a9 E9:=by simpa [go_sem,Nat.reduceAdd,Nat.reduceMul,Nat.reduceLeDiff,Nat.reduceEqDiff,Nat.reduceLT,Int.reduceLE,Int.reduceLT,Int.reduceNeg,Int.reduceEq,Int.reduceAdd,Int.reduceSub,Int.reduceToNat,reduceCtorEq,↓reduceIte,zov]using ab
  have t9:At cal N0 E9:=t8.grow hh g9 f9 H9 ab.rel
  have j9:J pre6 E9.w:=hJ _ _ _ none j8 g9 (fun r e=>by cases e)
  have k9:KR cal E.w E9.w:=k8.trans (.grown hh t8.n0 g9)
  have y9:=(y9 2 (by simp)).trans y8
  clear av t8 j8 k8 y8 g9 f9 H9
  have hsz:59<=a9.tmps.size:=ab.len
  refine zl7 rfl rfl (.inl rfl) ?_
  have e2:a9.eval (.tmp 2)=.func (.yield l) #[] #[]:=y9
  rw[e2]
  show wpOpsIn (FF none) 4 prog _ _ [3,4] (a9.put (some 55) (.func (.yield l) #[] #[])) E9.w
  have hc:=ih d x ax aH cal N0 N l m J Jx B hh hJ ar pre6 E9 _ _ t9 (ab.tm 53) (ab.tm 54) j9 (by rw[<-aE]at ao;have:=congrArg List.length ao;simp at this;omega)
  have aj:=ab.put1 (d:=55) (by decide) (x:=.un) (v:=.func (.yield l) #[] #[]) .un
  have yA:(a9.put (some 55) (.func (.yield l) #[] #[])).tmps.getD 2 undef=.func (.yield l) #[] #[]:=by rw[zf6 (by simp)];exact y9
  have aI:(a9.put (some 55) (.func (.yield l) #[] #[])).eval (.tmp 55)=.func (.yield l) #[] #[]:=zk7 (show 55<a9.tmps.size by omega)
  have aJ:(a9.put (some 55) (.func (.yield l) #[] #[])).eval (.tmp 53)=a9.tmps.getD 53 undef:=zf6 (by simp)
  have aK:(a9.put (some 55) (.func (.yield l) #[] #[])).eval (.tmp 54)=a9.tmps.getD 54 undef:=zf6 (by simp)
  generalize a9.put (some 55) (.func (.yield l) #[] #[])=aA at aj yA aI aJ aK|-
  refine z1t rfl rfl rfl ⟨f194,func194,by kernel_rfl,by kernel_rfl⟩ (R:=fun e w'=>(e=.returned (.bool true)/\J (pre6++ax) w'/\KR cal E9.w w')\/(e=.returned (.bool false)/\∃I,(∃s,I++s=pre6++ax)/\Jx I w')) (by simpa [aJ,aK,aI]using hc) ?_;intro e' w' hr
  have hb:∃b,e'=.returned (.bool b)/\((b=true/\J (pre6++ax) w'/\KR cal E9.w w')\/(b=false/\∃I,(∃s,I++s=pre++atoms)/\Jx I w')):=by
   rcases hr with⟨rfl,h1,h2⟩|⟨rfl,h1⟩
   ·exact⟨true,rfl,.inl ⟨rfl,h1,h2⟩⟩
   ·obtain⟨q,⟨s,hs⟩,h2⟩:=h1
    exact⟨false,rfl,.inr ⟨rfl,q,⟨s++az,by rw[<-ao,<-aE,<-Wbl,hs,Wbl]⟩,h2⟩⟩
  obtain⟨b,rfl,hb⟩:=hb
  have aY:59<=aA.tmps.size:=aj.len
  have aO:(aA.put (some 56) (.bool b)).eval (.tmp 56)=.bool b:=zk7 (show 56<aA.tmps.size by omega)
  refine⟨.bool b,rfl,z0g (v:=.bool (!b)) rfl rfl rfl (by simp[execOp,aO];rfl) (zn5 ?_)⟩
  have aP:((aA.put (some 56) (.bool b)).put (some 57) (.bool (!b))).eval (.tmp 57)=.bool (!b):=zk7 (show 57<(aA.put (some 56) (.bool b)).tmps.size by simp only[Act.put,WbY];omega)
  refine wpIn_cond aP ?_
  rcases hb with⟨rfl,h1,h2⟩|⟨rfl,aF⟩
  ·simp only[Bool.not_true,WaD,if_false]
   obtain⟨tB,mv⟩:=t9.host h2
   have aQ:=(((aj.host mv tB.rel tB.H).put1 (d:=56) (by decide) (x:=.one (.bool true)) (.one .bool)).put1 (d:=57) (by decide) (x:=.one (.bool false)) (.one .bool)).sub [3,4,47,48,49]
   refine wpIn_skip (aN _ _ ⟨E9.host cal w',rfl,tB,h1,k9.trans h2,by simpa [go_sem,Nat.reduceAdd,Nat.reduceMul,Nat.reduceLeDiff,Nat.reduceEqDiff,Nat.reduceLT,Int.reduceLE,Int.reduceLT,Int.reduceNeg,Int.reduceEq,Int.reduceAdd,Int.reduceSub,Int.reduceToNat,reduceCtorEq,↓reduceIte]using aQ,?_⟩);rw[zf6 (by simp),zf6 (by simp)];exact yA
  ·simp only[WbN,if_true]
   refine wpIn_seq (wpIn_region ?_)
   show wpOpsIn (FF none) 4 prog _ _ [0] _ _
   refine zl7 rfl rfl (.inr rfl) (zn5 (wpIn_ret ⟨rfl,aj.defers,false,?_,.inr ⟨rfl,aF⟩⟩))
   show(((aA.put (some 56) (.bool false)).put (some 57) (.bool true)).put (some 6) (.bool false)).tmps.getD 6 undef=.bool false
   exact zk7 (show 6<((aA.put (some 56) (.bool false)).put (some 57) (.bool true)).tmps.size by simp only[Act.put,WbY];omega)
 refine wpIn_seq (regY (ro:=none) au rfl [3,4,10] [2] (st':= ?s2) ?h2 ?v2 ?q2)
 case h2=>
  intro K kk;refine tt ?_;exact kk
 case v2=>simp[go_sem,Nat.reduceAdd,Nat.reduceMul,Nat.reduceLeDiff,Nat.reduceEqDiff,Nat.reduceLT,Int.reduceLE,Int.reduceLT,Int.reduceNeg,Int.reduceEq,Int.reduceAdd,Int.reduceSub,Int.reduceToNat,reduceCtorEq,↓reduceIte]
 case q2=>
 intro a2 E2 g2 f2 H2 aw y2
 have aw:SR E2 ⟨59,0⟩ ⟨[(3,.one (.iptr (zaq d) 0)),(4,.one (.iptr (xto e) 0)),(10,.one (.int .i64 e.Op))],[]⟩ a2 E2:=by simpa [go_sem,Nat.reduceAdd,Nat.reduceMul,Nat.reduceLeDiff,Nat.reduceEqDiff,Nat.reduceLT,Int.reduceLE,Int.reduceLT,Int.reduceNeg,Int.reduceEq,Int.reduceAdd,Int.reduceSub,Int.reduceToNat,reduceCtorEq,↓reduceIte,zov]using aw
 have t2:At cal N0 E2:=t1.grow hh g2 f2 H2 aw.rel
 have j2:J pre E2.w:=hJ _ _ _ none j1 g2 (fun r e=>by cases e)
 have k2:KR cal E.w E2.w:=k1.trans (.grown hh t1.n0 g2)
 have y2:=(y2 2 (by simp)).trans y1
 clear hs au g1 g2 f1 f2 H1 H2 y1 j1 k1 t1 y0
 have ask:∀{x:Int} {I:List Int} {E':Env},(IntKind.i64.min<=x/\x<=IntKind.i64.max)->At cal N0 E'->J I E'.w->KR cal E.w E'.w->I.length<N->(∃s,(I++[x])++s=pre++atoms)->∃m R,YieldAt Fence.wide m prog l #[.int .i64 x] E'.w R/\∀e' w',R e' w'->∃b,e'=.returned (.bool b)/\
   ((b=true/\J (I++[x]) w'/\KR cal E.w w'/\At cal N0 (E'.host cal w')/\Mv E' (E'.host cal w'))\/(b=false/\∃I,(∃s,I++s=pre++atoms)/\Jx I w')):=by
  intro x I E' af ht hj hk hlen aR;refine⟨m,_,ar I x E'.w af hj hlen,?_⟩
  rintro e' w' (⟨rfl,h1,h2⟩|⟨rfl,h1⟩)
  ·obtain⟨a1,a2⟩:=ht.host h2
   exact⟨true,rfl,.inl ⟨rfl,h1,hk.trans h2,a1,a2⟩⟩
  ·exact⟨false,rfl,.inr ⟨rfl,_,aR,h1⟩⟩
 have single:∀{x:Int} {E3 E':Env} {n:Cf} {st:St} {a':Act} {d19:Tmp} {all:Array Oper} {Q:Exit->Act->World->Prop} {o7:Oper} {i7:Nat},(IntKind.i64.min<=x/\x<=IntKind.i64.max)->atoms=[x]->At cal N0 E3->J pre E3.w->KR cal E.w E3.w->SR E' n st a' E'->st.H=[]->E3.w.grownBy E'.w none->E'.Fr=E3.Fr->E'.H=[]->all[i7]? =some o7->o7.guard=none->o7.op=.assign (.tmp d19)->o7.dst=some 6->d19<n.n->6<n.n->
   (∀a3 w3 b,a3.defers=[]->a3.tmps.getD 6 undef=.bool b->((b=true/\J (pre++atoms) w3/\KR cal E.w w3)\/(b=false/\∃I,(∃s,I++s=pre++atoms)/\Jx I w3))->Q .normal a3 w3)->
   ∃m R,YieldAt Fence.wide m prog l #[.int .i64 x] E'.w R/\∀e' w',R e' w'->∃b,e'=.returned (.bool b)/\wpOpsIn (FF none) 4 prog all Q [i7] (a'.put (some d19) (.bool b)) w':=by
  intro x E3 E' n st a' d19 all Q o7 i7 af ae t2 j2 k2 U hH g f H' e7 g7 p7 d7 aS aT hQ
  have t3:At cal N0 E':=t2.grow hh g f H' U.rel
  obtain⟨m',R',hy,hR⟩:=ask (x:=x) af t3 (hJ _ _ _ none j2 g (fun r e=>by cases e)) (k2.trans (.grown hh t2.n0 g)) (by rw[ae]at hN;simp at hN;omega) ⟨[],by rw[ae];simp⟩;refine⟨m',R',hy,fun e' w' hr=>?_⟩;obtain⟨b,rfl,hb⟩:=hR e' w' hr;refine⟨b,rfl,zl7 e7 g7 (.inr p7) (hQ _ _ b (by rw[d7];exact U.defers) ?_ ?_)⟩
  ·rw[d7,zk7 (by simp only[Act.put,WbY];exact War aT U.len)]
   exact zk7 (War aS U.len)
  ·rcases hb with⟨rfl,h1,h2,_⟩|⟨rfl,h1⟩
   ·exact .inl ⟨rfl,by rw[ae];exact h1,h2⟩
   ·exact .inr ⟨rfl,h1⟩
 refine wpIn_block (wpIn_seq (regY (ro:=none) aw rfl [3,4,10,11] [2] (st':= ?s3) ?h3 ?v3 ?q3))
 case h3=>
  intro K kk;refine tt ?_;exact kk
 case v3=>simp[go_sem,Nat.reduceAdd,Nat.reduceMul,Nat.reduceLeDiff,Nat.reduceEqDiff,Nat.reduceLT,Int.reduceLE,Int.reduceLT,Int.reduceNeg,Int.reduceEq,Int.reduceAdd,Int.reduceSub,Int.reduceToNat,reduceCtorEq,↓reduceIte]
 case q3=>
 intro a3 E3 g3 f3 H3 al y3
 have al:SR E3 ⟨59,0⟩ ⟨[(3,.one (.iptr (zaq d) 0)),(4,.one (.iptr (xto e) 0)),(10,.one (.int .i64 e.Op)),(11,.one (.bool (decide (e.Op=2))))],[]⟩ a3 E3:=by simpa [go_sem,Nat.reduceAdd,Nat.reduceMul,Nat.reduceLeDiff,Nat.reduceEqDiff,Nat.reduceLT,Int.reduceLE,Int.reduceLT,Int.reduceNeg,Int.reduceEq,Int.reduceAdd,Int.reduceSub,Int.reduceToNat,reduceCtorEq,↓reduceIte,zov]using al
 have t3:At cal N0 E3:=t2.grow hh g3 f3 H3 al.rel
 have j3:J pre E3.w:=hJ _ _ _ none j2 g3 (fun r e=>by cases e)
 have k3:KR cal E.w E3.w:=k2.trans (.grown hh t2.n0 g3)
 have y3:=(y3 2 (by simp)).trans y2
 have c3:a3.eval (.tmp 11)=.bool (decide (e.Op=2)):=bool_inv (one_inv (al.ρ (.tmp 11)))
 clear g3 f3 H3 aw t2 j2 k2 y2
 by_cases o3:e.Op=2
 ·refine wpIn_cond (t:=true) (by rw[c3];simp[o3]) ?_
  simp only[zui,if_pos o3]at h;obtain⟨x,hv,hx⟩:=Wal.1 h;refine wpIn_seq (wpIn_region ?_)
  show wpOpsIn (FF none) 4 prog _ _ (0::([1,2,3,4,5]++(6::[7]))) a3 E3.w
  refine yex (x:=x) al y3 [1,2,3,4,5] 6 [7] [18] (st':= ?s4_0) rfl rfl rfl rfl rfl rfl rfl (by decide) ?h4_0 ?v4_0 ?x4_0 ?q4_0
  case h4_0=>
   intro K kk;simp only[zn4,WbH,WbR,Wa6,WaK,Wat];refine tt ?_;refine cS (zl8 hv) ?_;refine tt ?_;exact kk
  case v4_0=>simp[go_sem,Nat.reduceAdd,Nat.reduceMul,Nat.reduceLeDiff,Nat.reduceEqDiff,Nat.reduceLT,Int.reduceLE,Int.reduceLT,Int.reduceNeg,Int.reduceEq,Int.reduceAdd,Int.reduceSub,Int.reduceToNat,reduceCtorEq,↓reduceIte]
  case x4_0=>simp[go_sem,Nat.reduceAdd,Nat.reduceMul,Nat.reduceLeDiff,Nat.reduceEqDiff,Nat.reduceLT,Int.reduceLE,Int.reduceLT,Int.reduceNeg,Int.reduceEq,Int.reduceAdd,Int.reduceSub,Int.reduceToNat,reduceCtorEq,↓reduceIte,zov]
  case q4_0=>
   intro a' E' U g f H y af;refine single af hx.symm t3 j3 k3 U rfl g f H rfl rfl rfl rfl (by decide) (by decide) fun a4 w4 b hd hb hr=>?_;exact wpIn_ret ⟨rfl,hd,b,hb,hr⟩
 refine wpIn_cond (t:=false) (by rw[c3];simp[o3]) ?_;refine wpIn_seq (regY (ro:=none) al rfl [3,4,10,20] [2] (st':= ?s5) ?h5 ?v5 ?q5)
 case h5=>
  intro K kk;refine tt ?_;exact kk
 case v5=>simp[go_sem,Nat.reduceAdd,Nat.reduceMul,Nat.reduceLeDiff,Nat.reduceEqDiff,Nat.reduceLT,Int.reduceLE,Int.reduceLT,Int.reduceNeg,Int.reduceEq,Int.reduceAdd,Int.reduceSub,Int.reduceToNat,reduceCtorEq,↓reduceIte]
 case q5=>
 intro a5 E5 g5 f5 H5 ad y5
 have ad:SR E5 ⟨59,0⟩ ⟨[(3,.one (.iptr (zaq d) 0)),(4,.one (.iptr (xto e) 0)),(10,.one (.int .i64 e.Op)),(20,.one (.bool (decide (e.Op=4))))],[]⟩ a5 E5:=by simpa [go_sem,Nat.reduceAdd,Nat.reduceMul,Nat.reduceLeDiff,Nat.reduceEqDiff,Nat.reduceLT,Int.reduceLE,Int.reduceLT,Int.reduceNeg,Int.reduceEq,Int.reduceAdd,Int.reduceSub,Int.reduceToNat,reduceCtorEq,↓reduceIte,zov]using ad
 have t5:At cal N0 E5:=t3.grow hh g5 f5 H5 ad.rel
 have j5:J pre E5.w:=hJ _ _ _ none j3 g5 (fun r e=>by cases e)
 have k5:KR cal E.w E5.w:=k3.trans (.grown hh t3.n0 g5)
 have y5:=(y5 2 (by simp)).trans y3
 have c5:a5.eval (.tmp 20)=.bool (decide (e.Op=4)):=bool_inv (one_inv (ad.ρ (.tmp 20)))
 clear g5 f5 H5 al t3 j3 k3 y3 c3
 by_cases o5:e.Op=4
 ·refine wpIn_cond (t:=true) (by rw[c5];simp[o5]) ?_
  simp only[zui,if_neg o3,if_pos o5]at h;obtain⟨x,hv,hx⟩:=Wal.1 h;refine wpIn_seq (wpIn_region ?_)
  show wpOpsIn (FF none) 4 prog _ _ (0::([1,2,3,4]++(5::[6]))) a5 E5.w
  refine yex (x:=x) ad y5 [1,2,3,4] 5 [6] [26] (st':= ?s4_1) rfl rfl rfl rfl rfl rfl rfl (by decide) ?h4_1 ?v4_1 ?x4_1 ?q4_1
  case h4_1=>
   intro K kk;simp only[zn4,WbH,WbR,Wa6,WaK,Wat];refine tt ?_;refine cS (zxq hv) ?_;refine tt ?_;exact kk
  case v4_1=>simp[go_sem,Nat.reduceAdd,Nat.reduceMul,Nat.reduceLeDiff,Nat.reduceEqDiff,Nat.reduceLT,Int.reduceLE,Int.reduceLT,Int.reduceNeg,Int.reduceEq,Int.reduceAdd,Int.reduceSub,Int.reduceToNat,reduceCtorEq,↓reduceIte]
  case x4_1=>simp[go_sem,Nat.reduceAdd,Nat.reduceMul,Nat.reduceLeDiff,Nat.reduceEqDiff,Nat.reduceLT,Int.reduceLE,Int.reduceLT,Int.reduceNeg,Int.reduceEq,Int.reduceAdd,Int.reduceSub,Int.reduceToNat,reduceCtorEq,↓reduceIte,zov]
  case q4_1=>
   intro a' E' U g f H y af;refine single af hx.symm t5 j5 k5 U rfl g f H rfl rfl rfl rfl (by decide) (by decide) fun a4 w4 b hd hb hr=>?_;exact wpIn_ret ⟨rfl,hd,b,hb,hr⟩
 refine wpIn_cond (t:=false) (by rw[c5];simp[o5]) ?_;refine wpIn_seq (regY (ro:=none) ad rfl [3,4,10,28] [2] (st':= ?s7) ?h7 ?v7 ?q7)
 case h7=>
  intro K kk;refine tt ?_;exact kk
 case v7=>simp[go_sem,Nat.reduceAdd,Nat.reduceMul,Nat.reduceLeDiff,Nat.reduceEqDiff,Nat.reduceLT,Int.reduceLE,Int.reduceLT,Int.reduceNeg,Int.reduceEq,Int.reduceAdd,Int.reduceSub,Int.reduceToNat,reduceCtorEq,↓reduceIte]
 case q7=>
 intro a7 E7 g7 f7 H7 aa y7
 have aa:SR E7 ⟨59,0⟩ ⟨[(3,.one (.iptr (zaq d) 0)),(4,.one (.iptr (xto e) 0)),(10,.one (.int .i64 e.Op)),(28,.one (.bool (decide (e.Op=21))))],[]⟩ a7 E7:=by simpa [go_sem,Nat.reduceAdd,Nat.reduceMul,Nat.reduceLeDiff,Nat.reduceEqDiff,Nat.reduceLT,Int.reduceLE,Int.reduceLT,Int.reduceNeg,Int.reduceEq,Int.reduceAdd,Int.reduceSub,Int.reduceToNat,reduceCtorEq,↓reduceIte,zov]using aa
 have t7:At cal N0 E7:=t5.grow hh g7 f7 H7 aa.rel
 have j7:J pre E7.w:=hJ _ _ _ none j5 g7 (fun r e=>by cases e)
 have k7:KR cal E.w E7.w:=k5.trans (.grown hh t5.n0 g7)
 have y7:=(y7 2 (by simp)).trans y5
 have c7:a7.eval (.tmp 28)=.bool (decide (e.Op=21)):=bool_inv (one_inv (aa.ρ (.tmp 28)))
 clear g7 f7 H7 ad t5 j5 k5 y5 c5
 by_cases o7:e.Op=21
 ·refine wpIn_cond (t:=true) (by rw[c7];simp[o7]) ?_
  simp only[zui,if_neg o3,if_neg o5,if_pos o7]at h;obtain⟨x,hv,hx⟩:=Wal.1 h;refine wpIn_seq (wpIn_region ?_)
  show wpOpsIn (FF none) 4 prog _ _ (0::([1,2,3,4]++(5::[6]))) a7 E7.w
  refine yex (x:=x) aa y7 [1,2,3,4] 5 [6] [34] (st':= ?s4_2) rfl rfl rfl rfl rfl rfl rfl (by decide) ?h4_2 ?v4_2 ?x4_2 ?q4_2
  case h4_2=>
   intro K kk;simp only[zn4,WbH,WbR,Wa6,WaK,Wat];refine tt ?_;refine cS (z0v hv) ?_;refine tt ?_;exact kk
  case v4_2=>simp[go_sem,Nat.reduceAdd,Nat.reduceMul,Nat.reduceLeDiff,Nat.reduceEqDiff,Nat.reduceLT,Int.reduceLE,Int.reduceLT,Int.reduceNeg,Int.reduceEq,Int.reduceAdd,Int.reduceSub,Int.reduceToNat,reduceCtorEq,↓reduceIte]
  case x4_2=>simp[go_sem,Nat.reduceAdd,Nat.reduceMul,Nat.reduceLeDiff,Nat.reduceEqDiff,Nat.reduceLT,Int.reduceLE,Int.reduceLT,Int.reduceNeg,Int.reduceEq,Int.reduceAdd,Int.reduceSub,Int.reduceToNat,reduceCtorEq,↓reduceIte,zov]
  case q4_2=>
   intro a' E' U g f H y af;refine single af hx.symm t7 j7 k7 U rfl g f H rfl rfl rfl rfl (by decide) (by decide) fun a4 w4 b hd hb hr=>?_;exact wpIn_ret ⟨rfl,hd,b,hb,hr⟩
 refine wpIn_cond (t:=false) (by rw[c7];simp[o7]) ?_;refine wpIn_seq (regY (ro:=none) aa rfl [3,4,10,36] [2] (st':= ?s9) ?h9 ?v9 ?q9)
 case h9=>
  intro K kk;refine tt ?_;exact kk
 case v9=>simp[go_sem,Nat.reduceAdd,Nat.reduceMul,Nat.reduceLeDiff,Nat.reduceEqDiff,Nat.reduceLT,Int.reduceLE,Int.reduceLT,Int.reduceNeg,Int.reduceEq,Int.reduceAdd,Int.reduceSub,Int.reduceToNat,reduceCtorEq,↓reduceIte]
 case q9=>
 intro a9 E9 g9 f9 H9 ab y9
 have ab:SR E9 ⟨59,0⟩ ⟨[(3,.one (.iptr (zaq d) 0)),(4,.one (.iptr (xto e) 0)),(10,.one (.int .i64 e.Op)),(36,.one (.bool (decide (e.Op=3))))],[]⟩ a9 E9:=by simpa [go_sem,Nat.reduceAdd,Nat.reduceMul,Nat.reduceLeDiff,Nat.reduceEqDiff,Nat.reduceLT,Int.reduceLE,Int.reduceLT,Int.reduceNeg,Int.reduceEq,Int.reduceAdd,Int.reduceSub,Int.reduceToNat,reduceCtorEq,↓reduceIte,zov]using ab
 have t9:At cal N0 E9:=t7.grow hh g9 f9 H9 ab.rel
 have j9:J pre E9.w:=hJ _ _ _ none j7 g9 (fun r e=>by cases e)
 have k9:KR cal E.w E9.w:=k7.trans (.grown hh t7.n0 g9)
 have y9:=(y9 2 (by simp)).trans y7
 have c9:a9.eval (.tmp 36)=.bool (decide (e.Op=3)):=bool_inv (one_inv (ab.ρ (.tmp 36)))
 clear g9 f9 H9 aa t7 j7 k7 y7 c7
 by_cases o9:e.Op=3
 ·refine wpIn_cond (t:=true) (by rw[c9];simp[o9]) ?_
  simp only[zui,if_neg o3,if_neg o5,if_neg o7,if_pos o9]at h;obtain⟨a0,aU,h⟩:=Wbk.1 h;obtain⟨x,hv,hx⟩:=Wal.1 aU;obtain⟨rest,ai,ae⟩:=Wal.1 h;refine wpIn_seq (wpIn_region ?_)
  show wpOpsIn (FF none) 4 prog _ _ (0::([1,2,3,4,5]++(6::[7]))) a9 E9.w
  refine yex (x:=x) ab y9 [1,2,3,4,5] 6 [7] [3,4,43] (st':= ?s4_3) rfl rfl rfl rfl rfl rfl rfl (by decide) ?h4_3 ?v4_3 ?x4_3 ?q4_3
  case h4_3=>
   intro K kk;simp only[zn4,WbH,WbR,Wa6,WaK,Wat];refine tt ?_;refine cS (zl8 hv) ?_;refine tt ?_;exact kk
  case v4_3=>simp[go_sem,Nat.reduceAdd,Nat.reduceMul,Nat.reduceLeDiff,Nat.reduceEqDiff,Nat.reduceLT,Int.reduceLE,Int.reduceLT,Int.reduceNeg,Int.reduceEq,Int.reduceAdd,Int.reduceSub,Int.reduceToNat,reduceCtorEq,↓reduceIte]
  case x4_3=>simp[go_sem,Nat.reduceAdd,Nat.reduceMul,Nat.reduceLeDiff,Nat.reduceEqDiff,Nat.reduceLT,Int.reduceLE,Int.reduceLT,Int.reduceNeg,Int.reduceEq,Int.reduceAdd,Int.reduceSub,Int.reduceToNat,reduceCtorEq,↓reduceIte,zov]
  case q4_3=>
   intro a' E' U g f H y af
   have U:SR E' ⟨59,0⟩ ⟨[(3,.one (.iptr (zaq d) 0)),(4,.one (.iptr (xto e) 0)),(43,.one (.int .i64 x))],[]⟩ a' E':=by simpa [go_sem,Nat.reduceAdd,Nat.reduceMul,Nat.reduceLeDiff,Nat.reduceEqDiff,Nat.reduceLT,Int.reduceLE,Int.reduceLT,Int.reduceNeg,Int.reduceEq,Int.reduceAdd,Int.reduceSub,Int.reduceToNat,reduceCtorEq,↓reduceIte,zov]using U
   have tq:At cal N0 E':=t9.grow hh g f H U.rel
   obtain⟨m',R',hy,hR⟩:=ask (x:=x) af tq (hJ _ _ _ none j9 g (fun r e=>by cases e)) (k9.trans (.grown hh t9.n0 g)) (by rw[<-ae,<-hx]at hN;simp at hN;omega) ⟨rest,by rw[<-ae,<-hx];simp⟩;refine⟨m',R',hy,fun e' w' hr=>?_⟩;obtain⟨b,rfl,hb⟩:=hR e' w' hr
   have aV:((a'.put (some 44) (.bool b)).eval (.tmp 44))=.bool b:=zk7 (War (by decide) U.len)
   refine⟨b,rfl,z0g (v:=.bool (!b)) rfl rfl rfl (by simp[execOp,aV];rfl) ?_⟩;refine zn5 ?_
   have aW:(((a'.put (some 44) (.bool b)).put (some 45) (.bool (!b))).eval (.tmp 45))=.bool (!b):=zk7 (by simp only[Act.put,WbY];exact War (by decide) U.len)
   refine wpIn_cond aW ?_
   rcases hb with⟨rfl,hj,hk,ht,aX⟩|⟨rfl,aF⟩
   ·simp only[Bool.not_true,WaD,if_false]
    refine wpIn_skip (hK _ _ ⟨E'.host cal w',pre++[x],rest,rfl,ht,hj,hk,?_,?_,ai,by rw[<-ae,<-hx];simp⟩)
    ·have h1:=U.host aX ht.rel ht.H
     have h2:=((h1.put1 (d:=44) (by decide) (x:=.one (.bool true)) (.one .bool)).put1 (d:=45) (by decide) (x:=.one (.bool false)) (.one .bool)).sub [3,4]
     simpa [go_sem,Nat.reduceAdd,Nat.reduceMul,Nat.reduceLeDiff,Nat.reduceEqDiff,Nat.reduceLT,Int.reduceLE,Int.reduceLT,Int.reduceNeg,Int.reduceEq,Int.reduceAdd,Int.reduceSub,Int.reduceToNat,reduceCtorEq,↓reduceIte]using h2
    ·rw[zf6 (by simp),zf6 (by simp)];exact y
   ·simp only[WbN,if_true]
    refine wpIn_seq (wpIn_region ?_)
    show wpOpsIn (FF none) 4 prog _ _ [0] _ _
    refine zl7 rfl rfl (.inr rfl) (zn5 (wpIn_ret ⟨rfl,U.defers,false,?_,.inr ⟨rfl,aF⟩⟩))
    have hsz:59<=a'.tmps.size:=U.len
    show(((a'.put (some 44) (.bool false)).put (some 45) (.bool true)).put (some 6) (.bool false)).tmps.getD 6 undef=.bool false
    exact zk7 (show 6<((a'.put (some 44) (.bool false)).put (some 45) (.bool true)).tmps.size by simp only[Act.put,WbY];omega)
 refine wpIn_cond (t:=false) (by rw[c9];simp[o9]) ?_;simp only[zui,if_neg o3,if_neg o5,if_neg o7,if_neg o9,Waa]at h;obtain⟨rest,ai,ae⟩:=Wal.1 h;exact wpIn_skip (hK _ _ ⟨E9,pre,rest,rfl,t9,j9,k9,by simpa [go_sem,Nat.reduceAdd,Nat.reduceMul,Nat.reduceLeDiff,Nat.reduceEqDiff,Nat.reduceLT,Int.reduceLE,Int.reduceLT,Int.reduceNeg,Int.reduceEq,Int.reduceAdd,Int.reduceSub,Int.reduceToNat,reduceCtorEq,↓reduceIte]using ab.sub [3,4],y9,ai,by rw[<-ae];simp⟩)
end Go.Lz

end
section
namespace Go.Lz
open Go.Proofs Go.RowKit
attribute [-go_sem] zl6 g_b gd_b
set_option maxRecDepth 100000
set_option maxHeartbeats 400000
theorem ycb {d:flow_desk} {e:xtn} {atoms:List Int} (hw:ygs 194 (zaq d) (xto e) atoms) {cal:World->Nat->Prop} {N0 N l m:Nat} {J Jx:List Int->World->Prop} {B:Nat} (hh:Host cal N0) (hJ:AbidesFrom B J)
  (ab:∀pre x W1,(IntKind.i64.min<=x/\x<=IntKind.i64.max)->J pre W1->pre.length<N->YieldAt Fence.wide m prog l #[.int .i64 x] W1 fun e W'=>(e=.returned (.bool true)/\J (pre++[x]) W'/\KR cal W1 W')\/(e=.returned (.bool false)/\Jx (pre++[x]) W'))
  {E:Env} {v6 v7:Value} (ad:At cal N0 E) (h6:VRel E (.one (.iptr (zaq d) 0)) v6) (h7:VRel E (.one (.iptr (xto e) 0)) v7) (hj:J [] E.w) (hN:atoms.length<=N):
  Calls prog 193 #[.func (.yield l) #[] #[],v6,v7] E.w fun e w'=>(∃v,e=.returned v)/\(J atoms w'\/∃I,(∃s,I++s=atoms)/\Jx I w'):=by
 have F:=trivial;have R:=trivial
 refine yc5 4 func193 rfl (Q:=fun e' a' w'=>e'=.normal/\a'.defers=[]/\(J atoms w'\/∃I,(∃s,I++s=atoms)/\Jx I w')) ?_ ?_
 case refine_2=>
  rintro _ a' w' ⟨rfl,hd,hr⟩
  exact⟨.inr rfl,hd,.tuple #[],by simp[results,f193],⟨_,rfl⟩,hr⟩
 intro c a hc ha
 have hs:SR E ⟨8,0⟩ ⟨zm7 0 [.un,.one (.iptr (zaq d) 0),.one (.iptr (xto e) 0)],[]⟩ a E:=by
  have:=z2i ad.rel (args:=[.un,.one (.iptr (zaq d) 0),.one (.iptr (xto e) 0)]) (vs:= #[.func (.yield l) #[] #[],v6,v7]) 8 rfl (fun j x hx=>by
   match j with
   |0=>simp at hx;subst hx;exact .un
   |1=>simp at hx;subst hx;exact h6
   |2=>simp at hx;subst hx;exact h7
   |j+3=>simp at hx)
  rw[ad.H]at this;rw[ha];exact this
 have y0:a.tmps.getD 0 undef=.func (.yield l) #[] #[]:=by rw[ha];simp[f193]
 clear ha;simp only[f193,WaP]at hc;subst hc;refine wpIn_region ?_
 show wpOpsIn (FF none) 4 prog _ _ ([0,1]++[2,3]) a E.w
 refine z5s hs rfl [0,1] [2,3] [4,5] [0] (st':= ?sE) ?hE ?vE ?qE
 case hE=>
  intro K kk;simp only[zn4,WbH,WbR,Wa6,WaK,Wat];refine tt ?_;exact kk
 case vE=>simp[go_sem,Nat.reduceAdd,Nat.reduceMul,Nat.reduceLeDiff,Nat.reduceEqDiff,Nat.reduceLT,Int.reduceLE,Int.reduceLT,Int.reduceNeg,Int.reduceEq,Int.reduceAdd,Int.reduceSub,Int.reduceToNat,reduceCtorEq,↓reduceIte]
 case qE=>
 intro U E9 g9 f9 H9 aa y9
 have aa:SR E9 ⟨8,0⟩ ⟨[(4,.agg (zaq d)),(5,.agg (xto e))],[]⟩ U E9:=by simpa [go_sem,Nat.reduceAdd,Nat.reduceMul,Nat.reduceLeDiff,Nat.reduceEqDiff,Nat.reduceLT,Int.reduceLE,Int.reduceLT,Int.reduceNeg,Int.reduceEq,Int.reduceAdd,Int.reduceSub,Int.reduceToNat,reduceCtorEq,↓reduceIte,zov]using aa
 have t9:At cal N0 E9:=ad.grow hh g9 f9 H9 aa.rel
 have j9:J [] E9.w:=hJ _ _ _ none hj g9 (fun r e=>by cases e)
 have y9:=(y9 0 (by simp)).trans y0
 have hsz:8<=U.tmps.size:=aa.len
 refine zl7 rfl rfl (.inl rfl) ?_
 have e2:U.eval (.tmp 0)=.func (.yield l) #[] #[]:=y9
 rw[e2]
 show wpOpsIn (FF none) 4 prog _ _ [3] (U.put (some 6) (.func (.yield l) #[] #[])) E9.w
 have hc:=hw cal N0 N l m J Jx B hh hJ ab [] E9 _ _ t9 (aa.tm 4) (aa.tm 5) j9 (by simpa using hN)
 have af:(U.put (some 6) (.func (.yield l) #[] #[])).eval (.tmp 6)=.func (.yield l) #[] #[]:=zk7 (show 6<U.tmps.size by omega)
 have ai:(U.put (some 6) (.func (.yield l) #[] #[])).eval (.tmp 4)=U.tmps.getD 4 undef:=zf6 (by simp)
 have aj:(U.put (some 6) (.func (.yield l) #[] #[])).eval (.tmp 5)=U.tmps.getD 5 undef:=zf6 (by simp)
 have ae:(U.put (some 6) (.func (.yield l) #[] #[])).defers=[]:=aa.defers
 generalize U.put (some 6) (.func (.yield l) #[] #[])=aA at af ai aj ae|-
 refine z1t rfl rfl rfl ⟨f194,func194,by kernel_rfl,by kernel_rfl⟩ (R:=fun e w'=>(e=.returned (.bool true)/\J ([]++atoms) w'/\KR cal E9.w w')\/(e=.returned (.bool false)/\∃I,(∃s,I++s=[]++atoms)/\Jx I w')) (by simpa [ai,aj,af]using hc) ?_
 rintro e' w' (⟨rfl,h1,h2⟩|⟨rfl,h1⟩)
 ·exact⟨_,rfl,zn5 ⟨rfl,ae,.inl h1⟩⟩
 ·exact⟨_,rfl,zn5 ⟨rfl,ae,.inr h1⟩⟩
end Go.Lz

end
section
namespace Go.Lz
open Go.RowKit
theorem regZ {ro:Option Nat} {nn id:Nat} {P:Program} {all:Array Oper} {n:Cf} {E0:Env} {a:Act} {E:Env} {st:St} {Q:Exit->Act->World->Prop} (hs:SR E0 n st a E) {st':St}
  (h:∀K:Ex->St->Prop,K .normal st'->awpS P n [.code (.region id all false)] st K) (hQ:∀I E',SR E0 n st' I E'->Q .normal I E'.w) (aa:okD n.n all=true:=by kernel_rfl):(Code.region id all false).wpIn (FF ro) nn P Q a E.w:=by
 refine wpIn_region ?_;rw[<-Wba (List.range all.size)];refine zx4 (K:=fun s=>Ex.normal=.normal/\s=st') [] (z4g aa) (List.range all.size) all.toList (by simp) (fun k i hk=>?_) st a E hs (h (fun e s=>e=.normal/\s=st') ⟨rfl,rfl⟩) ?_
 ·have U:=(Wag.1 hk).1
  simp at U;simp[U]at hk;subst hk;simp
 rintro _ I E' ⟨_,rfl⟩ ab _;exact hQ I E' ab
theorem zzr {ro:Option Nat} {nn:Nat} {P:Program} {ops:Array Oper} {X:Act->World->Prop} {Q:Exit->Act->World->Prop} (U:∀o∈ops.toList,zvv o.op=true) (I:∀a w,X a w->Q .normal a w):
  ∀(fuel:Nat) (listed:Array Bool) (a:Act) (w:World),wpAny P .any ops (fun e a w=>e=.normal/\X a w) fuel listed a w->wpAnyIn (FF ro) nn P .any ops Q fuel listed a w
 |0,_,_,_,h=>⟨h.1,I _ _ h.2.2⟩
 |fuel+1,listed,a,w,h=>⟨fun e=>I _ _ (h.1 e).2,fun i hi=>by
  have h2:=h.2 i hi
  unfold wpOp at h2;unfold wpOpIn
  cases ho:ops[i]? with
  |none=>simp only[ho]at h2|-;exact zzr U I fuel _ _ _ h2
  |some o=>
   simp only[ho]at h2|-;split
   ·rename_i hw
    rw[if_pos hw]at h2
    rcases h2 with h2|⟨_,_,_,h3,_⟩
    ·exact z9y (U o (Wad (by simpa using ho))) h2 (fun a' w' h3 _=>zzr U I fuel _ _ _ h3) (fun _ _ h=>by cases h.1) (fun _ _ _ h=>by cases h.1)
    ·cases h3
   ·rename_i hw
    rw[if_neg hw]at h2
    exact⟨fun _ _=>trivial,zzr U I fuel _ _ _ h2⟩⟩
theorem yqz {ro:Option Nat} {nn id:Nat} {P:Program} {all:Array Oper} {n:Cf} {E0:Env} {a:Act} {E:Env} {st:St} {Q:Exit->Act->World->Prop} (hs:SR E0 n st a E) {st':St}
  (h:∀K:Ex->St->Prop,K .normal st'->awpS P n [.code (.region id all true)] st K) (hQ:∀I E',SR E0 n st' I E'->Q .normal I E'.w) (hf:zyp all=false:=by kernel_rfl) (aa:okD n.n all=true:=by kernel_rfl):(Code.region id all true).wpIn (FF ro) nn P Q a E.w:=by
 have h2:awp P n (.region id all true) st (fun e s=>e=.normal/\s=st'):=zx2 (h (fun e s=>e=.normal/\s=st') ⟨rfl,rfl⟩)
 simp only[awp,hf]at h2;obtain⟨hm,hd,hw⟩:=h2;refine wpIn_region_any hm (zzr (X:=fun I w'=>∃E',E'.w=w'/\SR E0 n st' I E') (fun o ho=>(z4g aa o ho).2) ?_ _ _ _ _ (z0z hm hd (fun o ho=>(z4g aa o ho).1) hw hs fun s I E' hK U=>⟨rfl,E',rfl,by obtain⟨_,rfl⟩:=hK;exact U⟩));rintro I _ ⟨E',rfl,U⟩;exact hQ I E' U
theorem yeq {f g:Nat->V} {U I:List Nat} {i:Nat}:look (U.map (fun i=>(i,f i))++I.map fun i=>(i,g i)) i=if U.contains i then f i else if I.contains i then g i else .un:=by
 have h1:∀(ks:List Nat) (g:Nat->V) (r:List (Nat×V)),look (ks.map (fun i=>(i,g i))++r) i=if ks.contains i then g i else look r i:=by
  intro ks g r
  induction ks with
  |nil=>rfl
  |cons k ks ih=>
   simp only[Wbg,Wbh,zfb,Wcd];split
   ·rename_i e;subst e;simp
   ·rename_i e
    rw[ih]
    have:(i==k)=false:=by simp;exact fun h=>e h.symm
    simp[this]
 rw[h1]
 have:=h1 I g []
 rw[Wba]at this;rw[this];rfl
theorem SR.mask {ctx:Env} {n:Cf} {T:List (Nat×V)} {H:List O} {a:Act} {E:Env} (h:SR ctx n ⟨T,H⟩ a E) (ids kp ko:List Nat) (hk:kp.all (fun i=>((look T i).view (zli true ids 0 H)).lt 0)=true):
  ∃E',E'.w=E.w/\E'.Fr=E.Fr/\SR ctx n ⟨kp.map (fun i=>(i,(look T i).view (zli true ids 0 H)))++ko.map (fun i=>(i,look T i)),zli false ids 0 H⟩ a E'/\Trans E E':=by
 have hH:E.H=H:=h.H
 obtain⟨t2,h2⟩:=z7v h.rel false ids
 have aa:∀b,E.free b->({E with H:=zli false ids 0 E.H}:Env).free b:=fun b hb=>t2.free hb
 have ab:∀id cur sz rows,(zli true ids 0 E.H)[id]? =some (.cells cur sz rows)->E.H[id]? =some (.cells cur sz rows)/\((E.bd id).cap≠0->({E with H:=zli false ids 0 E.H}:Env).free (E.bd id).blk):=by
  intro id cur sz rows ho
  rcases zr8 ho with e|⟨I,ad⟩
  ·cases e
  ·refine⟨I,fun hc=>⟨h.rel.lt I hc,h.rel.nofr id _ I hc,?_⟩⟩
   rintro⟨i,y,q1,q2,q3⟩
   have ae:E.live i y:=(zbj (E:=E) (E':={E with H:=zli false ids 0 E.H}) rfl).1 q2
   rcases zr8 q1 with rfl|⟨q1,U⟩
   ·exact q2.elim
   ·refine h.rel.dist i id _ _ q1 I ae hc (fun e=>?_) q3
    subst e;rw[ad]at U;cases U
 refine⟨{E with H:=zli false ids 0 E.H},rfl,rfl,⟨h.len,h.hm,h.defers,fun i=>?_,by rw[hH],h2,h.tr.trans t2⟩,t2⟩
 rw[yeq (f:=fun i=>(look T i).view (zli true ids 0 H)) (g:=fun i=>look T i)];split
 ·rename_i hi
  have:=(Wak.1 hk) i (by simpa using hi)
  rw[<-hH]at this|-
  exact z9z (E1:={E with H:=zli false ids 0 E.H}) h.rel rfl aa ab (h.tm i) this
 ·split
  ·exact(h.tm i).trans t2
  ·exact .un
theorem z94 {A E:Env} (t:Trans A E) {I:World} {row:Option Nat} (g:E.w.grownBy I row) (hr:∀r,row=some r->A.w.heap.size<=r):Trans A {E with w:=I}:=by
 have lv:∀b,({E with w:=I}:Env).own b->E.own b:=by
  rintro b ⟨id,x,h1,h2,h3⟩
  exact⟨id,x,h1,(zbj (E:=E) (E':={E with w:=I}) rfl).1 h2,h3⟩
 refine⟨t.fr,WaF t.size g.size,g.os.trans t.os,g.tape.trans t.tape,g.output.trans t.output,fun b hb U=>?_,fun b hb U=>t.own b hb (lv b U),t.len,t.objC,t.objM⟩;exact(g.block b (War hb t.size) (fun e=>by have:=hr b e.symm;omega)).trans (t.keep b hb U)
theorem SR.row {ctx:Env} {n:Cf} {st:St} {a:Act} {E:Env} (I:SR ctx n st a E) {W':World} {row:Option Nat} (g:E.w.grownBy W' row) (hr:∀r,row=some r->ctx.w.heap.size<=r/\∃o:Obj,E.w.heap[r]? =some o/\o.isCells=false)
  (hc:∀id o,E.H[id]? =some o->E.live id o->∃ver sz rows,o=.cells ver sz rows):SR ctx n st a {E with w:=W'}:=by
 have lv:∀{id:Nat} {x:O},({E with w:=W'}:Env).live id x->E.live id x:=fun{id x} h=>(zbj (E:=E) (E':={E with w:=W'}) rfl).1 h
 have t:Mv E {E with w:=W'}:=by
  refine⟨rfl,rfl,fun b hb=>⟨War hb.1 g.size,hb.2.1,fun⟨id,x,h1,h2,h3⟩=>hb.2.2 ⟨id,x,h1,lv h2,h3⟩⟩,fun a v hf hv=>?_⟩;refine g.cell hv (fun e=>?_);obtain⟨_,o,U,aa⟩:=hr a.block e.symm;obtain⟨o',ab,ad⟩:=cells_of_cell hv;rw[U]at ab;cases ab;rw[aa]at ad;cases ad
 refine I.mv t (I.rel.mv t (fun id o U hl=>?_) (fun b hb=>War (I.rel.frlt b hb) g.size) (fun id o U hl=>I.rel.nofr id o U hl)) (z94 I.tr g fun r e=>(hr r e).1);refine g.block _ (I.rel.lt U hl) (fun e=>?_);obtain⟨_,o1,ho1,aa⟩:=hr _ e.symm;obtain⟨ver,sz,rows,rfl⟩:=hc id o U hl;obtain⟨_,_,_,h6⟩:=I.rel.obj id _ U;obtain⟨arr,ty,⟨fz,h7,_⟩,_⟩:=h6 hl;rw[h7]at ho1;cases ho1;cases aa
theorem zvg {E E':Env} (hE:HRel E) (t:Trans E E') (hc:∀id o,E.H[id]? =some o->E.live id o->∃ver sz rows,o=.cells ver sz rows):KeepsOthers E.w E'.w:=by
 refine⟨t.size,fun k o I ho=>?_⟩;rw[t.keep k (Was.1 I).1 ?_]
 ·exact I
 rintro⟨id,x,U,hl,rfl⟩;obtain⟨ver,sz,rows,rfl⟩:=hc id x U hl;obtain⟨_,_,_,h6⟩:=hE.obj id _ U;obtain⟨arr,ty,⟨fz,h7,_⟩,_⟩:=h6 hl;rw[h7]at I;cases I;cases ho
theorem SR.later {ctx:Env} {n:Cf} {T:List (Nat×V)} {H H':List O} {a:Act} {E E':Env} (h:SR ctx n ⟨T,H⟩ a E) (t:Trans E E') (hr:HRel E') (I:E'.H=H'):SR ctx n ⟨T,H'⟩ a E':=
 ⟨h.len,h.hm,h.defers,fun i=>(h.tm i).trans t,I,hr,h.tr.trans t⟩
end Go.Lz

end
section
namespace Go.Lz
open Go.Proofs Go.RowKit
attribute [-go_sem] zl6 g_b gd_b
set_option maxRecDepth 100000
set_option maxHeartbeats 1000000
def setH (r:Int) (v:Nat) (xs:List Int):List O:=[.dead,.dead,.cells 0 1 [[.int .i64 r]],.dead,.dead,.cells 0 1 [[.msl 8 v 0 xs.length]],.dead,.dead,.cells v 1 (xs.map eI)]
theorem zyb {r:Int} {v:Nat} {xs:List Int} {E:Env}:∀id o,(setH r v xs)[id]? =some o->E.live id o->∃ver sz rows,o=.cells ver sz rows:=by
 intro id o h hl
 match id with
 |0|1|3|4|6|7=>simp[setH]at h;subst h;exact hl.elim
 |2|5|8=>simp[setH]at h;subst h;exact⟨_,_,_,rfl⟩
 |n+9=>simp[setH]at h
def zw2 (I:Env) (W:World) (b:Nat):Prop:=b=(I.bd 2).blk\/b=(I.bd 5).blk\/∃o n cap,0<cap/\W.cell? ⟨(I.bd 5).blk,(I.bd 5).off,none⟩=some (.slice (some ⟨b,o,none⟩) n cap)
theorem ydb {I E:Env} {r r':Int} {v v':Nat} {xs U:List Int} (t:Trans I E) (h0:I.H=setH r v xs) (h:E.H=setH r' v' U):E.bd 2=I.bd 2/\E.bd 5=I.bd 5:=by
 constructor
 ·obtain⟨ver,sz,rows,h1,h2,h3⟩:=t.objC 2 0 1 [[.int .i64 r']] (by rw[h0];simp[setH]) (by rw[h];rfl)
  have:ver=0:=by omega
  exact(h3 this).2.2
 ·obtain⟨ver,sz,rows,h1,h2,h3⟩:=t.objC 5 0 1 [[.msl 8 v' 0 U.length]] (by rw[h0];simp[setH]) (by rw[h];rfl)
  have:ver=0:=by omega
  exact(h3 this).2.2
theorem z6o {E0 E:Env} {r:Int} {v:Nat} {xs:List Int} (hE:HRel E) (h:E.H=setH r v xs) (h2:E.bd 2=E0.bd 2) (h5:E.bd 5=E0.bd 5) (b:Nat):zw2 E0 E.w b↔E.own b:=by
 have o2:E.H[2]? =some (.cells 0 1 [[.int .i64 r]]):=by rw[h];rfl
 have o5:E.H[5]? =some (.cells 0 1 [[.msl 8 v 0 xs.length]]):=by rw[h];rfl
 have o8:E.H[8]? =some (.cells v 1 (xs.map eI)):=by rw[h];rfl
 have l2:E.live 2 (.cells 0 1 [[.int .i64 r]]):=by
  obtain⟨a,_⟩:=hE.obj 2 _ o2;simp at a
  show(E.bd 2).cap≠0
  omega
 have l5:E.live 5 (.cells 0 1 [[.msl 8 v 0 xs.length]]):=by
  obtain⟨a,_⟩:=hE.obj 5 _ o5;simp at a
  show(E.bd 5).cap≠0
  omega
 obtain⟨_,_,_,h6⟩:=hE.obj 5 _ o5;obtain⟨arr,ty,ad,_,ab⟩:=h6 l5;obtain⟨val,hv,hr⟩:=ab 0 0 (.msl 8 v 0 xs.length) rfl
 have aa:E.w.cell? ⟨(E0.bd 5).blk,(E0.bd 5).off,none⟩=some val:=by
  rw[<-h5,ad.cell?];simpa using hv
 have ae:∃(a:Option Addr) (cap:Nat),val=.slice a xs.length cap/\cap=(E.bd 8).cap/\(0<cap->a=some ⟨(E.bd 8).blk,(E.bd 8).off,none⟩):=by
  cases hr with
  |msl hid hc hm=>
   obtain⟨_,h8⟩:=hm _ _ _ o8;obtain⟨_,_,a,cap,I,e2,e3⟩:=h8 rfl;exact⟨a,cap,by simpa using I,by omega,by simpa using e3⟩
 obtain⟨a,cap,rfl,hcap,ha⟩:=ae;constructor
 ·rintro(rfl|rfl|⟨o,n,ai,af,hc⟩)
  ·rw[<-h2];exact⟨2,_,o2,l2,rfl⟩
  ·rw[<-h5];exact⟨5,_,o5,l5,rfl⟩
  ·rw[aa]at hc
   injection hc with hc
   injection hc with I e2 e3
   subst e3;rw[ha af]at I
   injection I with I
   injection I with I
   subst I;exact⟨8,_,o8,by show(E.bd 8).cap≠0;omega,rfl⟩
 ·rintro⟨id,o,U,hl,rfl⟩
  match id with
  |0|1|3|4|6|7=>rw[h]at U;simp[setH]at U;subst U;exact hl.elim
  |2=>left;rw[h2]
  |5=>right;left;rw[h5]
  |8=>
   have hc:(E.bd 8).cap≠0:=by rw[o8]at U;cases U;exact hl
   right;right
   exact⟨_,_,cap,by omega,by rw[aa,ha (by omega)]⟩
  |n+9=>rw[h]at U;simp[setH]at U
theorem yry {U E E':Env} {r r':Int} {v v':Nat} {xs aa:List Int} (hE:HRel E) (I:HRel E') (t0:Trans U E) (t:Trans E E') {r0:Int} {v0:Nat} {x0:List Int} (h0:U.H=setH r0 v0 x0) (h:E.H=setH r v xs) (h':E'.H=setH r' v' aa):KR (zw2 U) E.w E'.w:=by
 obtain⟨a2,a5⟩:=ydb t0 h0 h;obtain⟨b2,b5⟩:=ydb (t0.trans t) h0 h'
 have c1:=z6o hE h a2 a5
 have c2:=z6o I h' b2 b5
 exact⟨t.os,t.tape,t.output,t.size,fun b hb hn hc=>hn ((c1 b).2 (t.own b hb ((c2 b).1 hc))),fun a v hn hv=>(World.cell?_of_block (t.keep a.block (yc4 hv) (fun ho=>hn ((c1 _).2 ho)))).trans hv,fun _ b hb=>I.own_lt ((c2 b).1 hb)⟩
theorem yi4 (I:Env):Host (zw2 I) ((I.bd 5).blk+1):=by
 refine⟨fun W W' hn g b hb=>?_⟩
 rcases hb with h|h|⟨o,n,cap,U,hc⟩
 ·exact .inl h
 ·exact .inr (.inl h)
 ·refine .inr (.inr ⟨o,n,cap,U,?_⟩)
  rw[<-World.cell?_of_block (a:=⟨(I.bd 5).blk,(I.bd 5).off,none⟩) (g.block (I.bd 5).blk (by omega) (by simp))];exact hc
theorem ymr {I:Env} {w0 W:World} {l:Nat} {o o':Obj} (ab:(I.bd 5).blk<w0.heap.size) (hl:w0.heap.size<=l) (hW:W.heap[l]? =some o) (hc:o.isCells=false):KR (zw2 I) W (W.putObj l o'):=by
 have aa:(I.bd 5).blk≠l:=by omega
 have back:∀b,zw2 I (W.putObj l o') b->zw2 I W b:=by
  rintro b (h|h|⟨o,n,cap,hp,hc⟩)
  ·exact .inl h
  ·exact .inr (.inl h)
  ·refine .inr (.inr ⟨o,n,cap,hp,?_⟩)
   rw[<-World.cell?_of_block (a:=⟨(I.bd 5).blk,(I.bd 5).off,none⟩) (World.putObj_heap_other aa)];exact hc
 refine⟨rfl,rfl,rfl,by simp[World.putObj],fun b _ hn hb=>hn (back b hb),fun a v _ hv=>?_,fun hw b hb=>by have:=hw b (back b hb);simpa [World.putObj]using this⟩
 by_cases e:a.block=l
 ·obtain⟨o1,ho1,U⟩:=cells_of_cell hv
  rw[e,hW]at ho1;cases ho1;rw[hc]at U;cases U
 ·rw[World.cell?_of_block (World.putObj_heap_other e)];exact hv
end Go.Lz

end
section
namespace Go.Lz
open Go.Proofs Go.RowKit
attribute [-go_sem] zl6 g_b gd_b
set_option maxRecDepth 100000
set_option maxHeartbeats 1000000
theorem arr2 {vs:Array Value} (h:vs.size=2):vs= #[vs.getD 0 undef,vs.getD 1 undef]:=by
 obtain⟨l⟩:=vs
 match l,h with
 |[I,U],_=>rfl
abbrev I64:={x:Int//IntKind.i64.min<=x/\x<=IntKind.i64.max}
def zkt (l:List Int) (a:Int):Int:=l.getD a.toNat 0
def zzo (l:List Int) (a:Int):Prop:=0<=a/\a<(l.length:Int)
theorem yez {p:xtm} {labels:List Int} {e:xtn} {lr atoms:List Int} {k:Nat} {r:Int} (aR:Pu prog 175 [.agg (xtr p),.one (.sl (labels.map eI))] (.one (.sl (lr.map eI))))
  (aV:zui ⟨p⟩ k e=some atoms) (bf:atoms.length<=1000000000) (aS:(∃a∈atoms,¬zzo lr a)->r=-1)
  (ax:(∀a∈atoms,zzo lr a)->Pu prog 177 [.agg (xt5 p.Lattice),.one (.sl ((atoms.map (zkt lr)).map eI))] (.one (.int .i64 r))):
  Pu prog 149 [.agg (xtr p),.one (.sl (labels.map eI)),.agg (xto e)] (.one (.int .i64 r)):=by
 have F:=trivial;have R:=trivial
 refine zy9 (.inl ⟨_,_,rfl⟩) (z8i 4 func149 fun E a hH hs=>?_);simp only[f149]
 have hs:SR E ⟨39,0⟩ ⟨zm7 0 [.agg (xtr p),.one (.sl (labels.map eI)),.agg (xto e)],[]⟩ a E:=hs
 refine znu hs (st':= ?s1) ?h1 ?r1
 case h1=>
  intro K k;refine tt ?_;exact k
 case r1=>
 intro a1 E1 az;refine znu az (st':= ?s2) ?h2 ?r2
 case h2=>
  intro K k;refine tt ?_;exact k
 case r2=>
 intro a2 E2 aD;refine znu aD (st':= ?s3) ?h3 ?r3
 case h3=>
  intro K k;refine tt ?_;refine cS aR ?_;refine tt ?_;exact k
 case r3=>
 intro a3 E3 aE;refine znu aE (st':= ?s4) ?h4 ?r4
 case h4=>
  intro K k;refine tt ?_;exact k
 case r4=>
 intro a4 E4 aF;refine wp_seq ?_;refine znu aF (st':= ?s5) ?h5 ?r5
 case h5=>
  intro K k;refine tt ?_;refine iS func176 ?_;simp only[f176];refine tt ?_;exact k
 case r5=>
 intro U E5 ao;refine wp_block ((wpIn_wide (n:=4)).1 ?_);obtain⟨E6,w6,H6,aG,t6⟩:=z3z (sz':=1) ao.rel (id:=5) (j:=0) (ver:=0) (sz:=1) (row:=[.slf []]) (by rw[ao.H];rfl) rfl;rw[ao.H]at H6
 have aH:=ao.later t6 aG H6
 obtain⟨I,w7,f7,ad,t7⟩:=aH.mask [0,1,3,4,6,7] [3,8,18] [6,9] (by simp[go_sem,Nat.reduceAdd,Nat.reduceMul,Nat.reduceLeDiff,Nat.reduceEqDiff,Nat.reduceLT,Int.reduceLE,Int.reduceLT,Int.reduceNeg,Int.reduceEq,Int.reduceAdd,Int.reduceSub,Int.reduceToNat,reduceCtorEq,↓reduceIte])
 have ad:SR E ⟨39,0⟩ ⟨[(3,.one (.iptr (xtr p) 0)),(8,.one (.iptr [.sl (lr.map eI)] 0)),(18,.one (.fn 193 [.iptr (zaq ⟨p⟩) 0,.iptr (xto e) 0])),(6,.one (.ref 2 0 0 0)),(9,.one (.ref 5 0 0 0))],setH 0 0 []⟩ U I:=by simpa [go_sem,Nat.reduceAdd,Nat.reduceMul,Nat.reduceLeDiff,Nat.reduceEqDiff,Nat.reduceLT,Int.reduceLE,Int.reduceLT,Int.reduceNeg,Int.reduceEq,Int.reduceAdd,Int.reduceSub,Int.reduceToNat,reduceCtorEq,↓reduceIte,setH]using ad
 rw[show E5.w=I.w by rw[w7,w6]]
 have aq:I.H=setH 0 0 []:=ad.H
 have af:SR I ⟨39,9⟩ ⟨[(3,.one (.iptr (xtr p) 0)),(8,.one (.iptr [.sl (lr.map eI)] 0)),(18,.one (.fn 193 [.iptr (zaq ⟨p⟩) 0,.iptr (xto e) 0])),(6,.one (.ref 2 0 0 0)),(9,.one (.ref 5 0 0 0))],setH 0 0 []⟩ U I:=⟨ad.len,by rw[aq];exact Wae _,ad.defers,ad.tm,ad.H,ad.rel,Trans.refl _⟩
 have ar:Trans E I:=ad.tr
 have aI:E.w.heap.size<=I.w.heap.size:=ar.size
 clear hs az aD aE aF ao aH t6 t7 aG H6 w6 w7 f7
 have c7:=z6o af.rel aq (rfl:I.bd 2=I.bd 2) rfl
 have b5:(I.bd 5).blk<I.w.heap.size:=af.rel.own_lt ((c7 _).1 (.inr (.inl rfl)))
 have b2:(I.bd 2).blk<I.w.heap.size:=af.rel.own_lt ((c7 _).1 (.inl rfl))
 obtain⟨vs,aT,aW,aJ⟩:=z4z (af.ρ (.tmp 18))
 refine wpIn_rangeFunc_ownF (α:=I64) rfl (by omega) aT trivial (zy7 ⟨f193,func193,by kernel_rfl,by kernel_rfl⟩) (encs:=fun x=> #[.int .i64 x.1]) (Kp:=KR (zw2 I)) (S:=fun xs=>xs.map Subtype.val=atoms) (Sp:=fun pre=>∃s,pre.map Subtype.val++s=atoms) (N:=atoms.length) (w0:=I.w) ?seq KR.trans
  (fun W l o o' hl hW hc _=>ymr b5 hl hW hc) (Below.refl _ _) (fun x=>rfl)
  (fun pre W=>(∀a∈pre,zzo lr a.1)/\∃E9 v,E9.w=W/\SR I ⟨39,9⟩ ⟨[(3,.one (.iptr (xtr p) 0)),(8,.one (.iptr [.sl (lr.map eI)] 0)),(18,.one (.fn 193 [.iptr (zaq ⟨p⟩) 0,.iptr (xto e) 0])),(6,.one (.ref 2 0 0 0)),(9,.one (.ref 5 0 0 0))],setH 0 v (pre.map fun a=>zkt lr a.1)⟩ U E9)
  (fun c pre W=>c=.ret/\(∃a∈pre,¬zzo lr a.1)/\∃E9 v xs,E9.w=W/\SR I ⟨39,9⟩ ⟨[(3,.one (.iptr (xtr p) 0)),(8,.one (.iptr [.sl (lr.map eI)] 0)),(18,.one (.fn 193 [.iptr (zaq ⟨p⟩) 0,.iptr (xto e) 0])),(6,.one (.ref 2 0 0 0)),(9,.one (.ref 5 0 0 0))],setH (-1) v xs⟩ U E9)
  ?hI ?hIx ⟨by simp,I,0,rfl,af⟩ (fun x=>{tmps:=(U.tmps.setIfInBounds 19 (.int .i64 x.1)).setIfInBounds 10 (.int .i64 x.1),defers:=[]}) ?hassign ?hbody ?hdone ?hstop
 case hI=>
  rintro pre W W' row ⟨h1,E9,v,rfl,h2⟩ g hr;exact⟨h1,_,v,rfl,h2.row g (fun r e=>hr r e) (fun id o ho hl=>zyb id o (h2.H▸ho) hl)⟩
 case hIx=>
  rintro c pre W W' row ⟨h0,h1,E9,v,xs,rfl,h2⟩ g hr;exact⟨h0,h1,_,v,xs,rfl,h2.row g (fun r e=>hr r e) (fun id o ho hl=>zyb id o (h2.H▸ho) hl)⟩
 case hassign=>
  intro l x W K hK
  have ez:((#[19]:Array Tmp).zip #[Value.int .i64 x.1]).foldl (fun t (p,v)=>t.setIfInBounds p v) U.tmps=U.tmps.setIfInBounds 19 (.int .i64 x.1):=by simp
  rw[ez];refine wpIn_region ?_
  show wpOpsIn (FF (some l)) _ prog _ _ [0] _ _
  refine zl7 rfl rfl (.inr rfl) (zn5 ?_)
  have aX:({tmps:=U.tmps.setIfInBounds 19 (.int .i64 x.1),defers:=[]}:Act).eval (.tmp 19)=.int .i64 x.1:=zk7 (a:={tmps:=U.tmps,defers:=[]}) (d:=19) (show 19<U.tmps.size by have h:39<=U.tmps.size:=af.len;omega)
  show K (({tmps:=U.tmps.setIfInBounds 19 (.int .i64 x.1),defers:=[]}:Act).put (some 10) (({tmps:=U.tmps.setIfInBounds 19 (.int .i64 x.1),defers:=[]}:Act).eval (.tmp 19))) W
  rw[aX];exact hK
 case seq=>
  intro l J Jx W hb hJ bg au aY;refine callsIn_wide.2 ?_
  have aK:∀b,zw2 I W b->zw2 I I.w b:=by
   rintro b (h|h|⟨o,n,cap,hp,hc⟩)
   ·exact .inl h
   ·exact .inr (.inl h)
   ·refine .inr (.inr ⟨o,n,cap,hp,?_⟩)
    rw[<-World.cell?_of_block (a:=⟨(I.bd 5).blk,(I.bd 5).off,none⟩) (hb.block _ b5)];exact hc
  have aZ:∀b,zw2 I W b->b<W.heap.size:=fun b h=>War (af.rel.own_lt ((c7 b).1 (aK b h))) hb.size
  obtain⟨v6,aL⟩:∃v,v=vs.getD 0 undef:=⟨_,rfl⟩;obtain⟨v7,aM⟩:∃v,v=vs.getD 1 undef:=⟨_,rfl⟩
  have c6:=aJ 0 _ rfl
  have c8:=aJ 1 _ rfl
  rw[<-aL]at c6;rw[<-aM]at c8;obtain⟨tG,a6⟩:=zi9 af.rel W hb.size hb.os hb.tape hb.output (fun b h=>hb.block b h)
  have an:∀b,({I with w:=W}:Env).free b->(⟨W,fun b=>b<W.heap.size/\(I.Fr b\/zw2 I W b),I.bd,[]⟩:Env).free b:=by
   rintro b ⟨q1,q2,q3⟩;refine⟨q1,?_,by rintro⟨i,o,ho,_⟩;simp at ho⟩
   rintro⟨_,q4|q4⟩
   ·exact q2 q4
   ·obtain⟨i,y,p1,p2,p3⟩:=(c7 b).1 (aK b q4)
    exact q3 ⟨i,y,p1,(zbj rfl).1 p2,p3⟩
  have aU:At (zw2 I) ((I.bd 5).blk+1) ⟨W,fun b=>b<W.heap.size/\(I.Fr b\/zw2 I W b),I.bd,[]⟩:=
   ⟨⟨by simp,by simp,by simp,fun b hb=>hb.1,a6.glob.of an (fun _ _ _=>rfl)⟩,rfl,fun b hb=>⟨aZ b hb,.inr hb⟩,WaF b5 hb.size⟩
  have r6:VRel ⟨W,fun b=>b<W.heap.size/\(I.Fr b\/zw2 I W b),I.bd,[]⟩ (.one (.iptr (zaq ⟨p⟩) 0)) v6:=
   VRel.into (E:={I with w:=W}) (m:=0) an (fun _ _ _=>rfl) (fun id h=>by omega) (.one (c6.trans tG)) (by simp[go_sem,Nat.reduceAdd,Nat.reduceMul,Nat.reduceLeDiff,Nat.reduceEqDiff,Nat.reduceLT,Int.reduceLE,Int.reduceLT,Int.reduceNeg,Int.reduceEq,Int.reduceAdd,Int.reduceSub,Int.reduceToNat,reduceCtorEq,↓reduceIte])
  have r7:VRel ⟨W,fun b=>b<W.heap.size/\(I.Fr b\/zw2 I W b),I.bd,[]⟩ (.one (.iptr (xto e) 0)) v7:=
   VRel.into (E:={I with w:=W}) (m:=0) an (fun _ _ _=>rfl) (fun id h=>by omega) (.one (c8.trans tG)) (by simp[go_sem,Nat.reduceAdd,Nat.reduceMul,Nat.reduceLeDiff,Nat.reduceEqDiff,Nat.reduceLT,Int.reduceLE,Int.reduceLT,Int.reduceNeg,Int.reduceEq,Int.reduceAdd,Int.reduceSub,Int.reduceToNat,reduceCtorEq,↓reduceIte])
  have ay:=ycb (J:=fun pre W=>∃ae:List I64,ae.map Subtype.val=pre/\J ae W) (Jx:=fun pre W=>∃ae:List I64,ae.map Subtype.val=pre/\Jx ae W) (m:=4-1-1) (l:=l) (B:=W.heap.size) (ygx k ⟨p⟩ e atoms aV) (yi4 I)
   (by rintro s A A' row ⟨q,rfl,hq⟩ g hr;exact⟨q,rfl,hJ q A A' row hq g hr⟩)
   (by
     rintro pre x W1 a7 ⟨q,rfl,hq⟩ hlen;obtain⟨fn,tm,a8,bd,y1,y2⟩:=au q ⟨x,a7⟩ W1 hq (by simpa using hlen);refine⟨fn,tm,a8,bd,y1,y2.mono ?_⟩
     rintro e' w' (⟨rfl,h1,h2⟩|⟨rfl,h1⟩)
     ·exact .inl ⟨rfl,⟨_,by simp,h1⟩,h2⟩
     ·exact .inr ⟨rfl,_,by simp,h1⟩)
   aU r6 r7 ⟨[],rfl,aY⟩ (Wae _)
  have ev:(#[Value.func (.yield l) #[] #[]]++vs)= #[.func (.yield l) #[] #[],v6,v7]:=by
   rw[arr2 (vs:=vs) (by simpa using aW),<-aL,<-aM];rfl
  rw[ev];refine ay.mono ?_
  rintro e' w' ⟨hv,⟨q,hq,h⟩|⟨ae,hs,q,rfl,h⟩⟩
  ·exact⟨hv,.inl ⟨q,hq,h⟩⟩
  ·exact⟨hv,.inr ⟨q,hs,h⟩⟩
 case hbody=>
  rintro l pre x W ⟨h1,E9,v,rfl,h2⟩ hlen
  show Code.wpIn (FF (some l)) _ prog _ _ _ E9.w
  obtain⟨ys,av⟩:∃ys,ys=pre.map fun a=>zkt lr a.1:=⟨_,rfl⟩;rw[<-av]at h2
  have aj:SR E9 ⟨39,9⟩ _ U E9:=⟨h2.len,by rw[h2.H];exact Wae _,h2.defers,h2.tm,h2.H,h2.rel,Trans.refl _⟩
  have al:=(aj.put (o:={dst:=some 19,op:=.move (.tmp 0),type:=0,pos:= "",after:= #[],guard:=none}) (fun _ e=>by cases e;decide) (x:=.one (.int .i64 x.1)) (v:=.int .i64 x.1) (.one (.int x.2)) aj.H aj.rel (Trans.refl _)).put (o:={dst:=some 10,op:=.move (.tmp 0),type:=0,pos:= "",after:= #[],guard:=none}) (fun _ e=>by cases e;decide) (x:=.one (.int .i64 x.1)) (v:=.int .i64 x.1) (.one (.int x.2)) aj.H aj.rel (Trans.refl _)
  have ea:({tmps:=(U.tmps.setIfInBounds 19 (.int .i64 x.1)).setIfInBounds 10 (.int .i64 x.1),defers:=[]}:Act)=(U.put (some 19) (.int .i64 x.1)).put (some 10) (.int .i64 x.1):=by simp[Act.put,h2.defers]
  have al:SR E9 ⟨39,9⟩ ⟨[(10,.one (.int .i64 x.1)),(19,.one (.int .i64 x.1)),(3,.one (.iptr (xtr p) 0)),(8,.one (.iptr [.sl (lr.map eI)] 0)),(18,.one (.fn 193 [.iptr (zaq ⟨p⟩) 0,.iptr (xto e) 0])),(6,.one (.ref 2 0 0 0)),(9,.one (.ref 5 0 0 0))],setH 0 v ys⟩ {tmps:=(U.tmps.setIfInBounds 19 (.int .i64 x.1)).setIfInBounds 10 (.int .i64 x.1),defers:=[]} E9:=by rw[ea];exact al
  generalize ({tmps:=(U.tmps.setIfInBounds 19 (.int .i64 x.1)).setIfInBounds 10 (.int .i64 x.1),defers:=[]}:Act)=aA at al|-
  have ak:∀id o,E9.H[id]? =some o->E9.live id o->∃ver sz rows,o=.cells ver sz rows:=fun id o ho hl=>zyb id o (h2.H▸ho) hl
  refine wpIn_block ?_
  by_cases aN:x.1<0
  ·have F:=And.intro aN F
   refine wpIn_seq (wpIn_seq (regZ al (st':= ?sB1) ?hB1 ?qB1))
   case hB1=>
    intro K kk;simp only[setH];refine tr ?_;intros;exact kk
   case qB1=>
    intro aB EB ai
    have cB:aB.eval (.tmp 27)=.bool true:=bool_inv (one_inv (show VRel EB (.one (.bool true)) (aB.tmps.getD 27 undef)from ai.tm 27))
    refine wpIn_cond cB ?_;simp only[if_true];refine wpIn_seq (regZ ai (st':= ?sC1) ?hC1 ?qC1)
    case hC1=>
     intro K kk;refine tt ?_;exact kk
    case qC1=>
     intro aC EC aa;refine wpIn_ret ?_
     show KeepsOthers E9.w EC.w/\_
     exact⟨zvg h2.rel aa.tr ak,rfl,⟨x,by simp,(fun h=>by have:=h.1;omega)⟩,EC,v,ys,rfl,h2.later aa.tr aa.rel aa.H⟩
  have F:=And.intro (show 0<=x.1 by omega) (And.intro (show¬x.1<0 from aN) F)
  by_cases aO:(lr.length:Int)<=x.1
  ·have F:=And.intro aO F
   refine wpIn_seq (wpIn_seq (regZ al (st':= ?sB2) ?hB2 ?qB2))
   case hB2=>
    intro K kk;simp only[setH];refine tr ?_;intros;exact kk
   case qB2=>
    intro aB EB ai
    have cB:aB.eval (.tmp 27)=.bool true:=bool_inv (one_inv (show VRel EB (.one (.bool true)) (aB.tmps.getD 27 undef)from ai.tm 27))
    refine wpIn_cond cB ?_;simp only[if_true];refine wpIn_seq (regZ ai (st':= ?sC2) ?hC2 ?qC2)
    case hC2=>
     intro K kk;refine tt ?_;exact kk
    case qC2=>
     intro aC EC aa;refine wpIn_ret ?_
     show KeepsOthers E9.w EC.w/\_
     exact⟨zvg h2.rel aa.tr ak,rfl,⟨x,by simp,(fun h=>by have:=h.2;omega)⟩,EC,v,ys,rfl,h2.later aa.tr aa.rel aa.H⟩
  have hy:lr[x.1.toNat]? =some (zkt lr x.1):=by
   unfold zkt;rw[List.getD_eq_getElem?_getD,Wac (show x.1.toNat<lr.length by omega)];rfl
  have bh:ys.length=pre.length:=by rw[av];simp
  generalize a9:zkt lr x.1=y at hy
  have F:=And.intro (show x.1<(lr.length:Int)/\¬(lr.length:Int)<=x.1/\x.1.toNat<lr.length/\lr[x.1.toNat]? =some y/\ys.length<=1000000000 from⟨by omega,aO,by omega,hy,by omega⟩) F
  refine wpIn_seq (wpIn_seq (regZ al (st':= ?sB3) ?hB3 ?qB3))
  case hB3=>
   intro K kk;simp only[setH];refine tr ?_;intros;exact kk
  case qB3=>
   intro aB EB ai
   have cB:aB.eval (.tmp 27)=.bool false:=bool_inv (one_inv (show VRel EB (.one (.bool false)) (aB.tmps.getD 27 undef)from ai.tm 27))
   refine wpIn_cond cB ?_;simp only[WaD,if_false];refine wpIn_skip ?_;refine yqz ai (st':= ?sC3) ?hC3 ?qC3
   case hC3=>
    intro K kk;refine tr ?_;intros;exact kk
   case qC3=>
    intro aC EC aa
    have aP:EC.H=setH 0 (v+1) (ys++[y]):=by rw[aa.H];simp[setH];rfl
    show KeepsOthers E9.w EC.w/\_
    refine⟨zvg h2.rel aa.tr ak,yry h2.rel aa.rel h2.tr aa.tr aq h2.H aP,?_,EC,v+1,rfl,?_⟩
    ·intro a ha
     rcases WaN.1 ha with ha|ha
     ·exact h1 a ha
     ·simp at ha;subst ha;exact⟨by omega,by omega⟩
    ·have e3:(pre++[x]).map (fun a=>zkt lr a.1)=ys++[y]:=by rw[av,<-a9];simp
     rw[e3];exact h2.later aa.tr aa.rel aP
 case hdone=>
  rintro D xs W hle aQ ⟨h1,E9,v,rfl,h2⟩ hD
  have ba:({U with defers:={target:=Target.collected D,args:= #[]}::U.defers}:Act)=addD [{target:=Target.collected D,args:= #[]}] U:=by simp[addD,h2.defers]
  rw[ba]
  show Code.wp prog _ _ (addD [{target:=.collected D,args:= #[]}] U) E9.w
  have aw:=ax (by rw[<-aQ];intro a ha;obtain⟨y,hy,rfl⟩:=Wau.1 ha;exact h1 y hy)
  have e1:atoms.map (zkt lr)=xs.map fun a=>zkt lr a.1:=by rw[<-aQ,Wbo];rfl
  rw[e1]at aw
  generalize (xs.map fun a=>zkt lr a.1)=ys at aw h2
  have aj:SR E9 ⟨39,9⟩ _ U E9:=⟨h2.len,by rw[h2.H];exact Wae _,h2.defers,h2.tm,h2.H,h2.rel,Trans.refl _⟩
  refine wp_seq (wp_region (zuh (Q:=fun e a' w'=>e=.normal/\∃E',E'.w=w'/\SR E9 ⟨39,9⟩ ?s7 a' E') ?hq _ U E9.w (yao (id:=9) aj (st':= ?s7) ?h7 ?hQ)))
  case h7=>
   intro K k;simp only[setH];refine tt ?_;refine cS aw ?_;refine tt ?_;exact k
  case hQ=>exact fun a' E' h=>⟨rfl,E',rfl,h⟩
  case hq=>
   rintro e' a' w' ⟨rfl,E8,rfl,ab⟩;refine wp_ret ?_
   have bb:E8.w.heap[D]? =some (.deferred (some [])):=by
    rw[ab.tr.keep D (Was.1 hD).1 (zoh h2.rel hD)];exact hD
   have h3:SR E ⟨39,0⟩ _ a' E8:=⟨ab.len,by rw[hH];exact Wae _,ab.defers,ab.tm,ab.H,ab.rel,(ar.trans h2.tr).trans ab.tr⟩
   have h9:=zyi (P:=prog) (n:=4) (fn:=f149) (K:=fun v _=>v=.one (.int .i64 r)) h3 bb (WaF aI hle) (by simp[go_sem,Nat.reduceAdd,Nat.reduceMul,Nat.reduceLeDiff,Nat.reduceEqDiff,Nat.reduceLT,Int.reduceLE,Int.reduceLT,Int.reduceNeg,Int.reduceEq,Int.reduceAdd,Int.reduceSub,Int.reduceToNat,reduceCtorEq,↓reduceIte,resK,zks,f149,setH])
   show LeavesInM _ _ _ _ a'.tmps _ (a'.defers++_) _ _
   rw[ab.defers];exact h9
 case hstop=>
  rintro D c pre W hle ⟨s,hs⟩ ⟨rfl,⟨a,ha,bc⟩,E9,v,xs,rfl,h2⟩ hD
  have hr:r=-1:=aS ⟨a.1,by rw[<-hs];exact List.mem_append_left _ (List.mem_map_of_mem ha),bc⟩
  refine wpIn_ret ?_
  have h3:SR E ⟨39,0⟩ _ U E9:=⟨h2.len,by rw[hH];exact Wae _,h2.defers,h2.tm,h2.H,h2.rel,ar.trans h2.tr⟩
  have h9:=zyi (P:=prog) (n:=4) (fn:=f149) (K:=fun v _=>v=.one (.int .i64 r)) h3 hD (WaF aI hle) (by simp[go_sem,Nat.reduceAdd,Nat.reduceMul,Nat.reduceLeDiff,Nat.reduceEqDiff,Nat.reduceLT,Int.reduceLE,Int.reduceLT,Int.reduceNeg,Int.reduceEq,Int.reduceAdd,Int.reduceSub,Int.reduceToNat,reduceCtorEq,↓reduceIte,resK,zks,f149,setH,hr])
  show LeavesInM _ _ _ _ U.tmps _ (_::U.defers) _ _
  rw[h2.defers];exact h9
instance (l:List Int) (a:Int):Decidable (zzo l a):=by unfold zzo;infer_instance
noncomputable def zo4 (p:xtm) (labels:List Int) (e:xtn):Option Int:=
 (zoz ⟨p⟩ labels).bind fun l=>(zui ⟨p⟩ 1000000 e).bind fun xs=>need (xs.length<=1000000000) (if∀a∈xs,zzo l a then zun p.Lattice (xs.map (zkt l))else some (-1))
theorem z24 {p:xtm} {labels:List Int} {e:xtn} {r:Int} (h:zo4 p labels e=some r):Pu prog 149 [.agg (xtr p),.one (.sl (labels.map eI)),.agg (xto e)] (.one (.int .i64 r)):=by
 unfold zo4 at h;obtain⟨l,h1,h⟩:=Wbk.1 h;obtain⟨xs,h2,h⟩:=Wbk.1 h;obtain⟨h3,h⟩:=z2u h
 have ha:=zzp h1
 refine yez ha h2 h3 (fun⟨a,ha,hn⟩=>?_) (fun I=>?_)
 ·rw[if_neg (fun h=>hn (h a ha))]at h
  exact(Wab h).symm
 ·rw[if_pos I]at h
  exact z3w h
end Go.Lz

end
section
namespace Go.Lz
theorem z53 {p:xtm} {e:xtn} {rec:xtm->xtn->Option (List Int)} {W:xtn->Option (List Int)} {f:List Int×Nat->Option ((List Int×Nat)⊕List Int)}
  (hf:∀l i,f (l,i)=if(i:Int)<(e.Args.length:Int)then((e.Args[i]?).bind fun x=>(rec p x).bind fun r=>need ((l.length+r.length)*8<=140737488355328) (some (.inl ((l++r),(i+1)))))else(some (.inr l)))
  (U:∀x∈e.Args,∃l,rec p x=some l/\W x=some l/\l.length<=szE x):∀(n i:Nat) (acc:List Int),e.Args.length-i=n->i<=e.Args.length->acc.length+szEs (e.Args.drop i)<=1000000000->
    ∃l,z8o W (e.Args.drop i)=some l/\loop f (acc,i)=some (acc++l)/\l.length<=szEs (e.Args.drop i)
 |0,i,acc,hn,hi,hb=>by
  have e1:e.Args.drop i=[]:=Wbx (by omega)
  rw[e1];refine⟨[],rfl,?_,Waf _⟩;rw[zcs (r:=acc) (by rw[hf,if_neg (by omega)])];simp
 |n+1,i,acc,hn,hi,hb=>by
  have I:i<e.Args.length:=by omega
  rw[Wa3 I,szEs]at hb;obtain⟨l1,h1,h2,h3⟩:=U e.Args[i] (Wap I);obtain⟨l2,g1,g2,g3⟩:=z53 hf U n (i+1) (acc++l1) (by omega) (by omega) (by simp;omega);refine⟨l1++l2,?_,?_,?_⟩
  ·rw[Wa3 I,z8o,h2,Waa,g1];rfl
  ·rw[zkn (s':=(acc++l1,i+1)) (by rw[hf,if_pos (by omega),Wac I,Waa,h1,Waa,zc9 (by omega)]),g2,Wbl]
  ·rw[Wa3 I,szEs];simp;omega
theorem ym0 {p:xtm}:∀(d f1 f2:Nat),d<f1->d<f2->∀(e:xtn),depE e<=d->szE e<=100000000->∃l,zui ⟨p⟩ f1 e=some l/\zaz f2 p e=some l/\l.length<=szE e
 |0,f1,f2,h1,h2,e,hd,hs=>by rw[zd5]at hd;omega
 |d+1,f1+1,f2+1,h1,h2,e,hd,hs=>by
  have hsz:=zum e
  have I:∀x∈e.Args,∃l,zaz f2 p x=some l/\zui ⟨p⟩ f1 x=some l/\l.length<=szE x:=fun x hx=>by
   obtain⟨l,q1,q2,q3⟩:=ym0 (p:=p) d f1 f2 (by omega) (by omega) x (by rw[zd5]at hd;have:=zgs hx;omega) (by have:=zpz hx;omega);exact⟨l,q2,q1,q3⟩
  show∃l,zui ⟨p⟩ (f1+1) e=some l/\zdb (zaz f2) p e=some l/\_
  unfold zui zdb
  by_cases o2:e.Op=2
  ·exact⟨[varN p e.Name],by rw[if_pos o2,zvw];rfl,by rw[if_pos o2,zpc];rfl,by simp;omega⟩
  simp only[if_neg o2]
  by_cases o4:e.Op=4
  ·exact⟨[w64 ((p.Vars.length:Int)+zio p e.Name)],by rw[if_pos o4];unfold zm2;rw[zyg];rfl,by rw[if_pos o4,zmo];rfl,by simp;omega⟩
  simp only[if_neg o4]
  by_cases U:e.Op=21
  ·exact⟨[w64 (w64 (w64 ((p.Vars.length:Int)+p.Blocks.length)+w64 (2*zou p e.Name))+1)],by rw[if_pos U];unfold zp3;rw[z0k];rfl,by rw[if_pos U,zr1];rfl,by simp;omega⟩
  simp only[if_neg U]
  by_cases o3:e.Op=3
  ·simp only[if_pos o3,zvw,zpc,Waa,Wbq]
   obtain⟨l,q1,q2,q3⟩:=z53 (p:=p) (e:=e) (rec:=zaz f2) (W:=zui ⟨p⟩ f1) (f:=zky (zaz f2) p e) (fun l i=>rfl) I _ 0 [varN p e.Name] rfl (Waf _) (by simp;omega);rw[WbG]at q1 q3;exact⟨varN p e.Name::l,by rw[q1];rfl,by rw[q2];rfl,by simp;omega⟩
  ·simp only[if_neg o3,Waa]
   obtain⟨l,q1,q2,q3⟩:=z53 (p:=p) (e:=e) (rec:=zaz f2) (W:=zui ⟨p⟩ f1) (f:=zkx (zaz f2) p e) (fun l i=>rfl) I _ 0 [] rfl (Waf _) (by simp;omega);rw[WbG]at q1 q3;exact⟨l,by rw[q1];rfl,by rw[q2];rfl,by omega⟩
theorem ykp (p:xtm) (labels:List Int):zoz ⟨p⟩ labels=zdg p labels:=rfl
theorem z0t {l:List Int}:∀(n:Nat) (xs:List Int) (i:Nat) (acc:List Int),xs.length-i=n->i<=xs.length->xs.length<=1000000000->acc.length=i->
  loop (zc5 l xs) (acc,i)=some (if∀a∈xs.drop i,zzo l a then .inr (acc++(xs.drop i).map (zkt l))else .inl (-1))
 |0,xs,i,acc,hn,hi,hb,ha=>by
  have e1:xs.drop i=[]:=Wbx (by omega)
  rw[zcs (r:=.inr acc) (by simp only[zc5];rw[if_neg (by omega)]),e1];simp
 |n+1,xs,i,acc,hn,hi,hb,ha=>by
  have I:i<xs.length:=by omega
  rw[Wa3 I]
  by_cases h0:zzo l xs[i]
  ·have aa:0<=xs[i]/\xs[i]<(l.length:Int):=h0
   have U:idx l xs[i]=some (zkt l xs[i]):=by
    unfold idx zkt;rw[if_pos aa.1,List.getD_eq_getElem?_getD,Wac (show xs[i].toNat<l.length by omega)];rfl
   have n0:(i:Int)<(xs.length:Int):=by omega
   have n1:¬xs[i]<0:=by omega
   have n2:¬(l.length:Int)<=xs[i]:=by omega
   have n3:(acc.length+1)*8<=140737488355328:=by omega
   rw[zkn (s':=(acc++[zkt l xs[i]],i+1)) (by simp only[zc5];rw[if_pos n0,Wac I,Waa,if_neg n1,if_neg n2,U,Waa,zc9 n3])];rw[z0t n xs (i+1) (acc++[zkt l xs[i]]) (by omega) (by omega) hb (by simp;omega)]
   by_cases hr:∀a∈xs.drop (i+1),zzo l a
   ·rw[if_pos hr,if_pos (fun a ha=>by rcases WaB.1 ha with rfl|ha;exact h0;exact hr a ha),Wbg,Wbl];rfl
   ·rw[if_neg hr,if_neg (fun h=>hr fun a ha=>h a (WbO _ ha))]
  ·rw[if_neg (fun h=>h0 (h _ (WbP ..)))]
   have:xs[i]<0\/(l.length:Int)<=xs[i]:=by unfold zzo at h0;omega
   rw[zcs (r:=.inl (-1)) (by
    simp only[zc5];rw[if_pos (by omega),Wac I,Waa]
    rcases this with h|h
    ·rw[if_pos h]
    ·by_cases h2:xs[i]<0
     ·rw[if_pos h2]
     ·rw[if_neg h2,if_pos h])]
theorem yiv {p:xtm} {e:xtn} (hn:p.Lattice.Names.length<=1000000) (U:depE e<=999999) (hs:szE e<=100000000) (labels:List Int):zo4 p labels e=zb1 p labels e:=by
 obtain⟨xs,h1,h2,h3⟩:=ym0 (p:=p) 999999 1000000 1000000 (by omega) (by omega) e U hs;unfold zo4 zb1;rw[ykp]
 cases zdg p labels with
 |none=>rfl
 |some l=>
  simp only[Waa];rw[h1,show zdf p e=some xs from h2,Waa,Waa,zc9 (by omega),z0t _ xs 0 [] rfl (Waf _) (by omega) rfl,WbG]
  by_cases I:∀a∈xs,zzo l a
  ·obtain⟨r,r1,r2⟩:=yo4 (l:=p.Lattice) hn (xs.map (zkt l))
   rw[if_pos I,if_pos I,r1];simp only[Waa,List.nil_append];rw[r2];rfl
  ·rw[if_neg I,if_neg I];rfl
end Go.Lz

end
section
namespace Go.Lz
theorem z5k {p:xtm} (P:zlc p) {I:List Int} (ha:∀x∈I,rg x) {e:xtn} (g:GoodE e) {l:List (A2 Int)} (hl:SL l):Tot (zf9 p l e I) SL:=
 z3x P ha 1000000 e l g.ok (by have:=g.sz;omega) (by have:=g.dep;omega) (by have:=g.dep;omega) hl
theorem zz6 {p:xtm} (P:zlc p) {I:List Int} (ha:∀x∈I,rg x) {t:List xtn} (ht:∀x∈t,GoodE x) (hn:t.length<=16384) {l:List (A2 Int)} (hl:SL l):
  Tot (zda p l t I) fun r=>SL r.1/\(∀x∈r.2,rg x)/\r.2.length<=330000000:=by
 unfold zda;refine Tot.bind (Tot.loop (fun s:List (A2 Int)×List Int×Nat=>s.2.2<=t.length/\SL s.1/\(∀x∈s.2.1,rg x)/\s.2.1.length<=20000*s.2.2) (R:=fun r=>SL r.1/\(∀x∈r.2,rg x)/\r.2.length<=330000000) (fun s=>t.length-s.2.2) ⟨Waf _,hl,(fun y hy=>by cases hy),Waf _⟩ fun⟨l,h,i⟩ ⟨hi,h1,h2,h3⟩=>?_) fun r hr=>Tot.mk hr;simp only at hi h1 h2 h3;unfold zjn;refine Tot.ite (fun h'=>?_) fun _=>Tot.mk ⟨h1,h2,by simp only;omega⟩
 refine(Tot.get (by omega)).bind fun x U=>(z5k P ha (ht x U.1) h1).bind fun r q=>(ye8 P (ht x U.1)).bind fun g ⟨g1,g2⟩=>(ztd (by omega) (by omega) h2 g1).bind fun b ⟨b1,b2⟩=>Tot.mk ⟨⟨by simp only;omega,q,b1,by simp only;omega⟩,by simp only;omega⟩
theorem z3u {p:xtm} (P:zlc p):∀(n:Nat) (s:List xtp) (l:List (A2 Int)) (I:List Int),fmSs s->zgr s<=1000->zgr s+1<=n->SL l->(∀x∈I,rg x)->I.length+20001*zgr s<=100000000->Tot (zdi n p l s I) SL
 |0,s,_,_,_,_,h,_,_,_=>by omega
 |n+1,s,l,I,ok,hd,h,hl,ha,hz=>by
  have p1:=P.nv;have p2:=P.nb
  have v0:∀s,rg (varN p s):=fun s=>by have:=zv1 (q:=fun(v:xtv)=>decide (v.Name=s)) p1;unfold varN rg;omega
  have b0:∀s,-1<=zio p s/\zio p s<12:=fun s=>by have:=zv1 (q:=fun(v:xt1)=>decide (v.Name=s)) p2;unfold zio;omega
  show Tot (zer (zdi n) p l s I) _
  unfold zer;refine Tot.bind (Tot.loop (fun x=>x.2<=s.length/\SL x.1) (R:=SL) (fun x=>s.length-x.2) ⟨Waf _,hl⟩ fun⟨l,i⟩ ⟨hi,hl⟩=>?_) fun r hr=>Tot.mk hr;simp only at hi hl;unfold zjo;simp only[zpc,zmo,Waa];refine Tot.ite (fun h'=>(Tot.get (by omega)).bind fun x hx=>?_) fun _=>Tot.mk hl
  have fx:=zxo ok x hx.1
  have dx:=zod hx.1
  have F:=zzx fx
  rw[z41]at fx;rw[zvk]at dx
  have K:=F.kinds
  have go:∀r:List (A2 Int),SL r->Rd (fun x=>x.2<=s.length/\SL x.1) SL (fun x:List (A2 Int)×Nat=>s.length-x.2) (s.length-i) (.inl (r,i+1)):=fun r hr=>⟨⟨by simp only;omega,hr⟩,by simp only;omega⟩
  have sub:∀(b:List xtp) (r:List (A2 Int)) (ar:List Int),fmSs b->zgr b+1<=zgr s->SL r->(∀x∈ar,rg x)->ar.length<=I.length+20000->Tot (zdi n p r b ar) SL:=fun b r ar h1 h2 h3 h4 h5=>z3u P n b r ar h1 (by omega) (by omega) h3 h4 (by omega)
  have aa:I.length<=100000000:=by omega
  refine Tot.ite (fun k=>?_) fun k1=>Tot.ite (fun k=>?_) fun k2=>Tot.ite (fun k=>?_) fun k3=>Tot.ite (fun k=>?_) fun k4=>Tot.ite (fun k=>?_) fun k5=>Tot.mk (go l hl)
  ·obtain⟨gt,op,U⟩:GoodE x.Target/\(x.Target.Op=2\/(x.Target.Op=3/\x.Target.Args.length=1))/\GoodE x.Value:=by
    rcases K with h|h|h|h
    ·exact h.2.2.2.2
    all_goals omega
   have t2:Tot (zga x) fun r=>(∀y∈r,GoodE y)/\r.length<=16384:=by
    unfold zga;refine Tot.ite (fun o=>(Tot.get (by omega)).bind fun y hy=>Tot.mk ⟨fun z hz=>?_,by simp⟩) fun _=>Tot.mk ⟨fun z hz=>by rw[WaX.1 hz];exact U,by simp⟩
    rcases WaB.1 hz with e|hz
    ·rw[e]
     have ht:=gt.ok
     rw[zzc]at ht;exact⟨zlu ht.2 y hy.1,by have:=gt.dep;rw[zd5]at this;have:=zgs hy.1;omega,by have:=gt.sz;rw[zum]at this;have:=zpz hy.1;omega⟩
    ·rw[WaX.1 hz];exact U
   exact t2.bind fun t ht=>(zz6 P ha ht.1 ht.2 hl).bind fun r ⟨r1,r2,r3⟩=>(ztd (by omega) (by omega) r2 ha).bind fun b hb=>(zxx r1 hb.1 (v0 _)).bind fun q hq=>Tot.mk (go q hq)
  ·have U:GoodE x.Value:=by
    rcases K with h|h|h|h
    ·omega
    ·exact h.2.2.2
    all_goals omega
   refine(ye8 P U).bind fun g ⟨g1,g2⟩=>(ztd (by omega) (by omega) ha g1).bind fun b ⟨b1,b2⟩=>Tot.ite (fun _=>by omega) fun _=>(z5k P ha U hl).bind fun r hr=>?_;exact(sub x.Body r b fx.2.1 (by omega) hr b1 (by omega)).bind fun r hr=>(sub x.Else r b fx.2.2 (by omega) hr b1 (by omega)).bind fun r hr=>Tot.mk (go r hr)
  ·have U:GoodE x.Value:=by
    rcases K with h|h|h|h
    ·omega
    ·exact h.2.2.2
    all_goals omega
   refine(ye8 P U).bind fun g ⟨g1,g2⟩=>(ztd (by omega) (by omega) ha g1).bind fun b ⟨b1,b2⟩=>(z5k P b1 U hl).bind fun r hr=>?_;exact(sub x.Body r b fx.2.1 (by omega) hr b1 (by omega)).bind fun r hr=>(sub x.Else r b fx.2.2 (by omega) hr b1 (by omega)).bind fun r hr=>Tot.mk (go r hr)
  ·refine(zz6 P ha F.args F.alen hl).bind fun r ⟨r1,r2,r3⟩=>(ztd (by omega) (by omega) r2 ha).bind fun b hb=>(zxx r1 hb.1 (v0 _)).bind fun q hq=>(ztd (by omega) (by simp) ha (fun y hy=>by rw[WaX.1 hy];exact v0 _)).bind fun ar ⟨a1,a2⟩=>?_
   simp only[Wby]at a2;exact(sub x.Body q ar fx.2.1 (by omega) hq a1 (by omega)).bind fun r hr=>Tot.mk (go r hr)
  ·refine(zz6 P ha F.args F.alen hl).bind fun r ⟨r1,r2,r3⟩=>(ztd (by omega) (by omega) r2 ha).bind fun b hb=>(zxx r1 hb.1 ?_).bind fun q hq=>Tot.mk (go q hq)
   have:=b0 x.Name
   unfold rg;rw[zhd (by omega) (by omega)];omega
theorem z30 {p:xtm} (G:zpt p) (I:∀t∈p.Tasks,zgr t.Body<=120):Tot (zgb p) SL:=by
 unfold zgb;refine Tot.bind (Tot.loop (fun x=>x.2<=p.Tasks.length/\SL x.1) (R:=SL) (fun x=>p.Tasks.length-x.2) ⟨Waf _,SL.nil⟩ fun⟨l,i⟩ ⟨hi,hl⟩=>?_) fun r hr=>Tot.mk hr;simp only at hi hl;unfold zjq;exact Tot.ite (fun U=>(Tot.get (by omega)).bind fun t ht=>(z3u G.P 1000000 t.Body l [] (G.T t ht.1).ok (by have:=I t ht.1;omega) (by have:=I t ht.1;omega) hl (fun y hy=>by cases hy) (by have:=I t ht.1;simp;omega)).bind fun r hr=>Tot.mk ⟨⟨by simp only;omega,hr⟩,by simp only;omega⟩) fun _=>Tot.mk hl
theorem z65 {p:xtm} (P:zlc p):Tot (zhk p) fun r=>r.length=p.Vars.length+p.Blocks.length:=by
 have U:=P.nv;have p2:=P.nb
 unfold zhk;refine Tot.bind (Tot.loop (fun x=>x.2<=p.Vars.length/\x.1.length=x.2) (R:=fun r=>r.length=p.Vars.length) (fun x=>p.Vars.length-x.2) ⟨Waf _,rfl⟩ fun⟨l,i⟩ ⟨hi,hl⟩=>?_) fun l1 h1=>?_
 ·simp only at hi hl
  unfold zj9;exact Tot.ite (fun I=>(Tot.get (by omega)).bind fun t ht=>Tot.need (by omega) (Tot.mk ⟨⟨by simp only;omega,by simp[hl]⟩,by simp only;omega⟩)) fun _=>Tot.mk (show l.length=_ by omega)
 ·refine Tot.bind (Tot.loop (fun x=>x.2<=p.Blocks.length/\x.1.length=p.Vars.length+x.2) (R:=fun r=>r.length=p.Vars.length+p.Blocks.length) (fun x=>p.Blocks.length-x.2) ⟨Waf _,h1⟩ fun⟨l,i⟩ ⟨hi,hl⟩=>?_) fun r hr=>Tot.mk hr
  simp only at hi hl;unfold zj8;exact Tot.ite (fun I=>(Tot.get (by omega)).bind fun t ht=>Tot.need (by omega) (Tot.mk ⟨⟨by simp only;omega,by simp only[Wai,Wby];omega⟩,by simp only;omega⟩)) fun _=>Tot.mk (show l.length=_ by omega)
theorem z6u {p:xtm} (P:zlc p) {labels:List Int}:Tot (zdg p labels) fun r=>r.length=p.Vars.length+p.Blocks.length+2*p.Sites.length:=by
 have U:=P.nv;have p2:=P.nb;have p3:=P.ns
 unfold zdg;refine Tot.bind (Tot.loop (fun x=>x.2<=p.Vars.length+p.Blocks.length/\x.1.length=x.2) (R:=fun r=>r.length=p.Vars.length+p.Blocks.length) (fun x=>p.Vars.length+p.Blocks.length-x.2) ⟨Waf _,rfl⟩ fun⟨l,i⟩ ⟨hi,hl⟩=>?_) fun l1 h1=>?_
 ·simp only at hi hl
  unfold zk0;rw[zhd (by omega) (by omega)];exact Tot.ite (fun I=>Tot.ite (fun _=>(Tot.get (by omega)).bind fun t ht=>Tot.need (by omega) (Tot.mk ⟨⟨by simp only;omega,by simp[hl]⟩,by simp only;omega⟩)) fun _=>Tot.need (by omega) (Tot.mk ⟨⟨by simp only;omega,by simp[hl]⟩,by simp only;omega⟩)) fun _=>Tot.mk (show l.length=_ by omega)
 ·refine Tot.bind (Tot.loop (fun x=>x.2<=p.Sites.length/\x.1.length=p.Vars.length+p.Blocks.length+2*x.2) (R:=fun r=>r.length=p.Vars.length+p.Blocks.length+2*p.Sites.length) (fun x=>p.Sites.length-x.2) ⟨Waf _,h1⟩ fun⟨l,i⟩ ⟨hi,hl⟩=>?_) fun r hr=>Tot.mk hr
  simp only at hi hl;unfold zkz;exact Tot.ite (fun I=>(Tot.get (by omega)).bind fun t ht=>Tot.need (by omega) (Tot.mk ⟨⟨by simp only;omega,by simp only[Wai,Waj,Wam];omega⟩,by simp only;omega⟩)) fun _=>Tot.mk (show l.length=_ by omega)
theorem yb6 {p:xtm} (G:zpt p) (I:∀t∈p.Tasks,zgr t.Body<=120) (L:Lat p.Lattice):Tot (zbo p) fun r=>r.2=0->r.1.length=p.Vars.length+p.Blocks.length:=by
 have P:=G.P
 have p1:=P.nv;have p2:=P.nb;have p3:=P.ns
 unfold zbo;refine(z65 P).bind fun t _=>(z6u P).bind fun f hf=>(z30 G I).bind fun rules _=>?_;obtain⟨r,hr,U⟩:=ybq L (fixed:=f) (by omega) rules;rw[hr,Waa,zhd (by omega) (by omega)]
 refine Tot.ite (fun h=>?_) fun _=>Tot.mk fun h=>by cases h
 have:=U.len h
 exact Tot.need (by omega) (Tot.mk fun _=>by simp only[WaA];omega)
theorem ye7 {p:xtm} (G:zpt p) (U:∀t∈p.Tasks,zgr t.Body<=120) (L:Lat p.Lattice) {l:List Int} (h:zbo p=some (l,0)):∀x∈l,inN p.Lattice x:=by
 have P:=G.P
 have p1:=P.nv;have p2:=P.nb;have p3:=P.ns
 unfold zbo at h;obtain⟨t,e1,_⟩:=z65 P;obtain⟨f,e2,hf⟩:=z6u P (labels:=t);obtain⟨rules,e3,_⟩:=z30 G U;obtain⟨r,hr,I⟩:=ybq L (fixed:=f) (by omega) rules;rw[e1,Waa,e2,Waa,e3,Waa,hr,Waa,zhd (by omega) (by omega)]at h
 by_cases h2:r.2=true
 ·rw[if_pos h2]at h
  have:=I.len h2
  rw[zc9 (by omega)]at h;cases h;exact fun x hx=>I.all h2 x (Wa2 hx)
 ·rw[if_neg h2]at h;cases h
end Go.Lz

end
section
namespace Go.Lz
section
variable {P:Program} {n:Cf} {Fs:List Fr} {Q:Ex->St->Prop}
theorem cL8 {f:FuncId} {args0 args:List V} {H H0 H1':List O} {d:Option Nat} {S Fl FE:List Nat} {k:Nat} {rest:List Oper} {t:List (Nat×V)} {x0:V} (ids:List Nat) (x:V) (H1:List O) (h:Ct P f args0 H0 fun v H'=>v=x0/\H'=H1')
  (hk:flA (FE.contains k) S H H1/\awpS P n (.flo S Fl FE (k+1) rest::Fs) (St.put ⟨t,H⟩ d x H1) Q)
  (hnd:ids.Nodup:=by decide) (hlt:∀i∈ids,i<H.length:=by simp)
  (hH0:zlj ids H=H0:=by first|rfl|(simp[zlj,zkp,O.ren,C.ren,V.ren,V.ren.renVs,zeo,zbd,O.refs,C.refs,V.refs,V.refs.refsVs,zb9,zay,Wax,Way,go_sem];done))
  (hcl:(ids.all fun i=>(H.getD i .dead).refs (fun j=>ids.contains j))=true:=by first|rfl|(simp[zlj,zkp,O.ren,C.ren,V.ren,V.ren.renVs,zeo,zbd,O.refs,C.refs,V.refs,V.refs.refsVs,zb9,zay,Wax,Way,go_sem];done))
  (ha:args.map (V.ren fun j=>ids.idxOf j)=args0:=by first|rfl|(simp[zlj,zkp,O.ren,C.ren,V.ren,V.ren.renVs,zeo,zbd,O.refs,C.refs,V.refs,V.refs.refsVs,zb9,zay,Wax,Way,go_sem];done))
  (har:(args.all fun x=>x.refs (fun j=>ids.contains j))=true:=by first|rfl|(simp[zlj,zkp,O.ren,C.ren,V.ren,V.ren.renVs,zeo,zbd,O.refs,C.refs,V.refs,V.refs.refsVs,zb9,zay,Wax,Way,go_sem];done))
  (hl1:H1'.length=ids.length:=by first|rfl|(simp[zlj,zkp,O.ren,C.ren,V.ren,V.ren.renVs,zeo,zbd,O.refs,C.refs,V.refs,V.refs.refsVs,zb9,zay,Wax,Way,go_sem];done))
  (hx1:x0.refs (fun k=>decide (k<ids.length))=true:=by first|rfl|(simp[zlj,zkp,O.ren,C.ren,V.ren,V.ren.renVs,zeo,zbd,O.refs,C.refs,V.refs,V.refs.refsVs,zb9,zay,Wax,Way,go_sem];done))
  (ho1:(H1'.all fun o=>o.refs (fun k=>decide (k<ids.length)))=true:=by first|rfl|(simp[zlj,zkp,O.ren,C.ren,V.ren,V.ren.renVs,zeo,zbd,O.refs,C.refs,V.refs,V.refs.refsVs,zb9,zay,Wax,Way,go_sem];done))
  (hx:x0.ren (fun k=>ids.getD k 0)=x:=by first|rfl|(simp[zlj,zkp,O.ren,C.ren,V.ren,V.ren.renVs,zeo,zbd,O.refs,C.refs,V.refs,V.refs.refsVs,zb9,zay,Wax,Way,go_sem];done))
  (hb:zkp ids H H1'=H1:=by first|rfl|(simp[zlj,zkp,O.ren,C.ren,V.ren,V.ren.renVs,zeo,zbd,O.refs,C.refs,V.refs,V.refs.refsVs,zb9,zay,Wax,Way,go_sem];done)):CtF P n f args H d S Fl FE k rest Fs t Q:=
 ⟨x,H1,z6h ids h hnd hlt hH0 hcl ha har fun x' H' ⟨e1,e2⟩=>by subst e1;subst e2;exact⟨hl1,hx1,ho1,hx,hb⟩,hk⟩
theorem cLS8 {f:FuncId} {args0 args:List V} {H H0 H1':List O} {d:Option Nat} {all:Array Oper} {rest:List Oper} {t:List (Nat×V)} {x0:V} (ids:List Nat) (x:V) (H1:List O) (h:Ct P f args0 H0 fun v H'=>v=x0/\H'=H1')
  (hk:awpS P n (.ops all rest::Fs) (St.put ⟨t,H1⟩ d x H1) Q)
  (hnd:ids.Nodup:=by decide) (hlt:∀i∈ids,i<H.length:=by simp)
  (hH0:zlj ids H=H0:=by first|rfl|(simp[zlj,zkp,O.ren,C.ren,V.ren,V.ren.renVs,zeo,zbd,O.refs,C.refs,V.refs,V.refs.refsVs,zb9,zay,Wax,Way,go_sem];done))
  (hcl:(ids.all fun i=>(H.getD i .dead).refs (fun j=>ids.contains j))=true:=by first|rfl|(simp[zlj,zkp,O.ren,C.ren,V.ren,V.ren.renVs,zeo,zbd,O.refs,C.refs,V.refs,V.refs.refsVs,zb9,zay,Wax,Way,go_sem];done))
  (ha:args.map (V.ren fun j=>ids.idxOf j)=args0:=by first|rfl|(simp[zlj,zkp,O.ren,C.ren,V.ren,V.ren.renVs,zeo,zbd,O.refs,C.refs,V.refs,V.refs.refsVs,zb9,zay,Wax,Way,go_sem];done))
  (har:(args.all fun x=>x.refs (fun j=>ids.contains j))=true:=by first|rfl|(simp[zlj,zkp,O.ren,C.ren,V.ren,V.ren.renVs,zeo,zbd,O.refs,C.refs,V.refs,V.refs.refsVs,zb9,zay,Wax,Way,go_sem];done))
  (hl1:H1'.length=ids.length:=by first|rfl|(simp[zlj,zkp,O.ren,C.ren,V.ren,V.ren.renVs,zeo,zbd,O.refs,C.refs,V.refs,V.refs.refsVs,zb9,zay,Wax,Way,go_sem];done))
  (hx1:x0.refs (fun k=>decide (k<ids.length))=true:=by first|rfl|(simp[zlj,zkp,O.ren,C.ren,V.ren,V.ren.renVs,zeo,zbd,O.refs,C.refs,V.refs,V.refs.refsVs,zb9,zay,Wax,Way,go_sem];done))
  (ho1:(H1'.all fun o=>o.refs (fun k=>decide (k<ids.length)))=true:=by first|rfl|(simp[zlj,zkp,O.ren,C.ren,V.ren,V.ren.renVs,zeo,zbd,O.refs,C.refs,V.refs,V.refs.refsVs,zb9,zay,Wax,Way,go_sem];done))
  (hx:x0.ren (fun k=>ids.getD k 0)=x:=by first|rfl|(simp[zlj,zkp,O.ren,C.ren,V.ren,V.ren.renVs,zeo,zbd,O.refs,C.refs,V.refs,V.refs.refsVs,zb9,zay,Wax,Way,go_sem];done))
  (hb:zkp ids H H1'=H1:=by first|rfl|(simp[zlj,zkp,O.ren,C.ren,V.ren,V.ren.renVs,zeo,zbd,O.refs,C.refs,V.refs,V.refs.refsVs,zb9,zay,Wax,Way,go_sem];done)):CtS P n f args H d all rest Fs t Q:=
 z6h ids h hnd hlt hH0 hcl ha har fun x' H' ⟨e1,e2⟩=>by subst e1;subst e2;refine⟨hl1,hx1,ho1,?_⟩;rw[hx,hb];exact hk
theorem cLX8 {β:Type} {f:FuncId} {args0 args:List V} {H H0:List O} {H1':β->List O} {d:Option Nat} {all:Array Oper} {rest:List Oper} {t:List (Nat×V)} {x0:V} (ids:List Nat) (x:V) (H1:β->List O) (h:Ct P f args0 H0 fun v H'=>∃u:β,v=x0/\H'=H1' u)
  (hk:∀u,awpS P n (.ops all rest::Fs) (St.put ⟨t,H1 u⟩ d x (H1 u)) Q)
  (hnd:ids.Nodup:=by decide) (hlt:∀i∈ids,i<H.length:=by simp)
  (hH0:zlj ids H=H0:=by first|rfl|(simp[zlj,zkp,O.ren,C.ren,V.ren,V.ren.renVs,zeo,zbd,O.refs,C.refs,V.refs,V.refs.refsVs,zb9,zay,Wax,Way,go_sem];done))
  (hcl:(ids.all fun i=>(H.getD i .dead).refs (fun j=>ids.contains j))=true:=by first|rfl|(simp[zlj,zkp,O.ren,C.ren,V.ren,V.ren.renVs,zeo,zbd,O.refs,C.refs,V.refs,V.refs.refsVs,zb9,zay,Wax,Way,go_sem];done))
  (ha:args.map (V.ren fun j=>ids.idxOf j)=args0:=by first|rfl|(simp[zlj,zkp,O.ren,C.ren,V.ren,V.ren.renVs,zeo,zbd,O.refs,C.refs,V.refs,V.refs.refsVs,zb9,zay,Wax,Way,go_sem];done))
  (har:(args.all fun x=>x.refs (fun j=>ids.contains j))=true:=by first|rfl|(simp[zlj,zkp,O.ren,C.ren,V.ren,V.ren.renVs,zeo,zbd,O.refs,C.refs,V.refs,V.refs.refsVs,zb9,zay,Wax,Way,go_sem];done))
  (hl1:∀u,(H1' u).length=ids.length:=by intro u;first|rfl|(simp[zlj,zkp,O.ren,C.ren,V.ren,V.ren.renVs,zeo,zbd,O.refs,C.refs,V.refs,V.refs.refsVs,zb9,zay,Wax,Way,go_sem];done))
  (hx1:x0.refs (fun k=>decide (k<ids.length))=true:=by first|rfl|(simp[zlj,zkp,O.ren,C.ren,V.ren,V.ren.renVs,zeo,zbd,O.refs,C.refs,V.refs,V.refs.refsVs,zb9,zay,Wax,Way,go_sem];done))
  (ho1:∀u,((H1' u).all fun o=>o.refs (fun k=>decide (k<ids.length)))=true:=by intro u;first|rfl|(simp[zlj,zkp,O.ren,C.ren,V.ren,V.ren.renVs,zeo,zbd,O.refs,C.refs,V.refs,V.refs.refsVs,zb9,zay,Wax,Way,go_sem];done))
  (hx:x0.ren (fun k=>ids.getD k 0)=x:=by first|rfl|(simp[zlj,zkp,O.ren,C.ren,V.ren,V.ren.renVs,zeo,zbd,O.refs,C.refs,V.refs,V.refs.refsVs,zb9,zay,Wax,Way,go_sem];done))
  (hb:∀u,zkp ids H (H1' u)=H1 u:=by intro u;first|rfl|(simp[zlj,zkp,O.ren,C.ren,V.ren,V.ren.renVs,zeo,zbd,O.refs,C.refs,V.refs,V.refs.refsVs,zb9,zay,Wax,Way,go_sem];done)):CtS P n f args H d all rest Fs t Q:=
 z6h ids h hnd hlt hH0 hcl ha har fun x' H' ⟨u,e1,e2⟩=>by subst e1;subst e2;refine⟨hl1 u,hx1,ho1 u,?_⟩;rw[hx,hb u];exact hk u
theorem cC8 {f:FuncId} {args args0:List V} {H:List O} {d:Option Nat} {S Fl FE:List Nat} {k:Nat} {rest:List Oper} {t:List (Nat×V)} {x:V} {o:O} (h:Ct P f args0 H fun v H'=>v=x/\H'=H++[o])
  (hk:flA (FE.contains k) S H (H++[o])/\awpS P n (.flo S Fl FE (k+1) rest::Fs) (St.put ⟨t,H⟩ d x (H++[o])) Q) (ha:args=args0:=by first|rfl|(simp[go_sem,F];done)):CtF P n f args H d S Fl FE k rest Fs t Q:=
 ⟨x,H++[o],ha▸h,hk⟩
end
end Go.Lz

end
section
namespace Go.Lz
open Go.Proofs
attribute [-go_sem] zl6 g_b gd_b
set_option maxRecDepth 100000
set_option maxHeartbeats 4000000
noncomputable section
def zoa (aa:List (List Int)) (U:List (A4 Int)) (ad:List Int) (I:List Int) (ab:List xtz) (ae:Int) (label:Int) (code:Int):Option (List Int):=
 if 0<=label then(if label<(I.length:Int)then((idx I label).bind fun af=>if af=0 then(some (I.set label.toNat code))else(some I))else(some I))else(some I)
def znz (U:List (List Int)) (I:List (A4 Int)) (ae:List Int) (ab:List Int) (ad:List xtz) (af:Int) (ai:xtm) (aa:List Int) (pc:Int) (e:xtn):Option Int:=
 (zo4 ai aa e).bind fun aj=>(zme ai.Lattice pc aj).bind fun ak=>some ak
def zhz (U:List (List Int)) (I:List (A4 Int)) (ad:List Int) (aa:List Int) (ab:List xtz) (ae:Int) (ai:xtm) (af:List Int) (e:xtn) (pc:Int) (code:Int):Option (List Int):=
 if code=0 then(some aa)else((znz U I ad aa ab ae ai af pc e).bind fun aj=>(zoa U I ad aa ab ae aj code).bind fun ak=>some ak)
def zbz (aa:(List (List Int))->(List (A4 Int))->(List Int)->(List Int)->(List xtz)->Int->xtm->(List Int)->xtn->Int->Option (Int×(List Int)×(List xtz))) (U:List (List Int)) (I:List (A4 Int)) (ai:List Int) (aj:Int) (aq:xtm) (ak:List Int) (e:xtn) (pc:Int):((List Int)×(List xtz)×Int×Int×Nat)->Option (((List Int)×(List xtz)×Int×Int×Nat)⊕((List Int)×(List xtz)×Int×Int))
 |(al,an,ad,ae,af)=>if(af:Int)<(e.Args.length:Int)then((e.Args[af]?).bind fun ao=>(aa U I ai al an aj aq ak ao pc).bind fun ab=>if(af:Int)=0 then(some (.inl (ab.2.1,ab.2.2,ab.1,ae,(af+1))))else(if(af:Int)=1 then(some (.inl (ab.2.1,ab.2.2,ad,ab.1,(af+1))))else none))else(some (.inr ((al,an,ad,ae))))
def zja (ak:(List (List Int))->(List (A4 Int))->(List Int)->(List Int)->(List xtz)->Int->xtm->(List Int)->xtn->Int->Option (Int×(List Int)×(List xtz))) (I:List (List Int)) (U:List (A4 Int)) (ad:List Int) (al:List Int) (an:List xtz) (ae:Int) (af:xtm) (aj:List Int) (e:xtn) (pc:Int):Option (Int×(List Int)×(List xtz)):=
 (loop (zbz ak I U ad ae af aj e pc) (al,an,0,0,0)).bind (fun(ai,aa,ab,ao)=>if e.Op=1 then(some (e.N,ai,aa))else(if e.Op=2 then((zlo af e.Name).bind fun aq=>(idx af.Vars aq).bind fun ay=>(idx I aq).bind fun az=>(zrv ay.Type_ az ab).bind fun ar=>(zhz I U ad ai aa ae af aj e pc ar.2).bind fun aA=>some (ar.1,aA,aa))else(if e.Op=3 then((zlo af e.Name).bind fun au=>(idx af.Vars au).bind fun aB=>(idx I au).bind fun aC=>(zrv aB.Type_ aC ab).bind fun av=>(zhz I U ad ai aa ae af aj e pc av.2).bind fun aD=>some (av.1,aD,aa))else(if e.Op=4 then((zly af e.Name).bind fun aw=>(idx af.Blocks aw).bind fun aE=>(idx U aw).bind fun aF=>(zf4 aE.Kind aF e.N).bind fun aG=>some (aG,ai,aa))else(if e.Op=21 then((znk af e.Name).bind fun aH=>need ((aa.length+1)*16<=140737488355328) (some (ab,ai,(aa++[(⟨aH,ab⟩:xtz)]))))else(if e.Op=5 then((e.Args[0]?).bind fun aI=>(zkq af aI).bind fun aJ=>(zj6 e.Op aJ.1 ab).bind fun aK=>some (aK,ai,aa))else(if e.Op=6 then((e.Args[0]?).bind fun aL=>(zkq af aL).bind fun aM=>(zj6 e.Op aM.1 ab).bind fun aN=>some (aN,ai,aa))else((e.Args[0]?).bind fun aO=>(zkq af aO).bind fun aP=>(zk5 e.Op aP.1 ab ao).bind fun ax=>(zhz I U ad ai aa ae af aj e pc ax.2).bind fun aQ=>some (ax.1,aQ,aa)))))))))
def zhf:Nat->((List (List Int))->(List (A4 Int))->(List Int)->(List Int)->(List xtz)->Int->xtm->(List Int)->xtn->Int->Option (Int×(List Int)×(List xtz)))
 |0=>fun _ _ _ _ _ _ _ _ _ _=>none
 |n+1=>zja (zhf n)
def zyq (n:Nat) (U:List (List Int)) (I:List (A4 Int)) (ad:List Int) (aa:List Int) (ab:List xtz) (ae:Int) (ai:xtm) (af:List Int) (e:xtn) (pc:Int):Option (Int×(List Int)×(List xtz)):=(zhf n) U I ad aa ab ae ai af e pc
def zpk (U:List (List Int)) (I:List (A4 Int)) (ad:List Int) (aa:List Int) (ab:List xtz) (ae:Int) (ai:xtm) (af:List Int) (e:xtn) (pc:Int):Option (Int×(List Int)×(List xtz)):=zyq 1000000 U I ad aa ab ae ai af e pc
end
theorem z0x {U:List (List Int)} {I:List (A4 Int)} {ad:List Int} {aa:List Int} {ab:List xtz} {ae:Int} {label:Int} {code:Int} {w0:Nat} {w1:Nat} {w2:Nat} {w3:Nat} {w4:Nat} {w5:Nat} {r:List Int} (h:zoa U I ad aa ab ae label code=some r):
  Ct prog 55 [.one (.ref 0 w0 0 0),.one (.int .i64 label),.one (.int .i64 code)] [.cells w0 6 [[.msl 1 w1 0 U.length,.msl 2 w2 0 I.length,.msl 3 w3 0 ad.length,.msl 4 w4 0 aa.length,.msl 5 w5 0 ab.length,.int .i64 ae]],.cells w1 1 (U.map (eL eI)),.cells w2 4 (I.map (eA4 eI)),.cells w3 1 (ad.map eI),.cells w4 1 (aa.map eI),.cells w5 2 (ab.map xtu)] (fun af ai=>af=.tup []/\ai=[.cells w0 6 [[.msl 1 w1 0 U.length,.msl 2 w2 0 I.length,.msl 3 w3 0 ad.length,.msl 4 w4 0 r.length,.msl 5 w5 0 ab.length,.int .i64 ae]],.cells w1 1 (U.map (eL eI)),.cells w2 4 (I.map (eA4 eI)),.cells w3 1 (ad.map eI),.cells w4 1 (r.map eI),.cells w5 2 (ab.map xtu)]):=by
 have F:=trivial;have R:=trivial
 refine pAL func55 ?_;simp only[f55];unfold zoa at h;refine fi h F ?_ ?_<;>intro h _ F;refine tr ?_;intros;refine fi h F ?_ ?_<;>intro h _ F;refine by_ h F fun ak h aj F=>?_;refine tr ?_;intros;refine fi h F ?_ ?_<;>intro h _ F
 have R:=And.intro (show(List.map eI aa).set label.toNat [.int .i64 code]=List.map eI (aa.set label.toNat code) by simp[go_sem,WaL]) R
 cases h;exact fin;cases h;exact fin;cases h;exact fin;cases h;exact fin
theorem zyr {U:List (List Int)} {I:List (A4 Int)} {ad:List Int} {aa:List Int} {ab:List xtz} {ai:Int} {af:xtm} {ae:List Int} {pc:Int} {e:xtn} {w0:Nat} {w1:Nat} {w2:Nat} {w3:Nat} {w4:Nat} {w5:Nat} {w6:Nat} {w7:Nat} {r:Int} (h:znz U I ad aa ab ai af ae pc e=some r):
  Ct prog 103 [.one (.ref 0 w0 0 0),.one (.int .i64 pc),.agg (xto e)] [.cells w0 8 [[.ref 1 w1 0 0,.sl (af.Lattice.Names.map eS),.sl (af.Lattice.Below.map (eA2 eI)),.sl (af.Sites.map xtw),.sl (af.Vars.map xtx),.sl (af.Blocks.map xty),.sl (af.Tasks.map xt0),.msl 7 w7 0 ae.length]],.cells w1 6 [[.msl 2 w2 0 U.length,.msl 3 w3 0 I.length,.msl 4 w4 0 ad.length,.msl 5 w5 0 aa.length,.msl 6 w6 0 ab.length,.int .i64 ai]],.cells w2 1 (U.map (eL eI)),.cells w3 4 (I.map (eA4 eI)),.cells w4 1 (ad.map eI),.cells w5 1 (aa.map eI),.cells w6 2 (ab.map xtu),.cells w7 1 (ae.map eI)] (fun al an=>al=.one (.int .i64 r)/\an=[.cells w0 8 [[.ref 1 w1 0 0,.sl (af.Lattice.Names.map eS),.sl (af.Lattice.Below.map (eA2 eI)),.sl (af.Sites.map xtw),.sl (af.Vars.map xtx),.sl (af.Blocks.map xty),.sl (af.Tasks.map xt0),.msl 7 w7 0 ae.length]],.cells w1 6 [[.msl 2 w2 0 U.length,.msl 3 w3 0 I.length,.msl 4 w4 0 ad.length,.msl 5 w5 0 aa.length,.msl 6 w6 0 ab.length,.int .i64 ai]],.cells w2 1 (U.map (eL eI)),.cells w3 4 (I.map (eA4 eI)),.cells w4 1 (ad.map eI),.cells w5 1 (aa.map eI),.cells w6 2 (ab.map xtu),.cells w7 1 (ae.map eI)]):=by
 have F:=trivial;have R:=trivial
 refine pAL func103 ?_;simp only[f103];unfold znz at h;refine bi h fun ao h aj=>?_;refine tr ?_;intros;refine cD (z24 aj) ?_;refine bi h fun aq h ak=>?_;refine tr ?_;intros;refine cD (zve ak) ?_;cases h;exact fin
theorem zm3 {U:List (List Int)} {I:List (A4 Int)} {ab:List Int} {ae:List Int} {aa:List xtz} {ai:Int} {af:xtm} {ad:List Int} {e:xtn} {pc:Int} {code:Int} {w0:Nat} {w1:Nat} {w2:Nat} {w3:Nat} {w4:Nat} {w5:Nat} {w6:Nat} {w7:Nat} {r:List Int} (h:zhz U I ab ae aa ai af ad e pc code=some r):
  Ct prog 68 [.one (.ref 0 w0 0 0),.agg (xto e),.one (.int .i64 pc),.one (.int .i64 code)] [.cells w0 8 [[.ref 1 w1 0 0,.sl (af.Lattice.Names.map eS),.sl (af.Lattice.Below.map (eA2 eI)),.sl (af.Sites.map xtw),.sl (af.Vars.map xtx),.sl (af.Blocks.map xty),.sl (af.Tasks.map xt0),.msl 7 w7 0 ad.length]],.cells w1 6 [[.msl 2 w2 0 U.length,.msl 3 w3 0 I.length,.msl 4 w4 0 ab.length,.msl 5 w5 0 ae.length,.msl 6 w6 0 aa.length,.int .i64 ai]],.cells w2 1 (U.map (eL eI)),.cells w3 4 (I.map (eA4 eI)),.cells w4 1 (ab.map eI),.cells w5 1 (ae.map eI),.cells w6 2 (aa.map xtu),.cells w7 1 (ad.map eI)] (fun an ao=>an=.tup []/\ao=[.cells w0 8 [[.ref 1 w1 0 0,.sl (af.Lattice.Names.map eS),.sl (af.Lattice.Below.map (eA2 eI)),.sl (af.Sites.map xtw),.sl (af.Vars.map xtx),.sl (af.Blocks.map xty),.sl (af.Tasks.map xt0),.msl 7 w7 0 ad.length]],.cells w1 6 [[.msl 2 w2 0 U.length,.msl 3 w3 0 I.length,.msl 4 w4 0 ab.length,.msl 5 w5 0 r.length,.msl 6 w6 0 aa.length,.int .i64 ai]],.cells w2 1 (U.map (eL eI)),.cells w3 4 (I.map (eA4 eI)),.cells w4 1 (ab.map eI),.cells w5 1 (r.map eI),.cells w6 2 (aa.map xtu),.cells w7 1 (ad.map eI)]):=by
 have F:=trivial;have R:=trivial
 refine pAL func68 ?_;simp only[f68];unfold zhz at h;refine fi h F ?_ ?_<;>intro h _ F;cases h;exact fin;refine tt ?_
 first|refine⟨by kernel_rfl,[0],[0,1,2,3,8],[7],by kernel_rfl,?_⟩|refine⟨mo,zl5 (by kernel_rfl),by kernel_rfl,[0],[0,1,2,3,8],[7],by kernel_rfl,?_⟩
 refine tt ?_
 repeat (first|(with_reducible intro _)|((with_reducible refine zlr ?_ ?_);first|((with_reducible refine sq_i ?_);exact sq_)|exact ss))
 refine bi h fun aq h ak=>?_;refine cL8 [0,1,2,3,4,5,6,7] (.one (.int .i64 aq)) [.cells w0 8 [[.ref 1 w1 0 0,.sl (af.Lattice.Names.map eS),.sl (af.Lattice.Below.map (eA2 eI)),.sl (af.Sites.map xtw),.sl (af.Vars.map xtx),.sl (af.Blocks.map xty),.sl (af.Tasks.map xt0),.msl 7 w7 0 ad.length]],.cells w1 6 [[.msl 2 w2 0 U.length,.msl 3 w3 0 I.length,.msl 4 w4 0 ab.length,.msl 5 w5 0 ae.length,.msl 6 w6 0 aa.length,.int .i64 ai]],.cells w2 1 (U.map (eL eI)),.cells w3 4 (I.map (eA4 eI)),.cells w4 1 (ab.map eI),.cells w5 1 (ae.map eI),.cells w6 2 (aa.map xtu),.cells w7 1 (ad.map eI),.cells 0 5 [[.int .i64 e.Op,.int .i64 e.N,.int .i64 e.Kind,.str e.Name,.sl (e.Args.map xto)]]] (zyr (w0:=w0) (w1:=w1) (w2:=w2) (w3:=w3) (w4:=w4) (w5:=w5) (w6:=w6) (w7:=w7) ak) ?_
 refine tt ?_
 repeat (first|(with_reducible intro _)|((with_reducible refine zlr ?_ ?_);first|((with_reducible refine sq_i ?_);exact sq_)|exact ss))
 refine bi h fun aj h al=>?_;refine cL8 [1,2,3,4,5,6] (.tup []) [.cells w0 8 [[.ref 1 w1 0 0,.sl (af.Lattice.Names.map eS),.sl (af.Lattice.Below.map (eA2 eI)),.sl (af.Sites.map xtw),.sl (af.Vars.map xtx),.sl (af.Blocks.map xty),.sl (af.Tasks.map xt0),.msl 7 w7 0 ad.length]],.cells w1 6 [[.msl 2 w2 0 U.length,.msl 3 w3 0 I.length,.msl 4 w4 0 ab.length,.msl 5 w5 0 aj.length,.msl 6 w6 0 aa.length,.int .i64 ai]],.cells w2 1 (U.map (eL eI)),.cells w3 4 (I.map (eA4 eI)),.cells w4 1 (ab.map eI),.cells w5 1 (aj.map eI),.cells w6 2 (aa.map xtu),.cells w7 1 (ad.map eI),.cells 0 5 [[.int .i64 e.Op,.int .i64 e.N,.int .i64 e.Kind,.str e.Name,.sl (e.Args.map xto)]]] (z0x (w0:=w1) (w1:=w2) (w2:=w3) (w3:=w4) (w4:=w5) (w5:=w6) al) ?_
 refine tt ?_
 repeat (first|(with_reducible intro _)|((with_reducible refine zlr ?_ ?_);first|((with_reducible refine sq_i ?_);exact sq_)|exact ss))
 cases h;exact fin
theorem zwb {al:(List (List Int))->(List (A4 Int))->(List Int)->(List Int)->(List xtz)->Int->xtm->(List Int)->xtn->Int->Option (Int×(List Int)×(List xtz))}
  (aw:∀(w0:Nat) (w1:Nat) (w2:Nat) (w3:Nat) (w4:Nat) (w5:Nat) (w6:Nat) (w7:Nat) (U:List (List Int)) (I:List (A4 Int)) (aa:List Int) (af:List Int) (ai:List xtz) (ae:Int) (ad:xtm) (ab:List Int) (e:xtn) (pc:Int) (r:Int×(List Int)×(List xtz)),al U I aa af ai ae ad ab e pc=some r->Ct prog 33 [.one (.ref 0 w0 0 0),.agg (xto e),.one (.int .i64 pc)] [.cells w0 8 [[.ref 1 w1 0 0,.sl (ad.Lattice.Names.map eS),.sl (ad.Lattice.Below.map (eA2 eI)),.sl (ad.Sites.map xtw),.sl (ad.Vars.map xtx),.sl (ad.Blocks.map xty),.sl (ad.Tasks.map xt0),.msl 7 w7 0 ab.length]],.cells w1 6 [[.msl 2 w2 0 U.length,.msl 3 w3 0 I.length,.msl 4 w4 0 aa.length,.msl 5 w5 0 af.length,.msl 6 w6 0 ai.length,.int .i64 ae]],.cells w2 1 (U.map (eL eI)),.cells w3 4 (I.map (eA4 eI)),.cells w4 1 (aa.map eI),.cells w5 1 (af.map eI),.cells w6 2 (ai.map xtu),.cells w7 1 (ab.map eI)] (fun aI aJ=>∃aD:Nat×Nat,aI=.one (.int .i64 r.1)/\aJ=(match aD with|(u0,u1)=>[.cells w0 8 [[.ref 1 w1 0 0,.sl (ad.Lattice.Names.map eS),.sl (ad.Lattice.Below.map (eA2 eI)),.sl (ad.Sites.map xtw),.sl (ad.Vars.map xtx),.sl (ad.Blocks.map xty),.sl (ad.Tasks.map xt0),.msl 7 w7 0 ab.length]],.cells w1 6 [[.msl 2 w2 0 U.length,.msl 3 w3 0 I.length,.msl 4 w4 0 aa.length,.msl 5 u0 0 r.2.1.length,.msl 6 u1 0 r.2.2.length,.int .i64 ae]],.cells w2 1 (U.map (eL eI)),.cells w3 4 (I.map (eA4 eI)),.cells w4 1 (aa.map eI),.cells u0 1 (r.2.1.map eI),.cells u1 2 (r.2.2.map xtu),.cells w7 1 (ab.map eI)]))):
  ∀(w0:Nat) (w1:Nat) (w2:Nat) (w3:Nat) (w4:Nat) (w5:Nat) (w6:Nat) (w7:Nat) (U:List (List Int)) (I:List (A4 Int)) (aa:List Int) (af:List Int) (ai:List xtz) (ae:Int) (ad:xtm) (ab:List Int) (e:xtn) (pc:Int) (r:Int×(List Int)×(List xtz)),zja al U I aa af ai ae ad ab e pc=some r->Ct prog 33 [.one (.ref 0 w0 0 0),.agg (xto e),.one (.int .i64 pc)] [.cells w0 8 [[.ref 1 w1 0 0,.sl (ad.Lattice.Names.map eS),.sl (ad.Lattice.Below.map (eA2 eI)),.sl (ad.Sites.map xtw),.sl (ad.Vars.map xtx),.sl (ad.Blocks.map xty),.sl (ad.Tasks.map xt0),.msl 7 w7 0 ab.length]],.cells w1 6 [[.msl 2 w2 0 U.length,.msl 3 w3 0 I.length,.msl 4 w4 0 aa.length,.msl 5 w5 0 af.length,.msl 6 w6 0 ai.length,.int .i64 ae]],.cells w2 1 (U.map (eL eI)),.cells w3 4 (I.map (eA4 eI)),.cells w4 1 (aa.map eI),.cells w5 1 (af.map eI),.cells w6 2 (ai.map xtu),.cells w7 1 (ab.map eI)] (fun aI aJ=>∃aD:Nat×Nat,aI=.one (.int .i64 r.1)/\aJ=(match aD with|(u0,u1)=>[.cells w0 8 [[.ref 1 w1 0 0,.sl (ad.Lattice.Names.map eS),.sl (ad.Lattice.Below.map (eA2 eI)),.sl (ad.Sites.map xtw),.sl (ad.Vars.map xtx),.sl (ad.Blocks.map xty),.sl (ad.Tasks.map xt0),.msl 7 w7 0 ab.length]],.cells w1 6 [[.msl 2 w2 0 U.length,.msl 3 w3 0 I.length,.msl 4 w4 0 aa.length,.msl 5 u0 0 r.2.1.length,.msl 6 u1 0 r.2.2.length,.int .i64 ae]],.cells w2 1 (U.map (eL eI)),.cells w3 4 (I.map (eA4 eI)),.cells w4 1 (aa.map eI),.cells u0 1 (r.2.1.map eI),.cells u1 2 (r.2.2.map xtu),.cells w7 1 (ab.map eI)])):=by
 intro w0 w1 w2 w3 w4 w5 w6 w7 U I aa af ai ae ad ab e pc r h
 have F:=trivial;have R:=trivial
 refine pAL func33 ?_;simp only[f33];unfold zja at h;refine bi h fun bc h bb=>?_;refine tr ?_;intros
 refine lE (fun(bf:(List Int)×(List xtz)×Int×Int×Nat) (bg:Nat×Nat)=>match bf,bg with|(aG,aH,ax,ay,aB),(aE,aF)=>⟨[(0,.one (.ref 0 w0 0 0)),(2,.one (.int .i64 pc)),(4,.one (.ref 8 0 0 0)),(7,.one (.ref 9 0 0 0)),(19,.one (.sl (e.Args.map xto))),(20,.one (.int .i64 (e.Args.length:Int))),(21,.one (.int .i64 (aB:Int)))],[.cells w0 8 [[.ref 1 w1 0 0,.sl (ad.Lattice.Names.map eS),.sl (ad.Lattice.Below.map (eA2 eI)),.sl (ad.Sites.map xtw),.sl (ad.Vars.map xtx),.sl (ad.Blocks.map xty),.sl (ad.Tasks.map xt0),.msl 7 w7 0 ab.length]],.cells w1 6 [[.msl 2 w2 0 U.length,.msl 3 w3 0 I.length,.msl 4 w4 0 aa.length,.msl 5 aE 0 aG.length,.msl 6 aF 0 aH.length,.int .i64 ae]],.cells w2 1 (U.map (eL eI)),.cells w3 4 (I.map (eA4 eI)),.cells w4 1 (aa.map eI),.cells aE 1 (aG.map eI),.cells aF 2 (aH.map xtu),.cells w7 1 (ab.map eI),.cells 0 5 [[.int .i64 e.Op,.int .i64 e.N,.int .i64 e.Kind,.str e.Name,.sl (e.Args.map xto)]],.cells 0 2 [[.int .i64 ax,.int .i64 ay]]]⟩) (fun(bh:(List Int)×(List xtz)×Int×Int) (bj:Nat×Nat)=>match bh,bj with|(aC,an,ao,aq),(aj,ak)=>⟨[(0,.one (.ref 0 w0 0 0)),(2,.one (.int .i64 pc)),(4,.one (.ref 8 0 0 0)),(7,.one (.ref 9 0 0 0))],[.cells w0 8 [[.ref 1 w1 0 0,.sl (ad.Lattice.Names.map eS),.sl (ad.Lattice.Below.map (eA2 eI)),.sl (ad.Sites.map xtw),.sl (ad.Vars.map xtx),.sl (ad.Blocks.map xty),.sl (ad.Tasks.map xt0),.msl 7 w7 0 ab.length]],.cells w1 6 [[.msl 2 w2 0 U.length,.msl 3 w3 0 I.length,.msl 4 w4 0 aa.length,.msl 5 aj 0 aC.length,.msl 6 ak 0 an.length,.int .i64 ae]],.cells w2 1 (U.map (eL eI)),.cells w3 4 (I.map (eA4 eI)),.cells w4 1 (aa.map eI),.cells aj 1 (aC.map eI),.cells ak 2 (an.map xtu),.cells w7 1 (ab.map eI),.cells 0 5 [[.int .i64 e.Op,.int .i64 e.N,.int .i64 e.Kind,.str e.Name,.sl (e.Args.map xto)]],.cells 0 2 [[.int .i64 ao,.int .i64 aq]]]⟩) (fun(_:(List Int)×(List xtz)×Int×Int)=>some 0) (w5,w6) bb ?_ ?_
 intro i9 b9 bl;obtain rfl:=Wab bl;obtain⟨aC,an,ao,aq⟩:=bc;obtain⟨aj,ak⟩:=b9;dsimp only at h|-;refine fi h F ?_ ?_<;>intro h _ F;cases h;exact fin;refine tt ?_;refine fi h F ?_ ?_<;>intro h _ F;refine bi h fun bA h aO=>?_;refine tr ?_;intros;refine cD (zl8 aO) ?_;refine by_ h F fun bB h bn F=>?_;refine by_ h F fun bC h bo F=>?_;refine bi h fun bD h aP=>?_;refine tr ?_;intros
 refine cD (zzg aP) ?_;refine tr ?_;intros;refine bi h fun aK h aQ=>?_;refine cLS8 [0,1,2,3,4,5,6,7] (.tup []) [.cells w0 8 [[.ref 1 w1 0 0,.sl (ad.Lattice.Names.map eS),.sl (ad.Lattice.Below.map (eA2 eI)),.sl (ad.Sites.map xtw),.sl (ad.Vars.map xtx),.sl (ad.Blocks.map xty),.sl (ad.Tasks.map xt0),.msl 7 w7 0 ab.length]],.cells w1 6 [[.msl 2 w2 0 U.length,.msl 3 w3 0 I.length,.msl 4 w4 0 aa.length,.msl 5 aj 0 aK.length,.msl 6 ak 0 an.length,.int .i64 ae]],.cells w2 1 (U.map (eL eI)),.cells w3 4 (I.map (eA4 eI)),.cells w4 1 (aa.map eI),.cells aj 1 (aK.map eI),.cells ak 2 (an.map xtu),.cells w7 1 (ab.map eI),.cells 0 5 [[.int .i64 e.Op,.int .i64 e.N,.int .i64 e.Kind,.str e.Name,.sl (e.Args.map xto)]],.cells 0 2 [[.int .i64 ao,.int .i64 aq]]] (zm3 (w0:=w0) (w1:=w1) (w2:=w2) (w3:=w3) (w4:=w4) (w5:=aj) (w6:=ak) (w7:=w7) aQ) ?_
 cases h;exact fin;refine fi h F ?_ ?_<;>intro h _ F;refine bi h fun bE h aR=>?_;refine tr ?_;intros;refine cD (zl8 aR) ?_;refine by_ h F fun bF h bp F=>?_;refine by_ h F fun bG h bq F=>?_;refine bi h fun bH h aS=>?_;refine tr ?_;intros;refine cD (zzg aS) ?_;refine tr ?_;intros;refine bi h fun aL h aT=>?_;refine cLS8 [0,1,2,3,4,5,6,7] (.tup []) [.cells w0 8 [[.ref 1 w1 0 0,.sl (ad.Lattice.Names.map eS),.sl (ad.Lattice.Below.map (eA2 eI)),.sl (ad.Sites.map xtw),.sl (ad.Vars.map xtx),.sl (ad.Blocks.map xty),.sl (ad.Tasks.map xt0),.msl 7 w7 0 ab.length]],.cells w1 6 [[.msl 2 w2 0 U.length,.msl 3 w3 0 I.length,.msl 4 w4 0 aa.length,.msl 5 aj 0 aL.length,.msl 6 ak 0 an.length,.int .i64 ae]],.cells w2 1 (U.map (eL eI)),.cells w3 4 (I.map (eA4 eI)),.cells w4 1 (aa.map eI),.cells aj 1 (aL.map eI),.cells ak 2 (an.map xtu),.cells w7 1 (ab.map eI),.cells 0 5 [[.int .i64 e.Op,.int .i64 e.N,.int .i64 e.Kind,.str e.Name,.sl (e.Args.map xto)]],.cells 0 2 [[.int .i64 ao,.int .i64 aq]]] (zm3 (w0:=w0) (w1:=w1) (w2:=w2) (w3:=w3) (w4:=w4) (w5:=aj) (w6:=ak) (w7:=w7) aT) ?_
 cases h;exact fin;refine fi h F ?_ ?_<;>intro h _ F;refine bi h fun bI h aU=>?_;refine tr ?_;intros;refine cD (zp9 aU) ?_;refine by_ h F fun bJ h br F=>?_;refine by_ h F fun bK h bs F=>?_;refine bi h fun bL h aV=>?_;refine tr ?_;intros;refine cD (z3l aV) ?_;cases h;exact fin;refine fi h F ?_ ?_<;>intro h _ F;refine tt ?_
 first|refine⟨by kernel_rfl,[0,1,9],[0,1,2,3,4,5,6,7,8,9,10,18,19],[17,22],by kernel_rfl,?_⟩|refine⟨mo,zl5 (by kernel_rfl),by kernel_rfl,[0,1,9],[0,1,2,3,4,5,6,7,8,9,10,18,19],[17,22],by kernel_rfl,?_⟩
 refine bi h fun bM h aW=>?_;refine tt ?_
 repeat (first|(with_reducible intro _)|((with_reducible refine zlr ?_ ?_);first|((with_reducible refine sq_i ?_);exact sq_)|exact ss))
 refine cU (zr7 aW) ?_;refine nd h F fun h F=>?_;refine tt ?_
 repeat (first|(with_reducible intro _)|((with_reducible refine zlr ?_ ?_);first|((with_reducible refine sq_i ?_);exact sq_)|exact ss))
 cases h;exact fin;refine tt ?_;refine fi h F ?_ ?_<;>intro h _ F;refine bx h F fun bN h bt F=>?_;refine bi h fun bO h aX=>?_;refine tr ?_;intros;refine cD (zp7 aX) ?_;refine bi h fun bP h aY=>?_;refine tr ?_;intros;refine cS (zxm aY) ?_;cases h;exact fin;refine fi h F ?_ ?_<;>intro h _ F;refine bx h F fun bQ h bu F=>?_;refine bi h fun bR h aZ=>?_;refine tr ?_;intros;refine cD (zp7 aZ) ?_
 refine bi h fun bS h a4=>?_;refine tr ?_;intros;refine cS (zxm a4) ?_;cases h;exact fin;refine bx h F fun bT h bw F=>?_;refine bi h fun bU h a5=>?_;refine tr ?_;intros;refine cD (zp7 a5) ?_;refine bi h fun bV h a6=>?_;refine tr ?_;intros;refine cS (z1f a6) ?_;refine tr ?_;intros;refine bi h fun aM h a7=>?_;refine cLS8 [0,1,2,3,4,5,6,7] (.tup []) [.cells w0 8 [[.ref 1 w1 0 0,.sl (ad.Lattice.Names.map eS),.sl (ad.Lattice.Below.map (eA2 eI)),.sl (ad.Sites.map xtw),.sl (ad.Vars.map xtx),.sl (ad.Blocks.map xty),.sl (ad.Tasks.map xt0),.msl 7 w7 0 ab.length]],.cells w1 6 [[.msl 2 w2 0 U.length,.msl 3 w3 0 I.length,.msl 4 w4 0 aa.length,.msl 5 aj 0 aM.length,.msl 6 ak 0 an.length,.int .i64 ae]],.cells w2 1 (U.map (eL eI)),.cells w3 4 (I.map (eA4 eI)),.cells w4 1 (aa.map eI),.cells aj 1 (aM.map eI),.cells ak 2 (an.map xtu),.cells w7 1 (ab.map eI),.cells 0 5 [[.int .i64 e.Op,.int .i64 e.N,.int .i64 e.Kind,.str e.Name,.sl (e.Args.map xto)]],.cells 0 2 [[.int .i64 ao,.int .i64 aq]]] (zm3 (w0:=w0) (w1:=w1) (w2:=w2) (w3:=w3) (w4:=w4) (w5:=aj) (w6:=ak) (w7:=w7) a7) ?_
 cases h;exact fin;intro bm m9 s9 a9 o9 ar aN ba;obtain⟨aG,aH,ax,ay,aB⟩:=s9;obtain⟨aE,aF⟩:=a9;dsimp only[zbz]at ar|-;refine fl ar F ?_ ?_<;>intro ar _ F;refine bx ar F fun az ar bz F=>?_;refine tr ?_;intros;refine bi ar fun aA ar a8=>?_
 refine cLX8 [0,1,2,3,4,5,6,7] (.one (.int .i64 aA.1)) (fun aD:Nat×Nat=>match aD with|(au,av)=>[.cells w0 8 [[.ref 1 w1 0 0,.sl (ad.Lattice.Names.map eS),.sl (ad.Lattice.Below.map (eA2 eI)),.sl (ad.Sites.map xtw),.sl (ad.Vars.map xtx),.sl (ad.Blocks.map xty),.sl (ad.Tasks.map xt0),.msl 7 w7 0 ab.length]],.cells w1 6 [[.msl 2 w2 0 U.length,.msl 3 w3 0 I.length,.msl 4 w4 0 aa.length,.msl 5 au 0 aA.2.1.length,.msl 6 av 0 aA.2.2.length,.int .i64 ae]],.cells w2 1 (U.map (eL eI)),.cells w3 4 (I.map (eA4 eI)),.cells w4 1 (aa.map eI),.cells au 1 (aA.2.1.map eI),.cells av 2 (aA.2.2.map xtu),.cells w7 1 (ab.map eI),.cells 0 5 [[.int .i64 e.Op,.int .i64 e.N,.int .i64 e.Kind,.str e.Name,.sl (e.Args.map xto)]],.cells 0 2 [[.int .i64 ax,.int .i64 ay]],.cells 0 5 [[.int .i64 az.Op,.int .i64 az.N,.int .i64 az.Kind,.str az.Name,.sl (az.Args.map xto)]]]) (aw w0 w1 w2 w3 w4 aE aF w7 _ _ _ _ _ _ _ _ _ _ _ a8) ?_
 rintro⟨au,av⟩;dsimp only;refine tr ?_;intros;refine fe ar F ?_ ?_<;>intro ar _ F
 have F:=And.intro (show aB=0 by omega) F
 cases ar;refine tr ?_;intros;refine wn aB F fun F=>?_;exact bk ba aN (au,av);refine tr ?_;intros;refine fe ar F ?_ ?_<;>intro ar _ F
 have F:=And.intro (show aB=1 by omega) F
 cases ar;refine tr ?_;intros;refine wn aB F fun F=>?_;exact bk ba aN (au,av);cases ar;cases ar;refine tt ?_;exact xt aN bm (aE,aF)
theorem zwa (n:Nat):(∀(w0:Nat) (w1:Nat) (w2:Nat) (w3:Nat) (w4:Nat) (w5:Nat) (w6:Nat) (w7:Nat) (U:List (List Int)) (I:List (A4 Int)) (aa:List Int) (ab:List Int) (ad:List xtz) (ai:Int) (af:xtm) (ae:List Int) (e:xtn) (pc:Int) (r:Int×(List Int)×(List xtz)),(zhf n) U I aa ab ad ai af ae e pc=some r->Ct prog 33 [.one (.ref 0 w0 0 0),.agg (xto e),.one (.int .i64 pc)] [.cells w0 8 [[.ref 1 w1 0 0,.sl (af.Lattice.Names.map eS),.sl (af.Lattice.Below.map (eA2 eI)),.sl (af.Sites.map xtw),.sl (af.Vars.map xtx),.sl (af.Blocks.map xty),.sl (af.Tasks.map xt0),.msl 7 w7 0 ae.length]],.cells w1 6 [[.msl 2 w2 0 U.length,.msl 3 w3 0 I.length,.msl 4 w4 0 aa.length,.msl 5 w5 0 ab.length,.msl 6 w6 0 ad.length,.int .i64 ai]],.cells w2 1 (U.map (eL eI)),.cells w3 4 (I.map (eA4 eI)),.cells w4 1 (aa.map eI),.cells w5 1 (ab.map eI),.cells w6 2 (ad.map xtu),.cells w7 1 (ae.map eI)] (fun aj ak=>∃al:Nat×Nat,aj=.one (.int .i64 r.1)/\ak=(match al with|(u0,u1)=>[.cells w0 8 [[.ref 1 w1 0 0,.sl (af.Lattice.Names.map eS),.sl (af.Lattice.Below.map (eA2 eI)),.sl (af.Sites.map xtw),.sl (af.Vars.map xtx),.sl (af.Blocks.map xty),.sl (af.Tasks.map xt0),.msl 7 w7 0 ae.length]],.cells w1 6 [[.msl 2 w2 0 U.length,.msl 3 w3 0 I.length,.msl 4 w4 0 aa.length,.msl 5 u0 0 r.2.1.length,.msl 6 u1 0 r.2.2.length,.int .i64 ai]],.cells w2 1 (U.map (eL eI)),.cells w3 4 (I.map (eA4 eI)),.cells w4 1 (aa.map eI),.cells u0 1 (r.2.1.map eI),.cells u1 2 (r.2.2.map xtu),.cells w7 1 (ae.map eI)]))):=by
 induction n with
 |zero=>exact fun _ _ _ _ _ _ _ _ _ _ _ _ _ _ _ _ _ _ r h=>(by cases h)
 |succ n ih=>
  have an:=ih
  exact zwb an
theorem zxt {U:List (List Int)} {I:List (A4 Int)} {aa:List Int} {ab:List Int} {ad:List xtz} {ai:Int} {af:xtm} {ae:List Int} {e:xtn} {pc:Int} {w0:Nat} {w1:Nat} {w2:Nat} {w3:Nat} {w4:Nat} {w5:Nat} {w6:Nat} {w7:Nat} {r:Int×(List Int)×(List xtz)} (h:zpk U I aa ab ad ai af ae e pc=some r):
 Ct prog 33 [.one (.ref 0 w0 0 0),.agg (xto e),.one (.int .i64 pc)] [.cells w0 8 [[.ref 1 w1 0 0,.sl (af.Lattice.Names.map eS),.sl (af.Lattice.Below.map (eA2 eI)),.sl (af.Sites.map xtw),.sl (af.Vars.map xtx),.sl (af.Blocks.map xty),.sl (af.Tasks.map xt0),.msl 7 w7 0 ae.length]],.cells w1 6 [[.msl 2 w2 0 U.length,.msl 3 w3 0 I.length,.msl 4 w4 0 aa.length,.msl 5 w5 0 ab.length,.msl 6 w6 0 ad.length,.int .i64 ai]],.cells w2 1 (U.map (eL eI)),.cells w3 4 (I.map (eA4 eI)),.cells w4 1 (aa.map eI),.cells w5 1 (ab.map eI),.cells w6 2 (ad.map xtu),.cells w7 1 (ae.map eI)] (fun aj ak=>∃al:Nat×Nat,aj=.one (.int .i64 r.1)/\ak=(match al with|(u0,u1)=>[.cells w0 8 [[.ref 1 w1 0 0,.sl (af.Lattice.Names.map eS),.sl (af.Lattice.Below.map (eA2 eI)),.sl (af.Sites.map xtw),.sl (af.Vars.map xtx),.sl (af.Blocks.map xty),.sl (af.Tasks.map xt0),.msl 7 w7 0 ae.length]],.cells w1 6 [[.msl 2 w2 0 U.length,.msl 3 w3 0 I.length,.msl 4 w4 0 aa.length,.msl 5 u0 0 r.2.1.length,.msl 6 u1 0 r.2.2.length,.int .i64 ai]],.cells w2 1 (U.map (eL eI)),.cells w3 4 (I.map (eA4 eI)),.cells w4 1 (aa.map eI),.cells u0 1 (r.2.1.map eI),.cells u1 2 (r.2.2.map xtu),.cells w7 1 (ae.map eI)])):=(zwa 1000000) _ _ _ _ _ _ _ _ _ _ _ _ _ _ _ _ _ _ _ h
end Go.Lz

end
section
namespace Go.Lz
theorem z5q {R I:xtm->xtn->Option Int} {p:xtm} {e:xtn} (h:∀x∈e.Args,R p x=I p x):zat R p e=zat I p e:=by
 unfold zat
 generalize e.Args=l at h
 match l,h with
 |[],_=>rfl
 |[x],h=>simp only[Wat,Waa,h x (by simp)];rfl
 |x::y::t,h=>simp only[Wat,WaK,Waa,h x (by simp),h y (by simp)]
theorem yas (p:xtm):∀(n m:Nat) (e:xtn),depE e<=n->depE e<=m->zao n p e=zao m p e
 |0,m,e,h,_=>by rw[zd5]at h;omega
 |n+1,0,e,_,h=>by rw[zd5]at h;omega
 |n+1,m+1,e,h,I=>by
  rw[zd5]at h I
  exact z5q fun x U=>by have d:=zgs U;exact yas p n m x (by omega) (by omega)
theorem GoodE.arg {e x:xtn} (g:GoodE e) (I:x∈e.Args):GoodE x:=by
 have h1:=g.ok;have h2:=g.dep;have h3:=g.sz
 rw[zzc]at h1;rw[zd5]at h2;rw[zum]at h3
 have d:=zgs I;have s:=zpz I
 exact⟨zlu h1.2 x I,by omega,by omega⟩
inductive KI (p:xtm) (e:xtn):Prop
 |num (o:e.Op=1) (a:e.Args=[]) (k:zf5 p e=e.Kind)
 |var (v:xtv) (o:e.Op=2) (a:e.Args=[]) (i0:0<=varN p e.Name) (hv:p.Vars[(varN p e.Name).toNat]? =some v) (l:v.Type_.Len=0) (k:zf5 p e=v.Type_.Kind)
 |index (v:xtv) (x:xtn) (o:e.Op=3) (a:e.Args=[x]) (i0:0<=varN p e.Name) (hv:p.Vars[(varN p e.Name).toNat]? =some v) (l:0<v.Type_.Len) (kx:zf5 p x=2) (k:zf5 p e=v.Type_.Kind)
 |out (b:xt1) (l:List Int) (o:e.Op=4) (a:e.Args=[]) (i0:0<=zio p e.Name) (hb:p.Blocks[(zio p e.Name).toNat]? =some b) (hl:za5 b.Kind=some l) (n0:0<=e.N) (n1:e.N<(l.length:Int)) (k:zf5 p e=l.getD e.N.toNat 0)
 |site (x:xtn) (o:e.Op=21) (a:e.Args=[x]) (i0:0<=zou p e.Name) (k:zf5 p e=zf5 p x)
 |un (x:xtn) (o:e.Op=5\/e.Op=6) (a:e.Args=[x]) (k:zag e.Op (zf5 p x)=some (zf5 p e))
 |bin (x y:xtn) (o:7<=e.Op/\e.Op<=20) (a:e.Args=[x,y]) (kk:zf5 p y=zf5 p x) (k:zag e.Op (zf5 p x)=some (zf5 p e))
theorem z57 {α:Type} {xs:List α} {i:Int} {x:α} (h0:0<=i) (h:idx xs i=some x):xs[i.toNat]? =some x:=by
 unfold idx at h;rw[if_pos h0]at h;exact h
theorem zm1 {α:Type} {xs:List α} {i:Int} {x:α} (h0:0<=i) (h:xs[i.toNat]? =some x):idx xs i=some x:=by
 unfold idx;rw[if_pos h0];exact h
theorem z5u {l:List xtn} (h:l.length=1):∃a,l=[a]:=by
 match l,h with
 |[a],_=>exact⟨a,rfl⟩
theorem ya6 {l:List xtn} (h:l.length=0):l=[]:=by
 match l,h with
 |[],_=>rfl
theorem z72 {p:xtm} (P:zlc p) {e:xtn} (g:GoodE e) (h0:zf5 p e≠0):KI p e:=by
 have hk:=(zpj P g).1
 have F:=zxp g.ok
 have dep:=g.dep
 have ops:=F.ops
 have sub:∀x∈e.Args,zao 999999 p x=some (zf5 p x):=fun x I=>by
  have gx:=(g.arg I)
  have dx:=gx.dep
  rw[yas p 999999 1000000 x (by omega) (by omega)];exact(zpj P gx).1
 have hb:zat (zao 999999) p e=some (zf5 p e):=hk
 unfold zat at hb;simp only[zpc,zmo,zr1,Waa]at hb
 generalize U:zf5 p e=K at hb h0
 by_cases o1:e.Op=1
 ·rw[if_pos o1]at hb
  exact .num o1 (ya6 (by omega)) (by rw[U];cases hb;rfl)
 rw[if_neg o1]at hb
 by_cases o2:e.Op=2
 ·rw[if_pos o2]at hb
  by_cases v0:varN p e.Name<0
  ·rw[if_pos v0]at hb;cases hb;exact absurd rfl h0
  rw[if_neg v0]at hb;obtain⟨v,e1,hv⟩:=zyy v0;rw[e1,Waa]at hb
  have hlen:=(P.vars v hv).len
  by_cases c:((decide (0<v.Type_.Len))==(decide (e.Op=3)))=true
  ·rw[if_pos c,if_neg (by omega)]at hb
   refine .var v o2 (ya6 (by omega)) (by omega) (z57 (by omega) e1) ?_ (by rw[U];cases hb;rfl);rw[o2]at c
   have:¬0<v.Type_.Len:=by simpa using c
   omega
  ·rw[if_neg c]at hb;cases hb;exact absurd rfl h0
 rw[if_neg o2]at hb
 by_cases o3:e.Op=3
 ·rw[if_pos o3]at hb
  by_cases v0:varN p e.Name<0
  ·rw[if_pos v0]at hb;cases hb;exact absurd rfl h0
  rw[if_neg v0]at hb;obtain⟨v,e1,hv⟩:=zyy v0;rw[e1,Waa]at hb
  by_cases c:0<v.Type_.Len
  ·obtain⟨x,I⟩:=z5u (l:=e.Args) (by omega)
   rw[if_pos c,I,Wat,Waa,sub x (by rw[I];simp),Waa]at hb
   by_cases k2:zf5 p x=2
   ·rw[if_pos k2]at hb
    exact .index v x o3 I (by omega) (z57 (by omega) e1) c k2 (by rw[U];cases hb;rfl)
   ·rw[if_neg k2]at hb;cases hb;exact absurd rfl h0
  ·rw[if_neg c]at hb;cases hb;exact absurd rfl h0
 rw[if_neg o3]at hb
 by_cases o4:e.Op=4
 ·rw[if_pos o4]at hb
  by_cases v0:zio p e.Name<0
  ·rw[if_pos v0]at hb;cases hb;exact absurd rfl h0
  rw[if_neg v0]at hb;obtain⟨b,e1,hv⟩:=zzz v0;obtain⟨l,e2,hl⟩:=ya2 b.Kind;rw[e1,Waa,e2,Waa]at hb
  by_cases n0:e.N<0
  ·rw[if_pos n0]at hb;cases hb;exact absurd rfl h0
  rw[if_neg n0]at hb
  by_cases n1:(l.length:Int)<=e.N
  ·rw[if_pos n1]at hb;cases hb;exact absurd rfl h0
  rw[if_neg n1]at hb
  have hi:e.N.toNat<l.length:=by omega
  have e3:idx l e.N=some l[e.N.toNat]:=zm1 (by omega) (Wac hi)
  rw[e3,Waa]at hb;refine .out b l o4 (ya6 (by omega)) (by omega) (z57 (by omega) e1) e2 (by omega) (by omega) ?_;rw[U,List.getD_eq_getElem?_getD,Wac hi];cases hb;rfl
 rw[if_neg o4]at hb
 by_cases aa:e.Op=21
 ·rw[if_pos aa]at hb
  by_cases v0:zou p e.Name<0
  ·rw[if_pos v0]at hb;cases hb;exact absurd rfl h0
  obtain⟨x,I⟩:=z5u (l:=e.Args) (by omega);rw[if_neg v0,I,Wat,Waa,sub x (by rw[I];simp),Waa]at hb;exact .site x aa I (by omega) (by rw[U];cases hb;rfl)
 rw[if_neg aa]at hb
 by_cases a1:e.Args.length=1
 ·obtain⟨x,I⟩:=z5u a1
  rw[I,Wat,Waa,sub x (by rw[I];simp),Waa,if_neg (by simp)]at hb;refine .un x (by omega) I ?_;rw[U]
  cases hr:zag e.Op (zf5 p x)with
  |none=>rw[hr]at hb;cases hb
  |some r=>rw[hr]at hb;exact hb
 ·have a2:e.Args.length=2:=by omega
  obtain⟨x,y,I⟩:=z2b a2;rw[I,Wat,Waa,sub x (by rw[I];simp),Waa,if_pos (by simp),WaK,Wat,Waa,sub y (by rw[I];simp),Waa]at hb
  by_cases ky:zf5 p y=zf5 p x
  ·rw[if_pos ky]at hb
   refine .bin x y (by omega) I ky ?_;rw[U]
   cases hr:zag e.Op (zf5 p x)with
   |none=>rw[hr]at hb;cases hb
   |some r=>rw[hr]at hb;exact hb
  ·rw[if_neg ky]at hb;cases hb;exact absurd rfl h0
noncomputable def vO (p:xtm) (C:List (List Int)) (B:List (A4 Int)) (op n:Int) (name:Str) (k:Int) (vs:List Int):Int×Int:=
 if op=1 then(n,0)else if op=2\/op=3 then(match p.Vars[(varN p name).toNat]?,C[(varN p name).toNat]? with|some v,some c=>getN v.Type_ c (vs.getD 0 0)|_,_=>(0,0))
 else if op=4 then((match p.Blocks[(zio p name).toNat]?,B[(zio p name).toNat]? with|some b,some s=>(zf4 b.Kind s n).getD 0|_,_=>0),0)
 else if op=21 then(vs.getD 0 0,0)else if op=5\/op=6 then((zj6 op k (vs.getD 0 0)).getD 0,0)else(zk5 op k (vs.getD 0 0) (vs.getD 1 0)).getD (0,0)
noncomputable def kArg (p:xtm):List xtn->Int
 |[]=>0
 |x::_=>zf5 p x
mutual
noncomputable def vE (p:xtm) (C:List (List Int)) (B:List (A4 Int)):xtn->Int×Int
 |⟨op,n,_,name,args⟩=>vO p C B op n name (kArg p args) (vEs p C B args)
noncomputable def vEs (p:xtm) (C:List (List Int)) (B:List (A4 Int)):List xtn->List Int
 |[]=>[]
 |e::es=>(vE p C B e).1::vEs p C B es
end
theorem zzh {p:xtm} {C:List (List Int)} {B:List (A4 Int)} (e:xtn):vE p C B e=vO p C B e.Op e.N e.Name (kArg p e.Args) (vEs p C B e.Args):=by cases e;rw[vE]
noncomputable def labN (p:xtm) (labels:List Int) (e:xtn):Int:=(zb1 p labels e).getD (-1)
def zxk (la:List Int) (j code:Int):List Int:=if 0<=j/\la[j.toNat]? =some 0 then la.set j.toNat code else la
abbrev RS:=List Int×List xtz
noncomputable def rO (p:xtm) (labels:List Int) (pc:Int) (e:xtn) (v:Int×Int) (s:RS):RS:=
 if e.Op=21 then(s.1,s.2++[⟨zou p e.Name,v.1⟩])else if v.2=0 then s else(zxk s.1 (zno p.Lattice pc (labN p labels e)) v.2,s.2)
mutual
noncomputable def rE (p:xtm) (C:List (List Int)) (B:List (A4 Int)) (labels:List Int) (pc:Int):xtn->RS->RS
 |⟨op,n,k,name,args⟩,s=>rO p labels pc ⟨op,n,k,name,args⟩ (vE p C B ⟨op,n,k,name,args⟩) (rEs p C B labels pc args s)
noncomputable def rEs (p:xtm) (C:List (List Int)) (B:List (A4 Int)) (labels:List Int) (pc:Int):List xtn->RS->RS
 |[],s=>s
 |e::es,s=>rEs p C B labels pc es (rE p C B labels pc e s)
end
theorem yly {p:xtm} {C:List (List Int)} {B:List (A4 Int)} {labels:List Int} {pc:Int} (e:xtn) (s:RS):rE p C B labels pc e s=rO p labels pc e (vE p C B e) (rEs p C B labels pc e.Args s):=by cases e;rw[rE]
theorem z4r {p:xtm} (P:zlc p) {e:xtn} (g:GoodE e) (labels:List Int):zb1 p labels e=some (labN p labels e):=by
 have:∃r,zb1 p labels e=some r:=by
  unfold zb1;obtain⟨l,h1,_⟩:=z6u P (labels:=labels);obtain⟨xs,h2,h3⟩:=ye8 P g;rw[h1,Waa,h2,Waa,z0t _ xs 0 [] rfl (Waf _) (by omega) rfl,Waa];split
  ·exact⟨_,rfl⟩
  ·rename_i ys _
   obtain⟨r,_,r2⟩:=yo4 (l:=p.Lattice) (by have:=P.nl;omega) ys;exact⟨r,by rw[r2];rfl⟩
 obtain⟨r,h⟩:=this;unfold labN;rw[h];rfl
theorem ymq {p:xtm} (P:zlc p) {e:xtn} (g:GoodE e) (labels:List Int):zo4 p labels e=some (labN p labels e):=by
 have h1:=P.nl;have h2:=g.dep;have h3:=g.sz
 rw[yiv (by omega) (by omega) (by omega)];exact z4r P g labels
theorem z9f (C:List (List Int)) (B:List (A4 Int)) (left la:List Int) (ev:List xtz) (now j code:Int):zoa C B left la ev now j code=some (zxk la j code):=by
 unfold zoa zxk
 by_cases h0:0<=j
 ·by_cases h1:j<(la.length:Int)
  ·have hi:j.toNat<la.length:=by omega
   rw[if_pos h0,if_pos h1,zm1 h0 (Wac hi),Waa,Wac hi]
   by_cases z:la[j.toNat]=0
   ·rw[if_pos z,if_pos ⟨h0,by rw[z]⟩]
   ·rw[if_neg z,if_neg (fun h=>z (Wab h.2))]
  ·have hi:¬j.toNat<la.length:=by omega
   rw[if_pos h0,if_neg h1,WbI (by omega),if_neg (fun h=>by cases h.2)]
 ·rw[if_neg h0,if_neg (fun h=>h0 h.1)]
theorem z3e {p:xtm} (P:zlc p) {e:xtn} (g:GoodE e) (C:List (List Int)) (B:List (A4 Int)) (left la:List Int) (ev:List xtz) (now:Int) (labels:List Int) (pc code:Int):
  zhz C B left la ev now p labels e pc code=some (if code=0 then la else zxk la (zno p.Lattice pc (labN p labels e)) code):=by
 unfold zhz znz
 by_cases h:code=0
 ·rw[if_pos h,if_pos h]
 ·rw[if_neg h,if_neg h,ymq P g,Waa,ybt (by have:=P.nl;omega),Waa,Waa,z9f,Waa]
end Go.Lz

end
