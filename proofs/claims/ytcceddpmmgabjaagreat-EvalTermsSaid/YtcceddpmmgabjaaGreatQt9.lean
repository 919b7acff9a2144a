/- The parts of a proof: P15c, P14, P14b, P14c, LzT, Lw9, V15s, P15d, VF, LzC, LzX, VC, VA, V15L, V15e, V15v, P15f, P15e, P15w, P15x, LwV, V15w, V15r, V15t -/
import Derived.Test.YtcceddpmmgabjaaGreatQt8
set_option linter.unusedVariables false
set_option linter.unusedSimpArgs false
open Go.Proofs.Tryz
section
namespace Go.Lz
section
variable {R:List (List Int)->List (A4 Int)->List Int->List Int->List xtz->Int->xtm->List Int->xtn->Int->Option (Int×List Int×List xtz)}
variable {C:List (List Int)} {B:List (A4 Int)} {left la:List Int} {ev:List xtz} {now:Int} {p:xtm} {labels:List Int} {e x y:xtn} {pc:Int}
theorem zx9 (h:e.Args=[]):loop (zbz R C B left now p labels e pc) (la,ev,0,0,0)=some (la,ev,0,0):=by
 rw[zcs (r:=(la,ev,0,0)) (by simp[zbz,h])]
theorem zx8 (h:e.Args=[x]) {v:Int} {I:List Int} {U:List xtz} (hx:R C B left la ev now p labels x pc=some (v,I,U)):
  loop (zbz R C B left now p labels e pc) (la,ev,0,0,0)=some (I,U,v,0):=by
 rw[zkn (s':=(I,U,v,0,1)) (by simp[zbz,h,hx]),zcs (r:=(I,U,v,0)) (by simp[zbz,h])]
theorem z8p (h:e.Args=[x,y]) {v w:Int} {l1 I:List Int} {e1 U:List xtz} (hx:R C B left la ev now p labels x pc=some (v,l1,e1)) (hy:R C B left l1 e1 now p labels y pc=some (w,I,U)):
  loop (zbz R C B left now p labels e pc) (la,ev,0,0,0)=some (I,U,v,w):=by
 rw[zkn (s':=(l1,e1,v,0,1)) (by simp[zbz,h,hx]),zkn (s':=(I,U,v,w,2)) (by simp[zbz,h,hy]),zcs (r:=(I,U,v,w)) (by simp[zbz,h])]
end
theorem znj {p:xtm} {labels:List Int} {pc:Int} {e:xtn} {v:Int×Int} {s:RS} (h:¬e.Op=21):rO p labels pc e v s=(if v.2=0 then s.1 else zxk s.1 (zno p.Lattice pc (labN p labels e)) v.2,s.2):=by
 unfold rO;rw[if_neg h]
 by_cases z:v.2=0
 ·rw[if_pos z,if_pos z]
 ·rw[if_neg z,if_neg z]
theorem z90 {p:xtm} (P:zlc p) {C:List (List Int)} {B:List (A4 Int)} (hC:C.length=p.Vars.length) (hB:B.length=p.Blocks.length) {left labels:List Int} {now pc:Int}:
  ∀(n:Nat) (e:xtn),depE e<=n->GoodE e->zf5 p e≠0->∀s:RS,s.2.length+szE e<=1000000000->
   zhf n C B left s.1 s.2 now p labels e pc=some ((vE p C B e).1,(rE p C B labels pc e s).1,(rE p C B labels pc e s).2)/\(rE p C B labels pc e s).2.length<=s.2.length+szE e
 |0,e,h,_,_,_,_=>by rw[zd5]at h;omega
 |n+1,e,h,g,h0,s,hs=>by
  have K:=z72 P g h0
  have hsz:=zum e
  rw[zd5]at h
  have U:∀x∈e.Args,zf5 p x≠0->∀s:RS,s.2.length+szE x<=1000000000->zhf n C B left s.1 s.2 now p labels x pc=some ((vE p C B x).1,(rE p C B labels pc x s).1,(rE p C B labels pc x s).2)/\(rE p C B labels pc x s).2.length<=s.2.length+szE x:=
   fun x I k s hs=>z90 P hC hB n x (by have:=zgs I;omega) (g.arg I) k s hs
  show zja (zhf n) C B left s.1 s.2 now p labels e pc=_/\_
  rw[yly];unfold zja
  have cell:∀{v:xtv} {x:Int},0<=varN p e.Name->p.Vars[(varN p e.Name).toNat]? =some v->(e.Op=2\/e.Op=3)->(vEs p C B e.Args).getD 0 0=x->∃c,idx C (varN p e.Name)=some c/\vE p C B e=getN v.Type_ c x:=fun{v x} i0 hv o I=>by
   have hi:(varN p e.Name).toNat<C.length:=by
    have:=(Wag.1 hv).1;omega
   refine⟨_,zm1 i0 (Wac hi),?_⟩;rw[zzh];unfold vO;rw[if_neg (by omega),if_pos o,hv,Wac hi,I]
  cases K with
  |num o a k=>
   rw[zx9 a,Waa];simp only;rw[if_pos o,znj (by omega)]
   have e1:vE p C B e=(e.N,0):=by rw[zzh];unfold vO;rw[if_pos o]
   rw[e1,a,rEs];exact⟨rfl,by simp⟩
  |var v o a i0 hv l k=>
   rw[zx9 a,Waa];simp only;rw[if_neg (by omega),if_pos o,znj (by omega)];obtain⟨c,h1,h2⟩:=cell (x:=0) i0 hv (.inl o) (by rw[a,vEs];rfl);rw[zvw,Waa,zm1 i0 hv,Waa,h1,Waa,z8k,Waa,z3e P g,Waa,<-h2,a,rEs];exact⟨rfl,by simp⟩
  |index v x o a i0 hv l kx k=>
   have I:x∈e.Args:=by rw[a];simp
   have es:szEs e.Args=szE x:=by rw[a];simp[szEs]
   obtain⟨r1,r2⟩:=U x I (by omega) s (by omega);rw[zx8 a r1,Waa];simp only;rw[if_neg (by omega),if_neg (by omega),if_pos o,znj (by omega)];obtain⟨c,h1,h2⟩:=cell (x:=(vE p C B x).1) i0 hv (.inr o) (by rw[a,vEs];rfl);rw[zvw,Waa,zm1 i0 hv,Waa,h1,Waa,z8k,Waa,z3e P g,Waa,<-h2,a,rEs,rEs];exact⟨rfl,by simp only;omega⟩
  |out b l o a i0 hb hl n0 n1 k=>
   rw[zx9 a,Waa];simp only;rw[if_neg (by omega),if_neg (by omega),if_neg (by omega),if_pos o,znj (by omega)]
   have hi:(zio p e.Name).toNat<B.length:=by
    have:=(Wag.1 hb).1;omega
   obtain⟨v,w1,_⟩:=ymb B[(zio p e.Name).toNat] hl n0 n1
   have e1:vE p C B e=(v,0):=by
    rw[zzh];unfold vO;rw[if_neg (by omega),if_neg (by omega),if_pos o,hb,Wac hi];simp only[w1];rfl
   rw[zyg,Waa,zm1 i0 hb,Waa,zm1 i0 (Wac hi),Waa,w1,Waa,e1,a,rEs];exact⟨rfl,by simp⟩
  |site x o a i0 k=>
   have I:x∈e.Args:=by rw[a];simp
   have es:szEs e.Args=szE x:=by rw[a];simp[szEs]
   obtain⟨r1,r2⟩:=U x I (by omega) s (by omega);rw[zx8 a r1,Waa];simp only;rw[if_neg (by omega),if_neg (by omega),if_neg (by omega),if_neg (by omega),if_pos o]
   have e1:vE p C B e=((vE p C B x).1,0):=by
    rw[zzh];unfold vO;rw[if_neg (by omega),if_neg (by omega),if_neg (by omega),if_pos o,a,vEs];rfl
   have e2:rO p labels pc e (vE p C B e) (rEs p C B labels pc e.Args s)=((rE p C B labels pc x s).1,(rE p C B labels pc x s).2++[⟨zou p e.Name,(vE p C B x).1⟩]):=by
    unfold rO;rw[if_pos o,e1,a,rEs,rEs]
   rw[z0k,Waa,zc9 (by omega),e2,e1];refine⟨rfl,?_⟩;simp only[Wai,Waj,Wam];omega
  |un x o a k=>
   have I:x∈e.Args:=by rw[a];simp
   have es:szEs e.Args=szE x:=by rw[a];simp[szEs]
   have g1:=g.arg I
   have kx:zf5 p x≠0:=by
    have:=(zlx k h0).1
    unfold isK at this;omega
   obtain⟨r1,r2⟩:=U x I kx s (by omega);rw[zx8 a r1,Waa];simp only;obtain⟨v,w1,_⟩:=unOk (a:=(vE p C B x).1) o k h0
   have e1:vE p C B e=(v,0):=by
    rw[zzh];unfold vO;rw[if_neg (by omega),if_neg (by omega),if_neg (by omega),if_neg (by omega),if_pos o,a,vEs,kArg];simp only[WbW,w1];rfl
   have ht:=z1j P g1.ok (by have:=g1.dep;omega)
   have fin:((e.Args[0]?).bind fun aa=>(zkq p aa).bind fun ab=>(zj6 e.Op ab.1 (vE p C B x).1).bind fun ad=>some (ad,(rE p C B labels pc x s).1,(rE p C B labels pc x s).2))=some ((v,0).1,(rO p labels pc e (v,0) (rEs p C B labels pc e.Args s)).1,(rO p labels pc e (v,0) (rEs p C B labels pc e.Args s)).2):=by
    rw[a,Wat,Waa,ht,Waa,w1,Waa,znj (by omega),rEs,rEs];rfl
   have len:(rO p labels pc e (v,0) (rEs p C B labels pc e.Args s)).2.length<=s.2.length+szE e:=by
    rw[znj (by omega),a,rEs,rEs];simp only;omega
   rw[e1,if_neg (by omega),if_neg (by omega),if_neg (by omega),if_neg (by omega),if_neg (by omega)];refine⟨?_,len⟩
   rcases o with o|o
   ·rw[if_pos o];exact fin
   ·rw[if_neg (by omega),if_pos o];exact fin
  |bin x y o a kk k=>
   have I:x∈e.Args:=by rw[a];simp
   have hy:y∈e.Args:=by rw[a];simp
   have es:szEs e.Args=szE x+szE y:=by rw[a];simp[szEs]
   have g1:=g.arg I
   have kx:zf5 p x≠0:=by
    have:=(zlx k h0).1
    unfold isK at this;omega
   obtain⟨r1,r2⟩:=U x I kx s (by omega);obtain⟨q1,q2⟩:=U y hy (by omega) (rE p C B labels pc x s) (by omega);rw[z8p a r1 q1,Waa];simp only;obtain⟨v,c,w1,_⟩:=yox (a:=(vE p C B x).1) (b:=(vE p C B y).1) o k h0
   have e1:vE p C B e=(v,c):=by
    rw[zzh];unfold vO;rw[if_neg (by omega),if_neg (by omega),if_neg (by omega),if_neg (by omega),if_neg (by omega),a,vEs,vEs,vEs,kArg];simp only[WbW,Wb9,w1];rfl
   have ht:=z1j P g1.ok (by have:=g1.dep;omega)
   rw[e1,znj (by omega),if_neg (by omega),if_neg (by omega),if_neg (by omega),if_neg (by omega),if_neg (by omega),if_neg (by omega),if_neg (by omega)];rw[a,Wat,Waa,ht,Waa,w1,Waa,z3e P g,Waa,rEs,rEs,rEs];exact⟨rfl,by simp only;omega⟩
end Go.Lz

end
section
namespace Go.Lz
theorem yho (l:List Int):Tot (zis l) fun _=>True:=by
 unfold zis;refine Tot.bind (Tot.loop (fun s:Int×Nat=>s.2<=l.length) (R:=fun _=>True) (fun s=>l.length-s.2) (Waf _) fun⟨n,i⟩ hi=>?_) fun r _=>Tot.mk trivial;simp only at hi;unfold zkv;exact Tot.ite (fun I=>(Tot.get (by omega)).bind fun x U=>Tot.mk ⟨by simp only;omega,by simp only;omega⟩) fun _=>Tot.mk trivial
theorem zuu:∀(n:Nat) (l:List xtp),zgr l+1<=n->Tot (zep n l) fun _=>True
 |0,l,h=>by omega
 |n+1,l,h=>by
  show Tot (zeq (zep n) l) _
  unfold zeq;refine Tot.bind (Tot.loop (fun s:Int×Nat=>s.2<=l.length) (R:=fun _=>True) (fun s=>l.length-s.2) (Waf _) fun⟨m,i⟩ hi=>?_) fun r _=>Tot.mk trivial;simp only at hi;unfold zjg;refine Tot.ite (fun h'=>(Tot.get (by omega)).bind fun x I=>?_) fun _=>Tot.mk trivial
  have U:=zod I.1
  rw[zvk]at U;exact Tot.ite (fun _=>(zuu n x.Body (by omega)).bind fun _ _=>(zuu n x.Else (by omega)).bind fun _ _=>Tot.mk ⟨by simp only;omega,by simp only;omega⟩) fun _=>(zuu n x.Body (by omega)).bind fun _ _=>(zuu n x.Else (by omega)).bind fun _ _=>Tot.mk ⟨by simp only;omega,by simp only;omega⟩
theorem yfp (p:xtm) (I:∀t∈p.Tasks,zgr t.Body<=1000):Tot (zhj p) fun b=>b=true->zpt p:=by
 unfold zhj
 refine(yc1 p I).bind fun b hb=>Tot.ite (fun h=>?_) fun _=>Tot.mk fun h=>by cases h
 have G:zpt p:=⟨(hb h).1,(hb h).2,I⟩
 refine Tot.ite (fun _=>Tot.mk fun _=>G) fun _=>?_
 refine Tot.bind (Tot.loop (fun s:Int×Nat=>s.2<=p.Tasks.length) (R:=fun _=>True) (fun s=>p.Tasks.length-s.2) (Waf _) fun⟨m,i⟩ hi=>?_) fun r _=>by cases r<;>exact Tot.mk fun _=>G
 simp only at hi;unfold zj7;exact Tot.ite (fun h'=>(Tot.get (by omega)).bind fun x U=>(zuu 1000000 x.Body (by have:=I x U.1;omega)).bind fun _ _=>(yho _).bind fun _ _=>Tot.ite (fun _=>Tot.mk trivial) fun _=>Tot.mk ⟨by simp only;omega,by simp only;omega⟩) fun _=>Tot.mk trivial
end Go.Lz

end
section
namespace Go.Lz
theorem zmm {α:Type} {a b:List α} (hl:a.length=b.length) {f:Nat->Option (Nat⊕(Bool⊕Unit))} (step:∀i (h1:i<a.length) (h2:i<b.length),Tot (f i) fun r=>(r=.inl (i+1)/\a[i]=b[i])\/r=.inr (.inl false)) (last:f a.length=some (.inr (.inr ()))):
  Tot (loop f 0) fun r=>(r=.inr ()/\a=b)\/r=.inl false:=by
 refine Tot.loop (fun i=>i<=a.length/\∀j (h1:j<a.length) (h2:j<b.length),j<i->a[j]=b[j]) (fun i=>a.length-i) ⟨Waf _,fun j _ _ U=>by omega⟩ fun i ⟨hi,hI⟩=>?_
 by_cases I:i<a.length
 ·refine(step i I (by omega)).imp fun r hr=>?_
  rcases hr with⟨rfl,he⟩|rfl
  ·refine⟨⟨I,fun j h1 h2 U=>?_⟩,by simp only;omega⟩
   by_cases e:j=i
   ·subst e;exact he
   ·exact hI j h1 h2 (by omega)
  ·exact .inr rfl
 ·have e:i=a.length:=by omega
  subst e;refine⟨_,last,.inl ⟨rfl,?_⟩⟩;exact List.ext_getElem hl fun j h1 h2=>hI j h1 h2 h1
theorem no_t {Q:Prop}:Tot (some false) fun b=>b=true->Q:=Tot.mk fun h=>by cases h
theorem zw3 {g:Prop} {i:Nat}:Tot (some (.inr (.inl false)):Option (Nat⊕(Bool⊕Unit))) fun r=>(r=.inl (i+1)/\g)\/r=.inr (.inl false):=Tot.mk (.inr rfl)
theorem zth {Q:Prop} {a:Prop} {x:Option (Bool⊕Unit)} (h:Tot x fun r=>(r=.inr ()/\a)\/r=.inl false) {k:Bool⊕Unit->Option Bool} (I:a->Tot (k (.inr ())) fun b=>b=true->Q) (k0:k (.inl false)=some false):Tot (x.bind k) fun b=>b=true->Q:=by
 refine h.bind fun r hr=>?_
 rcases hr with⟨rfl,ha⟩|rfl
 ·exact I ha
 ·rw[k0];exact no_t
theorem yf2:∀(n:Nat) (a b:xtn),depE a<=n->Tot (zdy n a b) fun r=>r=true->a=b
 |0,a,b,h=>by rw[zd5]at h;omega
 |n+1,a,b,h=>by
  rw[zd5]at h
  show Tot (zc0 (zdy n) a b) _
  unfold zc0;refine Tot.ite (fun h1=>Tot.ite (fun h2=>Tot.ite (fun h3=>Tot.ite (fun h4=>Tot.ite (fun h5=>?_) fun _=>no_t) fun _=>no_t) fun _=>no_t) fun _=>no_t) fun _=>no_t;refine zth (zmm (a:=a.Args) (b:=b.Args) (by omega) (fun i q1 q2=>?_) (by simp[zez])) (fun e=>Tot.mk fun _=>?_) rfl
  ·unfold zez
   refine Tot.ite (fun _=>(Tot.get q1).bind fun x ⟨U,ex⟩=>(Tot.get q2).bind fun y ⟨_,ey⟩=>(yf2 n x y (by have:=zgs U;omega)).bind fun r hr=>Tot.ite (fun I=>Tot.mk (.inl ⟨rfl,?_⟩)) fun _=>zw3) fun h=>by omega
   rw[<-ex,<-ey];exact hr I
  ·cases a;cases b;simp only at h1 h2 h3 h4 e;simp[h1,h2,h3,h4,e]
theorem z5n {a b:xtn} (h:depE a<=1000000):Tot (zdw a b) fun r=>r=true->a=b:=yf2 1000000 a b h
theorem yaj:∀(n:Nat) (a b:List xtp),zgr a+1<=n->zgr a<=1000->Tot (zfm n a b) fun r=>r=true->a=b
 |0,a,b,h,_=>by omega
 |n+1,a,b,h,hd=>by
  show Tot (zfn (zfm n) a b) _
  unfold zfn;refine Tot.ite (fun hl=>?_) fun _=>no_t;refine zth (zmm (a:=a) (b:=b) (by omega) (fun i q1 q2=>?_) (by simp[zif])) (fun e=>Tot.mk fun _=>e) rfl;unfold zif
  refine Tot.ite (fun _=>(Tot.get q1).bind fun x ⟨hx,ex⟩=>(Tot.get q2).bind fun y ⟨_,ey⟩=>?_) fun h=>by omega
  rw[<-ex,<-ey]
  have dx:=zod hx
  rw[zvk]at dx;refine Tot.ite (fun h1=>Tot.ite (fun h2=>(z5n (by omega)).bind fun _ h3=>Tot.ite (fun t3=>(z5n (by omega)).bind fun _ h4=>Tot.ite (fun t4=>(z5n (by rw[zd5];simp only;omega)).bind fun _ h5=>Tot.ite (fun t5=>(yaj n x.Body y.Body (by omega) (by omega)).bind fun _ h6=>Tot.ite (fun t6=>(yaj n x.Else y.Else (by omega) (by omega)).bind fun _ h7=>Tot.ite (fun t7=>Tot.mk (.inl ⟨rfl,?_⟩)) fun _=>zw3) fun _=>zw3) fun _=>zw3) fun _=>zw3) fun _=>zw3) fun _=>zw3) fun _=>zw3
  have I:=h3 t3;have U:=h4 t4;have e5:=h5 t5;have e6:=h6 t6;have e7:=h7 t7
  cases x;cases y;simp only[xtn.mk.injEq,true_and]at h1 h2 I U e5 e6 e7;simp[h1,h2,I,U,e5,e6,e7]
theorem ymy (a b:List Int):Tot (zbl a b) fun r=>r=true->a=b:=by
 unfold zbl;refine Tot.ite (fun hl=>?_) fun _=>no_t;refine zth (zmm (a:=a) (b:=b) (by omega) (fun i q1 q2=>?_) (by simp[zdn])) (fun e=>Tot.mk fun _=>e) rfl;unfold zdn
 exact Tot.ite (fun _=>(Tot.get q1).bind fun x ⟨_,ex⟩=>(Tot.get q2).bind fun y ⟨_,I⟩=>Tot.ite (fun e=>Tot.mk (.inl ⟨rfl,by rw[<-ex,<-I];exact e⟩)) fun _=>zw3) fun h=>by omega
theorem ylp (a b:xtq):Tot (zhx a b) fun r=>r=true->a=b:=by
 unfold zhx;refine Tot.ite (fun l1=>Tot.ite (fun l2=>?_) fun _=>no_t) fun _=>no_t;refine zth (zmm (a:=a.Names) (b:=b.Names) (by omega) (fun i q1 q2=>?_) (by simp[zik])) (fun U=>?_) rfl
 ·unfold zik
  exact Tot.ite (fun _=>(Tot.get q1).bind fun x ⟨_,ex⟩=>(Tot.get q2).bind fun y ⟨_,I⟩=>Tot.ite (fun e=>Tot.mk (.inl ⟨rfl,by rw[<-ex,<-I];exact e⟩)) fun _=>zw3) fun h=>by omega
 refine zth (zmm (a:=a.Below) (b:=b.Below) (by omega) (fun i q1 q2=>?_) (by simp[zij])) (fun e2=>Tot.mk fun _=>?_) rfl
 ·unfold zij
  refine Tot.ite (fun _=>(Tot.get q1).bind fun x ⟨_,ex⟩=>(Tot.get q2).bind fun y ⟨_,I⟩=>Tot.ite (fun e=>Tot.mk (.inl ⟨rfl,?_⟩)) fun _=>zw3) fun h=>by omega
  rw[<-ex,<-I];cases x;cases y;simp only at e;simp[e]
 ·cases a;cases b;simp only at U e2;simp[U,e2]
theorem ylo {a b:xtm} (hd:∀t∈a.Tasks,zgr t.Body<=1000):Tot (zhr a b) fun r=>r=true->a=b:=by
 unfold zhr;refine(ylp _ _).bind fun r hr=>Tot.ite (fun t0=>Tot.ite (fun l1=>Tot.ite (fun l2=>Tot.ite (fun l3=>Tot.ite (fun l4=>?_) fun _=>no_t) fun _=>no_t) fun _=>no_t) fun _=>no_t) fun _=>no_t;refine zth (zmm (a:=a.Sites) (b:=b.Sites) (by omega) (fun i q1 q2=>?_) (by simp[zid])) (fun e1=>?_) rfl
 ·unfold zid
  refine Tot.ite (fun _=>(Tot.get q1).bind fun x ⟨_,ex⟩=>(Tot.get q2).bind fun y ⟨_,I⟩=>Tot.ite (fun e=>Tot.mk (.inl ⟨rfl,?_⟩)) fun _=>zw3) fun h=>by omega
  rw[<-ex,<-I];cases x;cases y;simp only at e;simp[e]
 refine zth (zmm (a:=a.Vars) (b:=b.Vars) (by omega) (fun i q1 q2=>?_) (by simp[zic])) (fun e2=>?_) rfl
 ·unfold zic
  refine Tot.ite (fun _=>(Tot.get q1).bind fun x ⟨_,ex⟩=>(Tot.get q2).bind fun y ⟨_,I⟩=>Tot.ite (fun e=>Tot.mk (.inl ⟨rfl,?_⟩)) fun _=>zw3) fun h=>by omega
  rw[<-ex,<-I];obtain⟨n1,t1,m1,b1,s1⟩:=x;obtain⟨n2,t2,m2,b2,s2⟩:=y;cases t1;cases t2;simp only at e;simp[e]
 refine zth (zmm (a:=a.Blocks) (b:=b.Blocks) (by omega) (fun i q1 q2=>?_) (by simp[zib])) (fun U=>?_) rfl
 ·unfold zib
  refine Tot.ite (fun _=>(Tot.get q1).bind fun x ⟨_,ex⟩=>(Tot.get q2).bind fun y ⟨_,I⟩=>Tot.ite (fun e=>Tot.mk (.inl ⟨rfl,?_⟩)) fun _=>zw3) fun h=>by omega
  rw[<-ex,<-I];cases x;cases y;simp only at e;simp[e]
 refine zth (zmm (a:=a.Tasks) (b:=b.Tasks) (by omega) (fun i q1 q2=>?_) (by simp[zia])) (fun e4=>Tot.mk fun _=>?_) rfl
 ·unfold zia zg3
  refine Tot.ite (fun _=>(Tot.get q1).bind fun x ⟨hx,ex⟩=>(Tot.get q2).bind fun y ⟨_,I⟩=>?_) fun h=>by omega
  have:Tot (if x.Every=y.Every then(if x.Priority=y.Priority then((zbl x.Budget y.Budget).bind fun aa=>if aa=true then((zlz x.Body y.Body).bind fun ab=>some ab)else(some false))else(some false))else(some false)) fun r=>r=true->x=y:=by
   refine Tot.ite (fun h1=>Tot.ite (fun h2=>(ymy _ _).bind fun r3 h3=>Tot.ite (fun t3=>(yaj 1000000 x.Body y.Body (by have:=hd x hx;omega) (hd x hx)).bind fun r4 h4=>Tot.mk fun t4=>?_) fun _=>no_t) fun _=>no_t) fun _=>no_t
   have U:=h3 t3;have e4:=h4 t4
   cases x;cases y;simp only at h1 h2 U e4;simp[h1,h2,U,e4]
  refine this.bind fun r hr=>Tot.ite (fun t=>Tot.mk (.inl ⟨rfl,?_⟩)) fun _=>zw3;rw[<-ex,<-I];exact hr t
 ·have e0:=hr t0
  cases a;cases b;simp only at e0 e1 e2 U e4;simp[e0,e1,e2,U,e4]
end Go.Lz

end
section
namespace Go.Lz
theorem z7d {α:Type} (g:α->Int->α) {labels:List Int} {off:Nat} {xs0:List α} (hl:off+xs0.length<=labels.length) {f:List α×Nat->Option ((List α×Nat)⊕List α)}
  (hf:∀(xs:List α) i,xs.length=xs0.length->i<xs.length->f (xs,i)=(labels[off+i]?).bind fun l=>(xs[i]?).bind fun x=>some (.inl (xs.set i (g x l),i+1))) (last:∀xs:List α,f (xs,xs.length)=some (.inr xs)):
  Tot (loop f (xs0,0)) fun r=>r.length=xs0.length/\∀i (h:i<r.length) (h0:i<xs0.length) (h1:off+i<labels.length),r[i]=g xs0[i] labels[off+i]:=by
 refine Tot.loop (fun s:List α×Nat=>s.2<=s.1.length/\s.1.length=xs0.length/\(∀i (h:i<s.1.length) (h0:i<xs0.length) (h1:off+i<labels.length),i<s.2->s.1[i]=g xs0[i] labels[off+i])/\∀i (h:i<s.1.length) (h0:i<xs0.length),s.2<=i->s.1[i]=xs0[i]) (fun s=>xs0.length-s.2) ⟨Waf _,rfl,fun i _ _ _ h=>by simp only at h;omega,fun i _ _ _=>rfl⟩ fun⟨xs,i⟩ ⟨hi,hn,h1,h2⟩=>?_
 simp only at hi hn h1 h2
 by_cases h':i<xs.length
 ·rw[hf xs i hn h']
  refine(Tot.get (by omega)).bind fun l ⟨_,el⟩=>(Tot.get h').bind fun x ⟨_,ex⟩=>Tot.mk ⟨⟨by simp only[Wa7];omega,by simp only[Wa7];exact hn,fun j U I aa ab=>?_,fun j U I ad=>?_⟩,by simp only;omega⟩
  ·simp only[Wa7]at U ab
   simp only[List.getElem_set];split
   ·rename_i e;subst e;rw[ex,el,h2 i h' I (Wae _)]
   ·exact h1 j U I aa (by omega)
  ·simp only[Wa7]at U ad
   simp only[List.getElem_set];split
   ·omega
   ·exact h2 j U I (by omega)
 ·have e:i=xs.length:=by omega
  subst e;exact⟨_,last xs,hn,fun j U I aa=>h1 j U I aa U⟩
def setV (v:xtv) (l:Int):xtv:=⟨v.Name,v.Type_,v.Mode,l,v.Safe⟩
def setB (b:xt1) (l:Int):xt1:=⟨b.Name,b.Kind,l⟩
def Labd (p q:xtm) (l:List Int):Prop:=q.Lattice=p.Lattice/\q.Tasks=p.Tasks/\(q.Vars.length=p.Vars.length/\∀i (h:i<q.Vars.length) (h1:i<l.length),q.Vars[i].Label=l[i])/\(q.Blocks.length=p.Blocks.length/\∀i (h:i<q.Blocks.length) (h1:p.Vars.length+i<l.length),q.Blocks[i].Label=l[p.Vars.length+i])
theorem yka {p:xtm} (hd:∀t∈p.Tasks,zgr t.Body<=120):Tot (zf8 p) fun r=>r.2=0->zpt p/\Lat p.Lattice/\(∀t∈p.Tasks,zn2 p t.Body=true)/\zbg p=some 0/\∃l,zbo p=some (l,0)/\l.length=p.Vars.length+p.Blocks.length/\Labd p r.1 l:=by
 have aa:∀t∈p.Tasks,zgr t.Body<=1000:=fun t ht=>WaF (hd t ht) (by omega)
 have no:∀{x:xtm} {e:Int} {Q:xtm×Int->Prop},e≠0->Tot (some (x,e)) fun r=>r.2=0->Q r:=fun h=>Tot.mk fun h'=>(h h').elim
 unfold zf8;refine(yfp p aa).bind fun b hb=>Tot.ite (fun h=>?_) fun _=>no (by decide)
 have G:=hb h
 have P:=G.P
 have p1:=P.nv;have p2:=P.nb;have p3:=P.ns
 rw[yec,Waa];refine Tot.ite (fun hL=>?_) fun h=>no h
 have L:=ymp hL
 refine(ykc p (by omega) (by omega) (by omega) aa).bind fun r ar=>Tot.ite (fun au=>?_) fun h=>no h;obtain⟨av,ab,_⟩:=ykb G;refine Tot.bind (Q:=fun r=>r=av) ⟨_,ab,rfl⟩ fun ax ak=>?_;subst ak;refine Tot.ite (fun aw=>?_) fun h=>no h;rw[aw]at ab;obtain⟨⟨l,z⟩,af,ai⟩:=yb6 G hd L;refine Tot.bind (Q:=fun r=>r=(l,z)) ⟨_,af,rfl⟩ fun ay al=>?_;subst al;refine Tot.ite (fun aj=>?_) fun h=>no h
 simp only at aj ai;subst aj
 have hl:=ai rfl
 have fin:∀q:xtm,Labd p q l->Tot ((zbq q).bind fun an=>if an=true then(some (q,(0:Int)))else(some ((⟨(⟨[],[]⟩:xtq),[],[],[],[]⟩:xtm),3))) fun r=>r.2=0->zpt p/\Lat p.Lattice/\(∀t∈p.Tasks,zn2 p t.Body=true)/\zbg p=some 0/\∃l,zbo p=some (l,0)/\l.length=p.Vars.length+p.Blocks.length/\Labd p r.1 l:=fun q hq=>
  (yc1 q (by rw[hq.2.1];exact aa)).bind fun b _=>Tot.ite (fun _=>Tot.mk fun _=>⟨G,L,ar au,ab,l,af,hl,hq⟩) fun _=>no (by decide)
 have vs:∀f:List xtv×Nat->Option ((List xtv×Nat)⊕List xtv),(∀xs i,f (xs,i)=if(i:Int)<(xs.length:Int)then((l[i]?).bind fun ao=>(xs[i]?).bind fun I=>some (.inl ((xs.set i (⟨I.Name,I.Type_,I.Mode,ao,I.Safe⟩:xtv)),(i+1))))else(some (.inr (xs))))->Tot (loop f (p.Vars,0)) fun r=>r.length=p.Vars.length/\∀i (h:i<r.length) (h1:i<l.length),r[i].Label=l[i]:=fun f hf=>
  (z7d setV (labels:=l) (off:=0) (xs0:=p.Vars) (by omega) (fun xs i _ hi=>by rw[hf,if_pos (by omega)];simp only[Wbd];rfl) (fun xs=>by rw[hf,if_neg (by omega)])).imp fun r hr=>⟨hr.1,fun i h h1=>by have:=hr.2 i h (by omega) (by omega);rw[this];simp[setV]⟩
 have bs:∀(f:List xt1×Nat->Option ((List xt1×Nat)⊕List xt1)) (m:Nat),m=p.Vars.length->(∀xs i,f (xs,i)=if(i:Int)<(xs.length:Int)then((idx l (w64 ((m:Int)+(i:Int)))).bind fun aq=>(xs[i]?).bind fun ad=>some (.inl ((xs.set i (⟨ad.Name,ad.Kind,aq⟩:xt1)),(i+1))))else(some (.inr (xs))))->Tot (loop f (p.Blocks,0)) fun r=>r.length=p.Blocks.length/\∀i (h:i<r.length) (h1:p.Vars.length+i<l.length),r[i].Label=l[p.Vars.length+i]:=fun f m hm hf=>
  (z7d setB (labels:=l) (off:=p.Vars.length) (xs0:=p.Blocks) (by omega) (fun xs i _ hi=>by
    rw[hf,if_pos (by omega),zhd (by omega) (by omega),hm,show(p.Vars.length:Int)+(i:Int)=((p.Vars.length+i:Nat):Int) by omega,zqs];rfl) (fun xs=>by rw[hf,if_neg (by omega)])).imp fun r hr=>⟨hr.1,fun i h h1=>by have:=hr.2 i h (by omega) h1;rw[this];simp[setB]⟩
 refine Tot.ite (fun ev=>Tot.ite (fun eb=>?_) fun eb=>Tot.need (by omega) ?_) fun ev=>Tot.need (by omega) (Tot.ite (fun eb=>?_) fun eb=>Tot.need (by omega) ?_)
 ·have U:=Wbr.1 ev;have ae:=Wbr.1 eb
  rw[zcs (r:=()) (by simp[zjl]),Waa,zcs (r:=()) (by simp[zjk]),Waa];exact fin ⟨p.Lattice,p.Sites,[],[],p.Tasks⟩ ⟨rfl,rfl,⟨by simp[U],fun i h=>by simp at h⟩,by simp[ae],fun i h=>by simp at h⟩
 ·have U:=Wbr.1 ev
  rw[zcs (r:=()) (by simp[zjj]),Waa];exact(bs _ 0 (by simp[U]) (fun xs i=>by simp[zji])).bind fun r hr=>fin ⟨p.Lattice,p.Sites,[],r,p.Tasks⟩ ⟨rfl,rfl,⟨by simp[U],fun i h=>by simp at h⟩,hr⟩
 ·have ae:=Wbr.1 eb
  refine(vs _ (fun xs i=>rfl)).bind fun v hv=>?_;rw[zcs (r:=()) (by simp[zjh]),Waa];exact fin ⟨p.Lattice,p.Sites,v,[],p.Tasks⟩ ⟨rfl,rfl,hv,by simp[ae],fun i h=>by simp at h⟩
 ·exact(vs _ (fun xs i=>rfl)).bind fun v hv=>(bs _ v.length hv.1 (fun xs i=>rfl)).bind fun r hr=>fin ⟨p.Lattice,p.Sites,v,r,p.Tasks⟩ ⟨rfl,rfl,hv,hr⟩
theorem ymi {p:xtm} (I:∀t∈p.Tasks,zgr t.Body<=120):Tot (zfx p) fun b=>b=true->zpt p/\Lat p.Lattice/\(∀t∈p.Tasks,zn2 p t.Body=true)/\zbg p=some 0/\∃l,zbo p=some (l,0)/\l.length=p.Vars.length+p.Blocks.length/\Labd p p l:=by
 have U:∀t∈p.Tasks,zgr t.Body<=1000:=fun t ht=>WaF (I t ht) (by omega)
 unfold zfx
 refine(yka I).bind fun r hr=>Tot.ite (fun h=>?_) fun _=>Tot.mk fun h=>by cases h
 obtain⟨h1,h2,h3,h4,l,h5,h6,h7⟩:=hr h;refine(ylo U).bind fun b hb=>Tot.mk fun t=>⟨h1,h2,h3,h4,l,h5,h6,?_⟩
 have:=hb t
 rw[<-this]at h7;exact h7
end Go.Lz

end
section
namespace Go.Lz
theorem zzd {P:Program} {all:Array Oper} {kt:Nat} (al:kt<=all.size) {S Fl FE:List Nat} {K:St->Prop} (hg:∀(j:Nat) (o:Oper),all[j]? =some o->o.guard=none):∀(rest:List Oper) (k:Nat) (st:St),(∀m,m<rest.length->rest[m]? =all[k+m]?)->k+rest.length=kt->awpF P S Fl FE k rest st K->
  ∃(T:Nat->V) (Hs:Nat->List O) (ab:St),Hs k=st.H/\(∀(i:Nat) (o:Oper),k<=i->i<kt->all[i]? =some o->z9u P all S Fl FE (fun t=>tvF all T (look st.t) k t (i-k)) T Hs i o)/\K ab/\ab.H=Hs kt/\∀t,look ab.t t=tvF all T (look st.t) k t (kt-k)
 |[],k,st,hr,hn,h=>by
  simp at hn;refine⟨fun _=>.un,fun _=>st.H,st,rfl,fun i o hi I ho=>?_,h,rfl,fun t=>?_⟩
  ·omega
  ·rw[hn,Wbf];rfl
 |o::rest,k,st,hr,hn,h=>by
  have ho:all[k]? =some o:=by have:=hr 0 (by simp);simpa using this.symm
  have an:∀m,m<rest.length->rest[m]? =all[k+1+m]? :=fun m hm=>by have:=hr (m+1) (by simp;omega);simpa [Waz,WbL 1 m]using this
  have ao:k+1+rest.length=kt:=by simp at hn;omega
  have ad:=hg k o ho
  have aa:zcm all k=effF o.op:=by simp[zcm,ho]
  obtain⟨x,H1,hE,hA,hQ,hO,hF,aj⟩:∃x H1,(effF o.op=true->OpE P all st.H H1 k o (look st.t) x)/\(FE.contains k=true->zo2 S st.H H1)/\(effF o.op=false->H1=st.H)/\(effF o.op=false->OpE P all st.H st.H k o (look st.t) x)/\
    (effF o.op=false->Fl.contains k=true->∀H',zo2 S st.H H'->OpE P all H' H' k o (look st.t) x)/\awpF P S Fl FE (k+1) rest (st.put o.dst x H1) K:=by
   simp only[awpF]at h
   cases he:effF o.op with
   |true=>
    rw[he]at h;simp only at h;split at h
    ·rename_i f args av aq
     split at h
     ·rename_i g cap hf
      obtain⟨x,H1,hc,ha,hk⟩:=h;exact⟨x,H1,fun _=>z7q ho ad aq hf hc,ha,fun h=>(by cases h),fun h=>(by cases h),fun h=>(by cases h),hk⟩
     ·exact h.elim
    ·obtain⟨hp,ha,hk⟩:=h
     exact⟨_,_,fun _=>zvu ho ad hp,ha,fun h=>(by cases h),fun h=>(by cases h),fun h=>(by cases h),hk⟩
   |false=>
    rw[he]at h;simp only at h;obtain⟨hp,hh,ar,hk⟩:=h;refine⟨_,st.H,fun h=>(by cases h),fun _ _ _=>rfl,fun _=>rfl,fun _=>?_,fun _ hf H' U=>?_,hk⟩
    ·have:=zvu (st:=st) ho ad hp
     rwa[hh]at this
    ·obtain⟨q1,q2,q3⟩:=ar hf H' U
     have:=zvu (st:=st) ho ad q1
     rwa[q2,q3]at this
  obtain⟨T,Hs,ab,e1,e2,e3,e4,e5⟩:=zzd al hg rest (k+1) (st.put o.dst x H1) an ao aj
  have ae:∀t,look (st.put o.dst x H1).t t=if(all[k]?).bind (·.dst)=some t then x else look st.t t:=fun t=>by rw[zoy,ho];rfl
  have af:Hs (k+1)=H1:=by rw[e1];cases o.dst<;>rfl
  refine⟨fun i=>if i=k then x else T i,fun i=>if i=k then st.H else Hs i,ab,by simp,fun i oi hi ak ai=>?_,e3,?_,fun t=>?_⟩
  ·by_cases I:i=k
   ·subst I
    rw[ho]at ai;cases ai
    have l0:(fun t=>tvF all (fun j=>if j=i then x else T j) (look st.t) i t (i-i))=look st.t:=by funext t;rw[Wbf];rfl
    rw[l0]
    have n1:i+1≠i:=by omega
    refine⟨fun h=>?_,fun ha=>?_,fun h=>?_,fun h=>?_,fun h hf H' U=>?_⟩
    ·simp only[if_true,if_neg n1,af];exact hE (by rw[<-aa];exact h)
    ·simp only[if_true,if_neg n1,af];exact hA ha
    ·simp only[if_true,if_neg n1,af];exact hQ (by rw[<-aa];exact h)
    ·simp only[if_true];exact hO (by rw[<-aa];exact h)
    ·simp only[if_true]at U|-;exact hF (by rw[<-aa];exact h) hf H' U
   ·have au:k+1<=i:=by omega
    have F:=e2 i oi au ak ai
    have lE:(fun t=>tvF all (fun j=>if j=k then x else T j) (look st.t) k t (i-k))=fun t=>tvF all T (look (st.put o.dst x H1).t) (k+1) t (i-(k+1)):=by
     funext t
     rw[show i-k=(i-(k+1))+1 by omega,zuk];simp only[if_true];rw[zul (l':=look (st.put o.dst x H1).t) (fun t=>(ae t).symm)]
     exact zq0 fun m hm=>by rw[if_neg (by omega)]
    rw[lE]
    have n1:i+1≠k:=by omega
    refine⟨fun h=>?_,fun ha=>?_,fun h=>?_,fun h=>?_,fun h hf H' U=>?_⟩
    ·simp only[if_neg I,if_neg n1];exact F.eff h
    ·simp only[if_neg I,if_neg n1];exact F.ag ha
    ·simp only[if_neg I,if_neg n1];exact F.quiet h
    ·simp only[if_neg I];exact F.one h
    ·simp only[if_neg I]at U|-;exact F.flo h hf H' U
  ·have:kt≠k:=by omega
   simp only[if_neg this];exact e4
  ·rw[e5]
   rw[show kt-k=(kt-(k+1))+1 by omega,zuk];simp only[if_true];rw[zul (l':=look (st.put o.dst x H1).t) (fun t=>(ae t).symm)];exact(zq0 fun m hm=>by rw[if_neg (by omega)]).symm
theorem yfb {kt:Nat} {P:Program} {ctx:Env} {n:Nat} {ops:Array Oper} {T l0:Nat->V} {S Fl FE:List Nat} {Hs:Nat->List O} {Q:Exit->Act->World->Prop} (hd:z17 ops) (aS:kt<ops.size) (aY:∀i j,kt<=j->j<ops.size->i<kt->Before ops i j) (aZ:floB ops=true) (aB:floL ops Fl FE=true) (a4:∀o∈ops.toList,∀d,o.dst=some d->d<n)
  (X:∀(i:Nat) (o:Oper),i<kt->ops[i]? =some o->z9u P ops S Fl FE (fun t=>tv ops T l0 (fun _=>True) t i) T Hs i o)
  (hT:∀(fuel:Nat) (listed:Array Bool) (a:Act) (E:Env),unl listed<=fuel->listed.size=ops.size->(∀(j:Nat) (o:Oper),ops[j]? =some o->listed.getD j false=true->∀e∈o.after,Region.binds .any e=true->listed.getD e.on false=true)->(∀i,listed.getD i false=true↔i<kt)->
    n<=a.tmps.size->a.defers=[]->HRel E->E.H=Hs kt->Trans ctx E->(∀t,VRel E (tv ops T l0 (fun _=>True) t kt) (a.tmps.getD t undef))->wpAny P .any ops Q fuel listed a E.w):
  ∀(fuel:Nat) (listed:Array Bool) (a:Act) (E:Env),unl listed<=fuel->listed.size=ops.size->(∀(j:Nat) (o:Oper),ops[j]? =some o->listed.getD j false=true->∀e∈o.after,Region.binds .any e=true->listed.getD e.on false=true)->(∀j,listed.getD j false=true->j<kt)->
   n<=a.tmps.size->a.defers=[]->HRel E->(∃m,m<=kt/\E.H=Hs m/\(∀e,e<m->zcm ops e=true->listed.getD e false=true)/\∀e,m<=e->zcm ops e=true->listed.getD e false=false)->Trans ctx E->
   (∀t,VRel E (tv ops T l0 (fun j=>listed.getD j false=true) t ops.size) (a.tmps.getD t undef))->wpAny P .any ops Q fuel listed a E.w:=by
 obtain⟨hg,aC⟩:=zxr aZ
 have ao:∀{j t:Nat},(ops[j]?).bind (·.dst)=some t->∃oj,ops[j]? =some oj/\oj.dst=some t:=by
  intro j t h
  cases hj:ops[j]? with
  |none=>simp[hj]at h
  |some oj=>simp[hj]at h;exact⟨oj,rfl,h⟩
 have pre:∀{i j:Nat},((zi6 ops.toList).getD j []).contains i=true->Before ops i j:=fun{i j} h=>z0e (by simpa using h)
 have ab:∀{i j:Nat},Before ops i j->i<j:=by
  intro i j h
  have one:∀{i j:Nat},zhc ops i j=true->i<j:=fun{i j} aq=>by
   obtain⟨o,ho,e,he,hb,rfl⟩:=zfs aq;exact hd.back j o ho e he hb
  induction h with
  |one h=>exact one h
  |trans h h2 ih=>exact Nat.lt_trans ih (one h2)
 have const:∀{a b:Nat},a<=b->b<=kt->(∀e,a<=e->e<b->zcm ops e=false)->Hs b=Hs a:=by
  intro a b ar
  induction ar with
  |refl=>intro _ _;rfl
  | @step b ar ih=>
    intro hb hq
    have aH:b<kt:=hb
    have a5:b<ops.size:=by omega
    have:=(X b ops[b] aH (by simp[a5])).quiet (hq b ar (Wbt b))
    rw[this];exact ih (WaS hb) fun e h1 h2=>hq e h1 (Wb5 h2)
 have a6:∀e,e<ops.size->zcm ops e=true->floE ops e=true->FE.contains e=true:=fun e he I hf=>by
  unfold floL at aB
  have:=Wak.1 aB e (WaC.2 he)
  rw[I,hf]at this;simpa using this
 have a7:∀i,i<ops.size->zcm ops i=false->floQ ops i=true->Fl.contains i=true:=fun i hi a8 hf=>by
  unfold floL at aB
  have:=Wak.1 aB i (WaC.2 hi)
  rw[a8,hf]at this;simpa using this
 have aT:∀{a b:Nat},a<=b->b<=kt->(∀e,a<=e->e<b->zcm ops e=true->floE ops e=true)->∀i∈S,(Hs b)[i]? =(Hs a)[i]? :=by
  intro a b ar
  induction ar with
  |refl=>intro _ _ i _;rfl
  | @step b ar ih=>
    intro hb hq i hi
    have a9:b<kt:=hb
    have aH:b<ops.size:=by omega
    have hX:=X b ops[b] a9 (by simp[aH])
    have:(Hs (b+1))[i]? =(Hs b)[i]? :=by
     cases I:zcm ops b with
     |true=>exact hX.ag (a6 b aH I (hq b ar (Wbt b) I)) i hi
     |false=>rw[hX.quiet I]
    rw[this];exact ih (WaS hb) (fun e h1 h2=>hq e h1 (Wb5 h2)) i hi
 have fin:∀(fuel:Nat) (listed:Array Bool) (a:Act) (E:Env),unl listed<=fuel->listed.size=ops.size->(∀(j:Nat) (o:Oper),ops[j]? =some o->listed.getD j false=true->∀e∈o.after,Region.binds .any e=true->listed.getD e.on false=true)->(∀j,listed.getD j false=true->j<kt)->n<=a.tmps.size->a.defers=[]->HRel E->(∃m,m<=kt/\E.H=Hs m/\(∀e,e<m->zcm ops e=true->listed.getD e false=true)/\∀e,m<=e->zcm ops e=true->listed.getD e false=false)->Trans ctx E->
   (∀t,VRel E (tv ops T l0 (fun j=>listed.getD j false=true) t ops.size) (a.tmps.getD t undef))->(∀i,i<kt->listed.getD i false=true)->wpAny P .any ops Q fuel listed a E.w:=by
  rintro fuel listed a E hu ba hc au hlen aD hE ⟨m,hm,hH,h1,h2⟩ tr ax aj;refine hT fuel listed a E hu ba hc (fun i=>⟨au i,aj i⟩) hlen aD hE ?_ tr fun t=>?_
  ·rw[hH]
   refine(const hm (Wae _) fun e he U=>?_).symm
   cases ae:zcm ops e with
   |false=>rfl
   |true=>have:=h2 e he ae;rw[aj e U]at this;cases this
  ·have:=ax t
   rw[zo6 (i:=kt) (WaS aS) (fun j hj _ _ hl=>by have:=au j hl;omega)]at this;rwa[zvp (fun j hj _=>aj j hj)]at this
 have nil:∀(listed:Array Bool),listed.size=ops.size->Region.ready .any ops listed=[]->∀i,i<ops.size->listed.getD i false=true:=by
  intro listed hs hr j
  induction j using Nat.strongRecOn with
  |_ j bb=>
   intro hj
   cases hl:listed.getD j false with
   |true=>rfl
   |false=>
    have aM:j∈Region.ready .any ops listed:=by
     rw[mem_ready];refine⟨by simp only[Wah]at hl|-;rw[WaR (by rw[hs];exact hj)]at hl|-;simpa using hl,ops[j],by simp[hj],fun e he hb=>?_⟩
     have U:=hd.back j ops[j] (by simp[hj]) e he hb
     exact bb e.on U (by omega)
    rw[hr]at aM;cases aM
 intro fuel
 induction fuel with
 |zero=>
  intro listed a E hu hs hc au hlen aD hE hm tr ax
  have:=au kt (zw6 (by omega) (by rw[hs];exact aS))
  omega
 |succ fuel ih=>
  intro listed a E hu hs hc au hlen aD hE hm tr ax
  by_cases aj:∀i,i<kt->listed.getD i false=true
  ·exact fin (fuel+1) listed a E hu hs hc au hlen aD hE hm tr ax aj
  refine⟨fun hr=>(aj fun i hi=>nil listed hs hr i (by omega)).elim,fun i hi=>?_⟩;rw[mem_ready]at hi;obtain⟨aN,o,ho,af⟩:=hi
  have ak:i<ops.size:=(Was.1 ho).1
  have av:i<kt:=by
   rcases WaG i kt with h|h
   ·exact h
   ·exact(aj fun q hq=>(aY q i h ak hq).ready hc ho af).elim
  have ai:i<listed.size:=by rw[hs];exact ak
  have ay:listed.getD i false=false:=by
   simp only[Wah,WaR ai]at aN|-;simpa using aN
  have aU:∀d,o.dst=some d->d<n:=a4 o (Wad (by simpa using ho))
  have later:∀j,zhc ops i j=true->listed.getD j false=true->False:=by
   intro j aq hl;obtain⟨oj,ad,e,he,hb,rfl⟩:=zfs aq
   have:=hc j oj ad hl e he hb
   rw[ay]at this;cases this
  have aO:∀j,zhc ops j i=true->listed.getD j false=true:=by
   intro j aq;obtain⟨oi,aV,e,he,hb,rfl⟩:=zfs aq;rw[ho]at aV;cases aV;exact af e he hb
  have aP:∀t,t∈zbv o->VRel E (tv ops T l0 (fun _=>True) t i) (a.tmps.getD t undef):=by
   intro t ht
   have h1:tv ops T l0 (fun j=>listed.getD j false=true) t ops.size=tv ops T l0 (fun j=>listed.getD j false=true) t i:=by
    refine zo6 (WaS ak) fun j aW hj aa hl=>?_;obtain⟨oj,ad,aa⟩:=ao aa
    rcases WbF aW with U|rfl
    ·exact later j (hd.war i j o oj t U ho ad (.inr ⟨aa,.inl ht⟩)) hl
    ·rw[ay]at hl;cases hl
   have h2:tv ops T l0 (fun j=>listed.getD j false=true) t i=tv ops T l0 (fun _=>True) t i:=by
    refine zvp fun j hj aa=>?_;obtain⟨oj,ad,aa⟩:=ao aa;exact aO j (hd.war j i oj o t hj ad ho (.inl ⟨aa,.inl ht⟩))
   have:=ax t
   rw[h1,h2]at this;exact this
  have next:∀v E',VRel E' (T i) v->(∃m,m<=kt/\E'.H=Hs m/\(∀e,e<m->zcm ops e=true->(listed.setIfInBounds i true).getD e false=true)/\∀e,m<=e->zcm ops e=true->(listed.setIfInBounds i true).getD e false=false)->
    HRel E'->Trans E E'->wpAny P .any ops Q fuel (listed.setIfInBounds i true) (a.put o.dst v) E'.w:=by
   intro v E' hv bc hh an;refine ih (listed.setIfInBounds i true) (a.put o.dst v) E' (by have:=zz4 ai aN;omega) (by simp[hs]) ?_ ?_ ?_ ?_ hh bc (tr.trans an) ?_
   ·intro j oj ad hl e he hb
    rw[zb3 ai]at hl|-;rw[WaE]at hl|-
    rcases hl with hl|hl
    ·have:i=j:=by simpa using hl
     subst this;rw[ho]at ad;cases ad;exact .inr (af e he hb)
    ·exact .inr (hc j oj ad hl e he hb)
   ·intro j hl
    rw[zb3 ai,WaE,decide_eq_true_eq]at hl
    rcases hl with hl|hl
    ·omega
    ·exact au j hl
   ·cases az:o.dst<;>simpa [Act.put,az]using hlen
   ·cases az:o.dst<;>simpa [Act.put,az]using aD
   ·intro t
    by_cases aA:o.dst=some t
    ·have bf:=aU t aA
     have U:t<a.tmps.size:=War bf hlen
     rw[aA,zny U,if_pos rfl]
     have h1:tv ops T l0 (fun j=>(listed.setIfInBounds i true).getD j false=true) t ops.size=tv ops T l0 (fun j=>(listed.setIfInBounds i true).getD j false=true) t (i+1):=by
      refine zo6 ak fun j aW hj aa hl=>?_;obtain⟨oj,ad,aa⟩:=ao aa;rw[zb3 ai,WaE]at hl
      rcases hl with hl|hl
      ·have:i=j:=by simpa using hl
       omega
      ·exact later j (hd.war i j o oj t (by omega) ho ad (.inl ⟨aA,.inr (.inl aa)⟩)) hl
     rw[h1,tv,if_pos ⟨by rw[zb3 ai];simp,by simp[ho,aA]⟩];exact hv
    ·have h1:tv ops T l0 (fun j=>(listed.setIfInBounds i true).getD j false=true) t ops.size=tv ops T l0 (fun j=>listed.getD j false=true) t ops.size:=by
      refine z2c fun j hj aa=>?_;obtain⟨oj,ad,aa⟩:=ao aa
      have aQ:i≠j:=by rintro rfl;rw[ho]at ad;cases ad;exact aA aa
      rw[zb3 ai];simp[aQ]
     rw[h1]
     have:(a.put o.dst v).tmps.getD t undef=a.tmps.getD t undef:=by
      cases az:o.dst with
      |none=>rfl
      |some d=>rw[zny (War (aU d az) hlen),if_neg (by rintro rfl;exact aA az)]
     rw[this];exact(ax t).trans an
  obtain⟨m,aw,hH,h1,h2⟩:=hm
  have Xi:=X i o av ho
  have al:∀e,zcm ops e=true->e≠i->(listed.setIfInBounds i true).getD e false=listed.getD e false:=fun e _ aQ=>by rw[zb3 ai];simp[Ne.symm aQ]
  cases ae:zcm ops i with
  |true=>
   have below:∀e,e<i->zcm ops e=true->listed.getD e false=true:=fun e he I=>(pre (aC e i he ak I ae)).ready hc ho af
   have aI:∀e,i<e->zcm ops e=true->listed.getD e false=false:=fun e he I=>by
    cases hl:listed.getD e false with
    |false=>rfl
    |true=>
     have aJ:e<ops.size:=by
      unfold zcm at I
      cases aE:ops[e]? with
      |none=>rw[aE]at I;cases I
      |some oe=>exact(Was.1 aE).1
     have:=(pre (aC i e he aJ ae I)).listed hc hl
     rw[ay]at this;cases this
   have aR:E.H=Hs i:=by
    rw[hH]
    rcases WbM m i with h|h
    ·refine(const h (WaS av) fun e he U=>?_).symm
     cases I:zcm ops e with
     |false=>rfl
     |true=>have:=h2 e he I;rw[below e U I]at this;cases this
    ·refine const h aw fun e he U=>?_
     cases I:zcm ops e with
     |false=>rfl
     |true=>
      have:=h1 e U I
      rcases WbF he with hx|hx
      ·rw[aI e hx I]at this;cases this
      ·rw[<-hx,ay]at this;cases this
   refine Xi.eff ae a E hE aR aP _ Q fun v E' hv aF hh an=>next v E' hv ⟨i+1,av,aF,fun e he I=>?_,fun e he I=>?_⟩ hh an
   ·by_cases aX:e=i
    ·subst aX;rw[zb3 ai];simp
    ·rw[al e I aX];exact below e (by omega) I
   ·rw[al e I (by omega)];exact aI e (by omega) I
  |false=>
   have keep:∃m,m<=kt/\Hs m=Hs m/\(∀e,e<m->zcm ops e=true->(listed.setIfInBounds i true).getD e false=true)/\∀e,m<=e->zcm ops e=true->(listed.setIfInBounds i true).getD e false=false:=
    ⟨m,aw,rfl,fun e he I=>by rw[al e I (by rintro rfl;rw[ae]at I;cases I)];exact h1 e he I,fun e he I=>by rw[al e I (by rintro rfl;rw[ae]at I;cases I)];exact h2 e he I⟩
   have aK:∀E':Env,E'.H=Hs m->∃m,m<=kt/\E'.H=Hs m/\(∀e,e<m->zcm ops e=true->(listed.setIfInBounds i true).getD e false=true)/\∀e,m<=e->zcm ops e=true->(listed.setIfInBounds i true).getD e false=false:=fun E' bg=>
    ⟨m,aw,bg,fun e he I=>by rw[al e I (by rintro rfl;rw[ae]at I;cases I)];exact h1 e he I,fun e he I=>by rw[al e I (by rintro rfl;rw[ae]at I;cases I)];exact h2 e he I⟩
   cases aL:floQ ops i with
   |true=>
    have aG:∀e,e<ops.size->zcm ops e=true->¬Before ops e i->¬Before ops i e->floE ops e=true:=by
     intro e aJ I n1 n2;unfold floE;rw[Wbv];refine⟨i,WaC.2 ak,?_⟩
     have c1:((zi6 ops.toList).getD i []).contains e=false:=by
      cases hx:((zi6 ops.toList).getD i []).contains e with
      |false=>rfl
      |true=>exact(n1 (pre hx)).elim
     have c2:((zi6 ops.toList).getD e []).contains i=false:=by
      cases hx:((zi6 ops.toList).getD e []).contains i with
      |false=>rfl
      |true=>exact(n2 (pre hx)).elim
     simp only[ae,c1,c2,WbN,Bool.and_self]
    have bh:zo2 S (Hs i) (Hs m):=by
     intro q hq
     rcases WbM m i with h|h
     ·refine(aT h (WaS av) (fun e he U I=>aG e (by omega) I (fun hb=>?_) (fun hb=>?_)) q hq).symm
      ·have:=hb.ready hc ho af;rw[h2 e he I]at this;cases this
      ·have:=ab hb;omega
     ·refine aT h aw (fun e he U I=>aG e (by omega) I (fun hb=>?_) (fun hb=>?_)) q hq
      ·have:=ab hb;omega
      ·have:=hb.listed hc (h1 e U I);rw[ay]at this;cases this
    exact Xi.flo ae (a7 i ak ae aL) (Hs m) bh a E hE hH aP _ Q fun v E' hv aF hh an=>next v E' hv (aK E' aF) hh an
   |false=>
    have comp:∀e,zcm ops e=true->Before ops e i\/Before ops i e:=by
     intro e I
     have aJ:e<ops.size:=by
      unfold zcm at I
      cases aE:ops[e]? with
      |none=>rw[aE]at I;cases I
      |some oe=>exact(Was.1 aE).1
     unfold floQ at aL;rw[Wb6]at aL
     have:=aL e (WaC.2 aJ)
     rw[I]at this
     by_cases hx:((zi6 ops.toList).getD i []).contains e=true
     ·exact .inl (pre hx)
     ·refine .inr (pre ?_)
      cases hy:((zi6 ops.toList).getD e []).contains i with
      |true=>rfl
      |false=>
       exfalso;apply this;simp only[Wb7]at hx;simp only[hx,hy,WbN,Bool.and_self]
    have aR:Hs m=Hs i:=by
     rcases WbM m i with h|h
     ·refine(const h (WaS av) fun e he U=>?_).symm
      cases I:zcm ops e with
      |false=>rfl
      |true=>
       have h3:=h2 e he I
       rcases comp e I with hb|hb
       ·have:=hb.ready hc ho af;rw[h3]at this;cases this
       ·have:=ab hb;omega
     ·refine const h aw fun e he U=>?_
      cases I:zcm ops e with
      |false=>rfl
      |true=>
       have h3:=h1 e U I
       rcases comp e I with hb|hb
       ·have:=ab hb;omega
       ·have:=hb.listed hc h3;rw[ay]at this;cases this
    have one:=Xi.one ae
    rw[<-aR]at one
    exact one a E hE hH aP _ Q fun v E' hv aF hh an=>next v E' hv (aK E' aF) hh an
theorem yjb {P:Program} {ctx:Env} {n:Cf} {id kt:Nat} {ops:Array Oper} {st:St} {a:Act} {E:Env} {K:St->Prop} {S Fl FE:List Nat} {Q:Exit->Act->World->Prop} (hm:P.follows .mixedOrders=true) (hd:zwc ops=true) (hf:floB ops=true) (ad:floL ops Fl FE=true) (U:kt<ops.size) (hB:z2e ops kt=true)
  (ab:∀o∈ops.toList,∀d,o.dst=some d->d<n.n) (hw:awpF P S Fl FE 0 (ops.toList.take kt) st (fun st'=>awpOps P ops (ops.toList.drop kt) st' K)) (h:SR ctx n st a E) (hQ:∀st' a' E',K st'->SR ctx n st' a' E'->Q .normal a' E'.w):
  (Code.region id ops true).wp P Q a E.w:=by
 have hD:=zrt hd
 obtain⟨T,Hs,ae,e1,e2,e3,e4,e5⟩:=zzd (kt:=kt) (WaS U) (zxr hf).1 (ops.toList.take kt) 0 st (fun m hm=>by
  have:m<kt:=by simp at hm;omega
  simp[WaQ,this]) (by simp;omega) hw
 refine wp_region_any hm ?_
 obtain⟨t0,af⟩:=zi9 h.rel {E.w with drawn:=E.w.drawn+1} (Wae _) rfl rfl rfl (fun _ _=>rfl)
 have X:∀(i:Nat) (o:Oper),i<kt->ops[i]? =some o->z9u P ops S Fl FE (fun t=>tv ops T (look st.t) (fun _=>True) t i) T Hs i o:=fun i o hi ho=>by
  have:=e2 i o (Waf _) hi ho
  have l:(fun t=>tvF ops T (look st.t) 0 t (i-0))=fun t=>tv ops T (look st.t) (fun _=>True) t i:=by funext t;rw[WaY,zvq]
  rwa[l]at this
 have I:∀j,(Array.replicate ops.size false).getD j false=true->False:=by
  intro j hl;simp only[Wah,Wch]at hl;split at hl<;>simp at hl
 refine yfb (kt:=kt) (ctx:=ctx) (n:=n.n) hD U (fun i j hj aa hi=>zvr hB j hj aa i (by omega)) hf ad ab X (fun fuel listed a' E' hu ai ak hl h1 h2 h3 h4 h5 h6=>?_) ops.size (Array.replicate ops.size false) a _ ?_ (by simp) ?_ (fun j hl=>(I j hl).elim) h.len h.defers af ⟨0,Waf _,?_,fun e he=>by omega,fun e _ _=>?_⟩ (h.tr.trans t0) fun t=>?_
 ·refine z67 (P:=P) (ctx:=ctx) (n:=n) (K:=K) (k0:=kt) hD ab (fun j hj aa i aj=>zvr hB j hj aa i aj) hQ fuel kt listed a' E' ae (Wae _) (WaS U) ai hu (fun i _=>hl i) ?_ e3
  exact⟨h1,h.hm,h2,fun t=>by rw[e5 t,WaY,zvq];exact h6 t,h4.trans e4.symm,h3,h5⟩
 ·simp[unl]
  exact WaF (List.countP_le_length) (by simp)
 ·exact fun j o _ hl=>(I j hl).elim
 ·rw[e1,<-h.H]
 ·cases hx:(Array.replicate ops.size false).getD e false with
  |false=>rfl
  |true=>exact(I e hx).elim
 ·have:tv ops T (look st.t) (fun j=>(Array.replicate ops.size false).getD j false=true) t ops.size=look st.t t:=by
   rw[zo6 (i:=0) (Waf _) (fun j _ _ _ hl=>(I j hl).elim)];rfl
  rw[this];exact(h.tm t).trans t0
theorem ym2 {P:Program} {n:Cf} {id kt:Nat} {ops:Array Oper} {st:St} {Q:Ex->St->Prop} (S Fl FE:List Nat) (hm:P.follows .mixedOrders=true) (U:zwc ops=true) (hf:floB ops=true) (ab:floL ops Fl FE=true) (ad:kt<ops.size) (hB:z2e ops kt=true)
  (hw:awpF P S Fl FE 0 (ops.toList.take kt) st (fun st'=>awpOps P ops (ops.toList.drop kt) st' (Q .normal))):Sem' P n (.region id ops true) st Q:=by
 intro I ctx a E hs
 have aa:∀o∈ops.toList,∀d,o.dst=some d->d<n.n:=by
  intro o ho d U;simp only[okC,Wak]at I
  have:=I o ho
  simpa [U]using this
 exact yjb hm U hf ab ad hB aa hw hs fun st' a' E' hK ae=>⟨.normal,st',E',rfl,rfl,hK,ae⟩
end Go.Lz

end
section
namespace Go.Lz
theorem z9m {P:Program} {f:FuncId} {fn:Func} {c:Code} (hf:P.funcs[f]? =some fn) (hb:fn.body=some c) (hname:(fn.name== "runtime.NumGoroutine")=false) (hok:okC fn.ntmps c=true)
  {args:List V} {H:List O} {K:V->List O->Prop} (h:Sem' P ⟨fn.ntmps,H.length⟩ c ⟨zm7 0 args,H⟩ (endK P fn.results.toList K)):Ct P f args H K:=by
 refine⟨⟨fn,hf,hname,by simp[hb]⟩,fun E vs hE hH hn hv=>?_⟩
 have hs:SR E ⟨fn.ntmps,H.length⟩ ⟨zm7 0 args,H⟩ {tmps:=vs++Array.replicate (fn.ntmps-vs.size) undef,defers:=[]} E:=by
  refine⟨by simp;omega,by rw[hH];exact Wae _,rfl,fun i=>?_,hH,hE,Trans.refl E⟩;simp only[zo3,Waf,if_true,WaY];simp only[List.getD_eq_getElem?_getD]
  cases hx:args[i]? with
  |none=>simp only[Wca];exact .un
  |some x=>
   have hlt:i<vs.size:=by rw[hn];exact(Wag.1 hx).1
   have:=hv i x hx
   simp only[WaI];rw[Wah]at this|-;rw[Wbe hlt];exact this
 refine calls_of_wp hf hb (wp_mono (h hok E _ E hs) ?_);rintro e a' w' ⟨x,st',E',rfl,rfl,hq,hs'⟩
 have fin:resK P fn.results.toList st' K->a'.defers=[]/\∃v,(results fn a'.tmps).run P E'.w=.ok v E'.w/\(∃v' x E'',Ending.returned v=.returned v'/\E''.w=E'.w/\K x E''.H/\VRel E'' x v'/\HRel E''/\Trans E E''):=by
  intro hk;obtain⟨v,y,h1,h2,h3⟩:=z7i hs' hk;exact⟨hs'.defers,v,h1,v,y,E',rfl,rfl,h3,h2,hs'.rel,hs'.tr⟩
 cases x with
 |normal=>exact fin hq
 |exit id=>exact hq.elim
 |ret=>exact fin hq
 |goto l=>exact hq.elim
theorem z87 {P:Program} {f:FuncId} {fn:Func} {c:Code} (hf:P.funcs[f]? =some fn) (hb:fn.body=some c) (hname:(fn.name== "runtime.NumGoroutine")=false) (hok:okC fn.ntmps c=true)
  {args:List V} {x:V} (h:Sem' P ⟨fn.ntmps,0⟩ c ⟨zm7 0 args,[]⟩ (endK P fn.results.toList fun v H=>v.view H=x/\x.lt 0=true)):Pu P f args x:=by
 have:=z9m (H:=[]) hf hb hname hok h
 refine⟨this.1,fun E vs h1 h2 h3 h4=>Calls.mono (this.2 E vs h1 h2 h3 h4) ?_⟩;rintro e w' ⟨v,y,E',rfl,rfl,⟨rfl,hl⟩,hv,hh,tr⟩;refine⟨v,_,E'.shut,rfl,rfl,⟨rfl,rfl⟩,zw4 hh hv hl,zvt hh,?_⟩
 have e0:∀b,¬E.own b:=by rintro b ⟨id,o,ho,_⟩;simp[h2]at ho
 refine⟨tr.fr,tr.size,tr.os,tr.tape,tr.output,fun b hb _=>tr.keep b hb (e0 b),?_,by simp[h2],by simp[Env.shut],by simp[Env.shut]⟩;rintro b hb ⟨id,o,ho,_⟩;simp[Env.shut]at ho
theorem yag {P:Program} {n:Cf} {c:Code} {st:St} {Q Q':Ex->St->Prop} (h:Sem' P n c st Q) (hq:∀e s,Q e s->Q' e s):Sem' P n c st Q':=
 fun hok ctx a E hs=>wp_mono (h hok ctx a E hs) (by rintro e a' w' ⟨x,st',E',h1,h2,h3,h4⟩;exact⟨x,st',E',h1,h2,hq _ _ h3,h4⟩)
theorem z2l {P:Program} {n:Cf} {x y:Code} {st:St} {Q:Ex->St->Prop} (h:Sem' P n x st (zq1 (fun st'=>Sem' P n y st' Q) Q)):Sem' P n (.seq x y) st Q:=by
 intro hok ctx a E hs;simp only[okC,Wan]at hok;refine wp_seq (wp_mono (h hok.1 ctx a E hs) ?_);rintro e a' w' ⟨k,st',E',rfl,rfl,hq,hs'⟩
 cases k with
 |normal=>exact hq hok.2 ctx a' E' hs'
 |exit id=>exact⟨.exit id,st',E',rfl,rfl,hq,hs'⟩
 |ret=>exact⟨.ret,st',E',rfl,rfl,hq,hs'⟩
 |goto l=>exact⟨.goto l,st',E',rfl,rfl,hq,hs'⟩
theorem yqj {P:Program} {n:Cf} {x y z:Code} {st:St} {Q:Ex->St->Prop} (h:awpS P n [.code x,.code y] st (zq1 (fun st'=>Sem' P n z st' Q) Q)):Sem' P n (.seq x (.seq y z)) st Q:=by
 refine z2l (yag (zh0 x st _ h) fun e s hq=>?_)
 cases e with
 |normal=>exact z2l (zh0 y s _ hq)
 |exit id=>exact hq
 |ret=>exact hq
 |goto l=>exact hq
theorem cutF {P:Program} {n:Cf} {id:Nat} {ops:Array Oper} {y:Code} {st:St} {Q:Ex->St->Prop} (kt:Nat) (S Fl FE:List Nat) (hm:P.follows .mixedOrders=true) (hb:(zwc ops&&floB ops&&floL ops Fl FE&&decide (kt<ops.size)&&z2e ops kt)=true)
  (hw:awpS P n [.flo S Fl FE 0 (ops.toList.take kt),.ops ops (ops.toList.drop kt),.code y] st Q):Sem' P n (.seq (.region id ops true) y) st Q:=by
 simp only[Wan,decide_eq_true_eq]at hb;obtain⟨⟨⟨⟨hd,hf⟩,hl⟩,hk⟩,hB⟩:=hb;refine z2l (ym2 (kt:=kt) S Fl FE hm hd hf hl hk hB ?_);refine awpF.mono (fun s hs=>?_) hw;refine awpOps.mono (fun s hs=>?_) hs;exact zh0 y s Q hs
theorem finE {p:Prop} (h:p:=by
 (try simp-implicitDefEqProofs only[go_sem,simprocAttr,F,R])
 (all_goals (repeat (first|(with_reducible intro _)|(with_reducible refine zlr ?_ ?_;exact ss))))
 (all_goals (try (first|(with_reducible refine z2d (by kernel_rfl))|(with_reducible refine zl5 (by kernel_rfl))|omega|(simp[go_sem];omega)|simp[go_sem,F])))
 (all_goals (try contradiction))):p:=h
section
variable {P:Program} {n:Cf} {Fs:List Fr} {Q:Ex->St->Prop}
theorem pT {f:FuncId} {fn:Func} {c:Code} {args:List V} {x:V} (hf:P.funcs[f]? =some fn) (h:Sem' P ⟨fn.ntmps,0⟩ c ⟨zm7 0 args,[]⟩ (endK P fn.results.toList fun v H=>v.view H=x/\x.lt 0=true))
 (hb:fn.body=some c:=by rfl) (hname:(fn.name== "runtime.NumGoroutine")=false:=by kernel_rfl) (hok:okC fn.ntmps c=true:=by kernel_rfl):Pu P f args x:=z87 hf hb hname hok h
theorem iF {f:FuncId} {fn:Func} {c:Code} {args:List V} {H:List O} {d:Option Nat} {S Fl FE:List Nat} {k:Nat} {rest:List Oper} {t:List (Nat×V)} (x:V) (H1:List O) (hf:P.funcs[f]? =some fn)
  (h:awpS P ⟨fn.ntmps,H.length⟩ [.code c] ⟨zm7 0 args,H⟩ (endK P fn.results.toList fun v H'=>v=x/\H'=H1))
  (hk:flA (FE.contains k) S H H1/\awpS P n (.flo S Fl FE (k+1) rest::Fs) (St.put ⟨t,H⟩ d x H1) Q)
  (hb:fn.body=some c:=by rfl) (hname:(fn.name== "runtime.NumGoroutine")=false:=by kernel_rfl) (hok:okC fn.ntmps c=true:=by kernel_rfl):CtF P n f args H d S Fl FE k rest Fs t Q:=
 ⟨x,H1,zvl hf hb hname hok (zx2 h),hk⟩
end
end Go.Lz

end
section
namespace Go.Lz
open Go.Proofs
attribute [-go_sem] zl6 g_b gd_b
set_option maxRecDepth 100000
set_option maxHeartbeats 4000000
noncomputable section
def ze3 (r_:xtt) (aa:Nat):Nat->Option ((Nat)⊕(Int⊕Unit))
 |I=>if(I:Int)<4 then((r_.Memory.Blocks[aa]?).bind fun U=>if(I:Int)=0 then(if U.a0<(-2147483648)then(some (.inr (.inl (0))))else(if 1099511627776<U.a0 then(some (.inr (.inl (0))))else(some (.inl (I+1)))))else(if(I:Int)=1 then(if U.a1<(-2147483648)then(some (.inr (.inl (0))))else(if 1099511627776<U.a1 then(some (.inr (.inl (0))))else(some (.inl (I+1)))))else(if(I:Int)=2 then(if U.a2<(-2147483648)then(some (.inr (.inl (0))))else(if 1099511627776<U.a2 then(some (.inr (.inl (0))))else(some (.inl (I+1)))))else(if(I:Int)=3 then(if U.a3<(-2147483648)then(some (.inr (.inl (0))))else(if 1099511627776<U.a3 then(some (.inr (.inl (0))))else(some (.inl (I+1)))))else none))))else(some (.inr (.inr (()))))
def zil (r_:xtt):Nat->Option ((Nat)⊕(Int⊕Unit))
 |I=>if(I:Int)<(r_.Memory.Blocks.length:Int)then((loop (ze3 r_ I) 0).bind (fun aa=>match aa with|(.inl U)=>some (.inr (.inl (U)))|(.inr ())=>some (.inl (I+1))))else(some (.inr (.inr (()))))
def zim (r_:xtt):Nat->Option ((Nat)⊕(Int⊕Unit))
 |I=>if(I:Int)<(r_.Left.length:Int)then((r_.Left[I]?).bind fun U=>if U<0 then(some (.inr (.inl (0))))else(if 4096<U then(some (.inr (.inl (0))))else((r_.Latches[I]?).bind fun aa=>if aa<0 then(some (.inr (.inl (0))))else(if 3<aa then(some (.inr (.inl (0))))else(some (.inl (I+1)))))))else(some (.inr (.inr (()))))
def ze4 (U:List Int) (ad:xtv):Nat->Option ((Nat)⊕(Int⊕Unit))
 |I=>if(I:Int)<(U.length:Int)then((U[I]?).bind fun aa=>(zbs ad.Type_.Kind aa).bind fun ab=>if ab=true then(some (.inl (I+1)))else(some (.inr (.inl (0)))))else(some (.inr (.inr (()))))
def zin (p:xtm) (r_:xtt):Nat->Option ((Nat)⊕(Int⊕Unit))
 |I=>if(I:Int)<(p.Vars.length:Int)then((r_.Memory.Cells[I]?).bind fun U=>(p.Vars[I]?).bind fun aa=>(ze7 aa.Type_).bind fun ad=>if(U.length:Int)=ad then((loop (ze4 U aa) 0).bind (fun ae=>match ae with|(.inl ab)=>some (.inr (.inl (ab)))|(.inr ())=>some (.inl (I+1))))else(some (.inr (.inl (0)))))else(some (.inr (.inr (()))))
def zhy (p:xtm) (I:xtt):Option Int:=
 (zeg p).bind fun ae=>if ae=0 then(some 0)else((zfx p).bind fun af=>if af=true then(if(I.Memory.Cells.length:Int)=(p.Vars.length:Int)then(if(I.Memory.Blocks.length:Int)=(p.Blocks.length:Int)then(if(I.Left.length:Int)=(p.Lattice.Names.length:Int)then(if(I.Latches.length:Int)=(p.Lattice.Names.length:Int)then(if 100<(I.Events.length:Int)then(some 0)else(if I.Now<0 then(some 0)else(if 1099511627776<I.Now then(some 0)else((loop (zin p I) 0).bind (fun U=>match U with|(.inl aa)=>some aa|(.inr ())=>(loop (zim I) 0).bind (fun U=>match U with|(.inl ab)=>some ab|(.inr ())=>(loop (zil I) 0).bind (fun U=>match U with|(.inl ad)=>some ad|(.inr ())=>some 1)))))))else(some 0))else(some 0))else(some 0))else(some 0))else(some 0))
def zgo (p:xtm) (e:xtn):Option Bool:=
 need (0<=(p.Lattice.Names.length:Int)/\8*(p.Lattice.Names.length:Int)<=140737488355328) ((zeg (⟨p.Lattice,p.Sites,p.Vars,p.Blocks,[(⟨1,0,(List.replicate p.Lattice.Names.length 0),[(⟨2,[],(⟨0,0,0,[],[]⟩:xtn),e,[],[],[]⟩:xtp)]⟩:xt4)]⟩:xtm)).bind fun I=>if I=1 then((zfx (⟨p.Lattice,p.Sites,p.Vars,p.Blocks,[(⟨1,0,(List.replicate p.Lattice.Names.length 0),[(⟨2,[],(⟨0,0,0,[],[]⟩:xtn),e,[],[],[]⟩:xtp)]⟩:xt4)]⟩:xtm)).bind fun U=>some U)else(some false))
def zco (p:xtm):((List Int)×Nat)->Option (((List Int)×Nat)⊕(List Int))
 |(I,U)=>if(U:Int)<(p.Blocks.length:Int)then((p.Blocks[U]?).bind fun aa=>need ((I.length+1)*8<=140737488355328) (some (.inl ((I++[aa.Label]),(U+1)))))else(some (.inr (I)))
def zcp (p:xtm):((List Int)×Nat)->Option (((List Int)×Nat)⊕(List Int))
 |(I,U)=>if(U:Int)<(p.Vars.length:Int)then((p.Vars[U]?).bind fun aa=>need ((I.length+1)*8<=140737488355328) (some (.inl ((I++[aa.Label]),(U+1)))))else(some (.inr (I)))
def zfd (p:xtm):Option (List Int):=
 (loop (zcp p) ([],0)).bind (fun U=>(loop (zco p) (U,0)).bind (fun I=>some I))
end
theorem zuf {p:xtm} {U:xtt} {r:Int} (h:zhy p U=some r):
  Pu prog 7 [.agg (xtr p),.agg (xt9 U)] (.one (.int .i64 r)):=by
 have F:=trivial;have R:=trivial
 refine pA func7 ?_;simp only[f7];unfold zhy at h;refine bi h fun bA h aH=>?_;refine tr ?_;intros;refine cS (zn9 aH) ?_;refine fi h F ?_ ?_<;>intro h _ F;cases h;exact fin;refine bi h fun bB h aI=>?_;refine tr ?_;intros;refine cS (zn6 aI) ?_;refine fv h F ?_ ?_<;>intro h _ F;refine tr ?_;intros;refine fi h F ?_ ?_<;>intro h _ F;refine tr ?_;intros;refine fi h F ?_ ?_<;>intro h _ F;refine tr ?_
 intros;refine fi h F ?_ ?_<;>intro h _ F;refine tr ?_;intros;refine fi h F ?_ ?_<;>intro h _ F;refine tr ?_;intros;refine fi h F ?_ ?_<;>intro h _ F;cases h;exact fin;refine fi h F ?_ ?_<;>intro h _ F;cases h;exact fin;refine tt ?_;refine fi h F ?_ ?_<;>intro h _ F;cases h;exact fin;refine bi h fun aW h aJ=>?_;refine tt ?_
 refine lX aJ (fun|aq,_=>⟨[(2,.one (.ref 0 0 0 0)),(3,.one (.ref 1 0 0 0)),(5,.one (.int .i64 (aq:Int)))],[.cells 0 6 [(eP_ p)],.cells 0 6 [[.sl (U.Memory.Cells.map (eL eI)),.sl (U.Memory.Blocks.map (eA4 eI)),.sl (U.Left.map eI),.sl (U.Latches.map eI),.sl (U.Events.map xtu),.int .i64 U.Now]]]⟩) (fun|(.inl bl),_=>⟨[],[]⟩|(.inr ()),_=>⟨[(3,.one (.ref 1 0 0 0))],[.cells 0 6 [(eP_ p)],.cells 0 6 [[.sl (U.Memory.Cells.map (eL eI)),.sl (U.Memory.Blocks.map (eA4 eI)),.sl (U.Left.map eI),.sl (U.Latches.map eI),.sl (U.Events.map xtu),.int .i64 U.Now]]]⟩) (fun|(.inl _)=>none|(.inr _)=>some 0) ?_ ?_
 intro i5 b5 aG
 rcases aW with ak|⟨⟩
 cases aG;obtain rfl:=Wab aG;obtain⟨⟩:=b5;dsimp only at h|-;refine bi h fun aK h aB=>?_;refine tt ?_
 refine lX aB (fun|ar,_=>⟨[(3,.one (.ref 1 0 0 0)),(8,.one (.int .i64 (ar:Int)))],[.cells 0 6 [(eP_ p)],.cells 0 6 [[.sl (U.Memory.Cells.map (eL eI)),.sl (U.Memory.Blocks.map (eA4 eI)),.sl (U.Left.map eI),.sl (U.Latches.map eI),.sl (U.Events.map xtu),.int .i64 U.Now]]]⟩) (fun|(.inl bm),_=>⟨[],[]⟩|(.inr ()),_=>⟨[(3,.one (.ref 1 0 0 0))],[.cells 0 6 [(eP_ p)],.cells 0 6 [[.sl (U.Memory.Cells.map (eL eI)),.sl (U.Memory.Blocks.map (eA4 eI)),.sl (U.Left.map eI),.sl (U.Latches.map eI),.sl (U.Events.map xtu),.int .i64 U.Now]]]⟩) (fun|(.inl _)=>none|(.inr _)=>some 4) ?_ ?_
 intro i18 aX aw
 rcases aK with ak|⟨⟩
 cases aw;obtain rfl:=Wab aw;obtain⟨⟩:=aX;dsimp only at h|-;refine bi h fun aL h aC=>?_;refine tt ?_
 refine lX aC (fun|an,_=>⟨[(3,.one (.ref 1 0 0 0)),(9,.one (.int .i64 (an:Int)))],[.cells 0 6 [(eP_ p)],.cells 0 6 [[.sl (U.Memory.Cells.map (eL eI)),.sl (U.Memory.Blocks.map (eA4 eI)),.sl (U.Left.map eI),.sl (U.Latches.map eI),.sl (U.Events.map xtu),.int .i64 U.Now]]]⟩) (fun|(.inl bn),_=>⟨[],[]⟩|(.inr ()),_=>⟨[],[.cells 0 6 [(eP_ p)],.cells 0 6 [[.sl (U.Memory.Cells.map (eL eI)),.sl (U.Memory.Blocks.map (eA4 eI)),.sl (U.Left.map eI),.sl (U.Latches.map eI),.sl (U.Events.map xtu),.int .i64 U.Now]]]⟩) (fun|(.inl _)=>none|(.inr _)=>some 6) ?_ ?_
 intro i24 aY ax
 rcases aL with ak|⟨⟩
 cases ax;obtain rfl:=Wab ax;obtain⟨⟩:=aY;dsimp only at h|-;cases h;exact fin;intro aM bC an aZ bD aa ai aN;obtain⟨⟩:=aZ;dsimp only[zil]at aa|-;refine tr ?_;intros;refine fl aa F ?_ ?_<;>intro aa _ F;refine bi aa fun aO aa aD=>?_;refine tt ?_
 refine lX aD (fun|aj,_=>⟨[(3,.one (.ref 1 0 0 0)),(9,.one (.int .i64 (an:Int))),(10,.one (.int .i64 (aj:Int)))],[.cells 0 6 [(eP_ p)],.cells 0 6 [[.sl (U.Memory.Cells.map (eL eI)),.sl (U.Memory.Blocks.map (eA4 eI)),.sl (U.Left.map eI),.sl (U.Latches.map eI),.sl (U.Events.map xtu),.int .i64 U.Now]]]⟩) (fun|(.inl bo),_=>⟨[],[]⟩|(.inr ()),_=>⟨[(3,.one (.ref 1 0 0 0)),(9,.one (.int .i64 (an:Int)))],[.cells 0 6 [(eP_ p)],.cells 0 6 [[.sl (U.Memory.Cells.map (eL eI)),.sl (U.Memory.Blocks.map (eA4 eI)),.sl (U.Left.map eI),.sl (U.Latches.map eI),.sl (U.Events.map xtu),.int .i64 U.Now]]]⟩) (fun|(.inl _)=>none|(.inr _)=>some 8) ?_ ?_
 intro i27 a4 ay
 rcases aO with ak|⟨⟩
 cases ay;obtain rfl:=Wab ay;obtain⟨⟩:=a4;dsimp only at aa|-;cases aa;refine tt ?_;refine wn an F fun F=>?_;exact bk aN ai ();intro aP bE aj a6 bF I ae ao;obtain⟨⟩:=a6;dsimp only[ze3]at I|-;refine fi I F ?_ ?_<;>intro I _ F;refine bx I F fun bp I bf F=>?_;refine tr ?_;intros;refine fe I F ?_ ?_<;>intro I _ F
 have F:=And.intro (show aj=0 by omega) F
 refine tr ?_;intros;refine fi I F ?_ ?_<;>intro I _ F;cases I;obtain rfl:=sr ae
 try dsimp only at aa
 cases aa;obtain rfl:=sr ai
 try dsimp only at h
 cases h;exact fin;refine fi I F ?_ ?_<;>intro I _ F;cases I;obtain rfl:=sr ae
 try dsimp only at aa
 cases aa;obtain rfl:=sr ai
 try dsimp only at h
 cases h;exact fin;cases I;refine tt ?_;refine wn aj F fun F=>?_;exact bk ao ae ();refine tr ?_;intros;refine fe I F ?_ ?_<;>intro I _ F
 have F:=And.intro (show aj=1 by omega) F
 refine tr ?_;intros;refine fi I F ?_ ?_<;>intro I _ F;cases I;obtain rfl:=sr ae
 try dsimp only at aa
 cases aa;obtain rfl:=sr ai
 try dsimp only at h
 cases h;exact fin;refine fi I F ?_ ?_<;>intro I _ F;cases I;obtain rfl:=sr ae
 try dsimp only at aa
 cases aa;obtain rfl:=sr ai
 try dsimp only at h
 cases h;exact fin;cases I;refine tt ?_;refine wn aj F fun F=>?_;exact bk ao ae ();refine tr ?_;intros;refine fe I F ?_ ?_<;>intro I _ F
 have F:=And.intro (show aj=2 by omega) F
 refine tr ?_;intros;refine fi I F ?_ ?_<;>intro I _ F;cases I;obtain rfl:=sr ae
 try dsimp only at aa
 cases aa;obtain rfl:=sr ai
 try dsimp only at h
 cases h;exact fin;refine fi I F ?_ ?_<;>intro I _ F;cases I;obtain rfl:=sr ae
 try dsimp only at aa
 cases aa;obtain rfl:=sr ai
 try dsimp only at h
 cases h;exact fin;cases I;refine tt ?_;refine wn aj F fun F=>?_;exact bk ao ae ();refine tr ?_;intros;refine fe I F ?_ ?_<;>intro I _ F
 have F:=And.intro (show aj=3 by omega) F
 refine tr ?_;intros;refine fi I F ?_ ?_<;>intro I _ F;cases I;obtain rfl:=sr ae
 try dsimp only at aa
 cases aa;obtain rfl:=sr ai
 try dsimp only at h
 cases h;exact fin;refine fi I F ?_ ?_<;>intro I _ F;cases I;obtain rfl:=sr ae
 try dsimp only at aa
 cases aa;obtain rfl:=sr ai
 try dsimp only at h
 cases h;exact fin;cases I;refine tt ?_;refine wn aj F fun F=>?_;exact bk ao ae ();cases I;cases I;refine tt ?_;exact xt ae aP ();cases aa;refine tt ?_;exact xt ai aM ();intro aQ bG ar a7 bH ab al aR;obtain⟨⟩:=a7;dsimp only[zim]at ab|-;refine tr ?_;intros;refine fl ab F ?_ ?_<;>intro ab _ F;refine bx ab F fun bq ab bg F=>?_;refine tr ?_;intros;refine fi ab F ?_ ?_<;>intro ab _ F;cases ab
 obtain rfl:=sr al
 try dsimp only at h
 cases h;exact fin;refine tr ?_;intros;refine fi ab F ?_ ?_<;>intro ab _ F;cases ab;obtain rfl:=sr al
 try dsimp only at h
 cases h;exact fin;refine bx ab F fun br ab bh F=>?_;refine tr ?_;intros;refine fi ab F ?_ ?_<;>intro ab _ F;cases ab;obtain rfl:=sr al
 try dsimp only at h
 cases h;exact fin;refine tr ?_;intros;refine fi ab F ?_ ?_<;>intro ab _ F;cases ab;obtain rfl:=sr al
 try dsimp only at h
 cases h;exact fin;cases ab;refine tt ?_;refine wn ar F fun F=>?_;exact bk aR al ();cases ab;refine tt ?_;exact xt al aQ ();intro a8 m5 aq a5 o5 ad av a9;obtain⟨⟩:=a5;dsimp only[zin]at ad|-;refine tr ?_;intros;refine fl ad F ?_ ?_<;>intro ad _ F;refine bx ad F fun ba ad bs F=>?_;refine bx ad F fun bI ad bt F=>?_;refine bi ad fun bJ ad aS=>?_;refine tr ?_;intros;refine cS (znf aS) ?_
 refine fi ad F ?_ ?_<;>intro ad _ F;refine bi ad fun aT ad aE=>?_;refine tt ?_
 refine lX aE (fun|az,_=>⟨[(2,.one (.ref 0 0 0 0)),(3,.one (.ref 1 0 0 0)),(5,.one (.int .i64 (aq:Int))),(6,.one (.sl (ba.map eI))),(7,.one (.int .i64 (az:Int)))],[.cells 0 6 [(eP_ p)],.cells 0 6 [[.sl (U.Memory.Cells.map (eL eI)),.sl (U.Memory.Blocks.map (eA4 eI)),.sl (U.Left.map eI),.sl (U.Latches.map eI),.sl (U.Events.map xtu),.int .i64 U.Now]]]⟩) (fun|(.inl bu),_=>⟨[],[]⟩|(.inr ()),_=>⟨[(2,.one (.ref 0 0 0 0)),(3,.one (.ref 1 0 0 0)),(5,.one (.int .i64 (aq:Int)))],[.cells 0 6 [(eP_ p)],.cells 0 6 [[.sl (U.Memory.Cells.map (eL eI)),.sl (U.Memory.Blocks.map (eA4 eI)),.sl (U.Left.map eI),.sl (U.Latches.map eI),.sl (U.Events.map xtu),.int .i64 U.Now]]]⟩) (fun|(.inl _)=>none|(.inr _)=>some 2) ?_ ?_
 intro i11 bb aA
 rcases aT with ak|⟨⟩
 cases aA;obtain rfl:=Wab aA;obtain⟨⟩:=bb;dsimp only at ad|-;cases ad;refine tt ?_;refine wn aq F fun F=>?_;exact bk a9 av ();intro aU bK az bc bL af au aV;obtain⟨⟩:=bc;dsimp only[ze4]at af|-;refine tr ?_;intros;refine fl af F ?_ ?_<;>intro af _ F;refine bx af F fun bw af bj F=>?_;refine bi af fun bz af aF=>?_;refine tr ?_;intros;refine cD (zha aF) ?_;refine tr ?_;intros;refine fv af F ?_ ?_<;>intro af _ F
 cases af;refine tt ?_;refine wn az F fun F=>?_;exact bk aV au ();cases af;obtain rfl:=sr au
 try dsimp only at ad
 cases ad;obtain rfl:=sr av
 try dsimp only at h
 cases h;exact fin;cases af;refine tt ?_;exact xt au aU ();cases ad;obtain rfl:=sr av
 try dsimp only at h
 cases h;exact fin;cases ad;refine tt ?_;exact xt av a8 ();cases h;exact fin;cases h;exact fin;cases h;exact fin;cases h;exact fin;cases h;exact fin
theorem zs3 {p:xtm} {e:xtn} {r:Bool} (h:zgo p e=some r):
  Pu prog 8 [.agg (xtr p),.agg (xto e)] (.one (.bool r)):=by
 have F:=trivial;have R:=trivial
 refine pA func8 ?_;simp only[f8];unfold zgo at h;refine nd h F fun h F=>?_
 have R:=And.intro (show List.replicate p.Lattice.Names.length [.int .i64 0]=List.map eI (List.replicate p.Lattice.Names.length 0) by simp[go_sem]) R
 refine bi h fun aa h I=>?_;refine tr ?_;intros;refine cS (zn9 I) ?_;refine fi h F ?_ ?_<;>intro h _ F;refine bi h fun ab h U=>?_;refine tr ?_;intros;refine cS (zn6 U) ?_;cases h;exact fin;cases h;exact fin
theorem zq7 {p:xtm} {r:List Int} (h:zfd p=some r):
  Pu prog 23 [.agg (xtr p)] (.one (.sl (r.map eI))):=by
 have F:=trivial;have R:=trivial
 refine pA func23 ?_;simp only[f23];unfold zfd at h;refine bi h fun ai h ax=>?_;refine tt ?_;refine zw8 3 1 (by simp[go_sem]) ?_
 refine lE (fun(aj:(List Int)×Nat) (ak:Nat)=>match aj,ak with|(al,an),ab=>⟨[(1,.one (.ref 0 0 0 0)),(3,.one (.msl 1 ab 0 al.length)),(4,.one (.int .i64 (an:Int)))],[.cells 0 6 [(eP_ p)],.cells ab 1 (al.map eI)]⟩) (fun(ao:List Int) (aq:Nat)=>match ao,aq with|ai,b6=>⟨[(1,.one (.ref 0 0 0 0)),(3,.one (.msl 1 b6 0 ai.length))],[.cells 0 6 [(eP_ p)],.cells b6 1 (ai.map eI)]⟩) (fun(_:List Int)=>some 0) 0 ax ?_ ?_
 intro i6 b6 aB;obtain rfl:=Wab aB;dsimp only at h|-;refine bi h fun ad h av=>?_;refine tt ?_
 refine lE (fun(aj:(List Int)×Nat) (ak:Nat)=>match aj,ak with|(ae,af),aa=>⟨[(1,.one (.ref 0 0 0 0)),(3,.one (.msl 1 aa 0 ae.length)),(5,.one (.int .i64 (af:Int)))],[.cells 0 6 [(eP_ p)],.cells aa 1 (ae.map eI)]⟩) (fun(ao:List Int) (aq:Nat)=>match ao,aq with|ad,ar=>⟨[(3,.one (.msl 1 ar 0 ad.length))],[.cells 0 6 [(eP_ p)],.cells ar 1 (ad.map eI)]⟩) (fun(_:List Int)=>some 2) b6 av ?_ ?_
 intro i15 ar ay;obtain rfl:=Wab ay;dsimp only at h|-;cases h;exact fin;intro az aI aC aa aJ I au aA;obtain⟨ae,af⟩:=aC;dsimp only[zco]at I|-;refine tr ?_;intros;refine fl I F ?_ ?_<;>intro I _ F;refine bx I F fun aG I aF F=>?_;refine nd I F fun I F=>?_;cases I;refine tr ?_;intros;refine wn af F fun F=>?_;exact bk aA au (aa+1);cases I;refine tt ?_;exact xt au az aa;intro aD m6 s6 ab o6 U aw aE
 obtain⟨al,an⟩:=s6;dsimp only[zcp]at U|-;refine tr ?_;intros;refine fl U F ?_ ?_<;>intro U _ F;refine bx U F fun aK U aH F=>?_;refine nd U F fun U F=>?_;cases U;refine tr ?_;intros;refine wn an F fun F=>?_;exact bk aE aw (ab+1);cases U;refine tt ?_;exact xt aw aD ab
end Go.Lz

end
section
namespace Go.Lz
theorem zvi {n:Nat} {g:Nat->Prop} {c:Int} {f:Nat->Option (Nat⊕(Int⊕Unit))} (step:∀i,i<n->Tot (f i) fun r=>r=.inl (i+1)/\g i\/r=.inr (.inl c)) (last:f n=some (.inr (.inr ()))):
  Tot (loop f 0) fun r=>r=.inl c\/r=.inr ()/\∀i,i<n->g i:=by
 refine Tot.loop (fun i=>i<=n/\∀j,j<i->g j) (fun i=>n-i) ⟨Waf _,fun _ h=>by omega⟩ fun i ⟨hi,hI⟩=>?_
 by_cases h:i<n
 ·obtain⟨r,h1,h2⟩:=step i h
  refine⟨r,h1,?_⟩
  rcases h2 with⟨rfl,h2⟩|rfl
  ·exact⟨⟨h,fun j I=>by by_cases e:j=i;exact e▸h2;exact hI j (by omega)⟩,by simp only;omega⟩
  ·exact .inl rfl
 ·have:i=n:=by omega
  subst this;exact⟨_,last,.inr ⟨rfl,hI⟩⟩
structure FitR (p:xtm) (r:xtt):Prop where
 G:zpt p
 L:Lat p.Lattice
 nc:r.Memory.Cells.length=p.Vars.length
 nb:r.Memory.Blocks.length=p.Blocks.length
 nl:r.Left.length=p.Lattice.Names.length
 nt:r.Latches.length=p.Lattice.Names.length
 ne:r.Events.length<=100
 now:0<=r.Now/\r.Now<=1099511627776
 cells:∀(i:Nat) v c,p.Vars[i]? =some v->r.Memory.Cells[i]? =some c->c.length=zwq v.Type_/\∀x∈c,okV v.Type_.Kind x
 lab:∀v∈p.Vars,inN p.Lattice v.Label
 left:∀(i:Nat) a b,r.Left[i]? =some a->r.Latches[i]? =some b->(0<=a/\a<=4096)/\0<=b/\b<=3
theorem zpy {g:Prop} {i:Nat} {c:Int}:Tot (some (.inr (.inl c)):Option (Nat⊕(Int⊕Unit))) fun r=>r=.inl (i+1)/\g\/r=.inr (.inl c):=Tot.mk (.inr rfl)
theorem go_i {g:Prop} {i:Nat} {c:Int} (h:g):Tot (some (.inl (i+1)):Option (Nat⊕(Int⊕Unit))) fun r=>r=.inl (i+1)/\g\/r=.inr (.inl c):=Tot.mk (.inl ⟨rfl,h⟩)
theorem zyw {c:Int} {a:Prop} {x:Option (Int⊕Unit)} (h:Tot x fun r=>r=.inl c\/r=.inr ()/\a) {k:Int⊕Unit->Option Int} {S:Int->Prop} (k0:Tot (k (.inl c)) S) (I:a->Tot (k (.inr ())) S):Tot (x.bind k) S:=by
 obtain⟨r,rfl,h⟩:=h
 rcases h with rfl|⟨rfl,h⟩
 ·exact k0
 ·exact I h
theorem ym6 (p:xtm) (r:xtt):Tot (zhy p r) fun n=>n=0\/FitR p r/\n=1:=by
 unfold zhy
 rcases ym8 p with e|⟨e,hd⟩
 ·rw[e];exact Tot.mk (.inl rfl)
 rw[e,Waa,if_neg (by decide)]
 have no:Tot (some (0:Int)) fun n=>n=0\/FitR p r/\n=1:=Tot.mk (.inl rfl)
 refine(ymi hd).bind fun b hb=>Tot.ite (fun U=>?_) fun _=>no;obtain⟨G,L,_,_,l,i1,i2,_,_,⟨_,i3⟩,_⟩:=hb U
 have lab:∀v∈p.Vars,inN p.Lattice v.Label:=fun v hv=>by
  obtain⟨i,hi,rfl⟩:=Wbj hv
  have h1:i<l.length:=by omega
  rw[i3 i hi h1];exact ye7 G hd L i1 _ (Wap h1)
 refine Tot.ite (fun nc=>Tot.ite (fun nb=>Tot.ite (fun nl=>Tot.ite (fun nt=>Tot.ite (fun _=>no) fun ne=>Tot.ite (fun _=>no) fun n0=>Tot.ite (fun _=>no) fun n1=>?_) fun _=>no) fun _=>no) fun _=>no) fun _=>no;refine zyw (zvi (n:=p.Vars.length) (g:=fun i=>∀v c,p.Vars[i]? =some v->r.Memory.Cells[i]? =some c->c.length=zwq v.Type_/\∀x∈c,okV v.Type_.Kind x) (fun i hi=>?_) (by simp[zin])) no fun hc=>?_
 ·unfold zin
  have h1:i<r.Memory.Cells.length:=by omega
  rw[if_pos (by omega),Wac h1,Waa,Wac hi,Waa,yar,Waa];refine Tot.ite (fun hs=>?_) fun _=>zpy
  have L2:=zvi (n:=r.Memory.Cells[i].length) (c:=0) (g:=fun k=>∀x,r.Memory.Cells[i][k]? =some x->okV p.Vars[i].Type_.Kind x) (f:=ze4 r.Memory.Cells[i] p.Vars[i]) (fun k hk=>by
   unfold ze4;rw[if_pos (by omega),Wac hk,Waa];obtain⟨b,hb,_⟩:=zya p.Vars[i].Type_.Kind r.Memory.Cells[i][k];rw[hb,Waa];refine Tot.ite (fun U=>go_i fun x hx=>?_) fun _=>zpy;cases hx
   exact z91 (by rw[hb,U])) (by simp[ze4])
  obtain⟨q,e1,I⟩:=L2;rw[e1,Waa]
  rcases I with rfl|⟨rfl,I⟩
  ·exact zpy
  ·refine go_i fun v c hv hc=>?_
   cases hv;cases hc;refine⟨by omega,fun x hx=>?_⟩;obtain⟨k,hk,rfl⟩:=Wbj hx;exact I k hk _ (Wac hk)
 refine zyw (zvi (n:=r.Left.length) (g:=fun i=>∀a b,r.Left[i]? =some a->r.Latches[i]? =some b->(0<=a/\a<=4096)/\0<=b/\b<=3) (fun i hi=>?_) (by simp[zim])) no fun hl=>?_
 ·unfold zim
  have h1:i<r.Latches.length:=by omega
  rw[if_pos (by omega),Wac hi,Waa,Wac h1]
  exact Tot.ite (fun _=>zpy) fun a0=>Tot.ite (fun _=>zpy) fun a1=>Tot.ite (fun _=>zpy) fun b0=>Tot.ite (fun _=>zpy) fun b1=>go_i fun a b ha hb=>by
   cases ha;cases hb;omega
 refine zyw (zvi (n:=r.Memory.Blocks.length) (g:=fun i=>True) (fun i hi=>?_) (by simp[zil])) no fun _=>Tot.mk (.inr ⟨⟨G,L,by omega,by omega,by omega,by omega,by omega,by omega,fun i v c hv aa=>hc i (Wag.1 hv).1 v c hv aa,lab,fun i a b ha hb=>hl i (Wag.1 ha).1 a b ha hb⟩,rfl⟩);unfold zil;rw[if_pos (by omega)]
 have L5:=zvi (n:=4) (c:=0) (g:=fun k=>True) (f:=ze3 r i) (fun k hk=>by
  unfold ze3;rw[if_pos (by omega),Wac hi,Waa]
  exact Tot.ite (fun _=>Tot.ite (fun _=>zpy) fun _=>Tot.ite (fun _=>zpy) fun _=>go_i trivial) fun k0=>Tot.ite (fun _=>Tot.ite (fun _=>zpy) fun _=>Tot.ite (fun _=>zpy) fun _=>go_i trivial) fun k1=>Tot.ite (fun _=>Tot.ite (fun _=>zpy) fun _=>Tot.ite (fun _=>zpy) fun _=>go_i trivial) fun k2=>Tot.ite (fun _=>Tot.ite (fun _=>zpy) fun _=>Tot.ite (fun _=>zpy) fun _=>go_i trivial) fun k3=>by omega) (by simp[ze3])
 obtain⟨q,e1,I⟩:=L5;rw[e1,Waa]
 rcases I with rfl|⟨rfl,I⟩
 ·exact zpy
 ·exact go_i trivial
theorem z6m {p:xtm} (G:zpt p) (h:zbg p=some 0):∀t∈p.Tasks,zdc p t.Body=some true:=by
 have P:=G.P
 have key:Tot (zbg p) fun r=>r=6\/∀t∈p.Tasks,zdc p t.Body=some true:=by
  unfold zbg
  have I:Tot (some (6:Int)) fun r=>r=6\/∀t∈p.Tasks,zdc p t.Body=some true:=Tot.mk (.inl rfl)
  refine zyw (zvi (n:=p.Vars.length) (g:=fun i=>True) (fun i hi=>?_) (by simp[zd9])) I fun _=>?_
  ·unfold zd9
   rw[if_pos (by omega),Wac hi,Waa];exact(z92 _).bind fun _ _=>Tot.ite (fun _=>Tot.ite (fun _=>(zya _ _).bind fun _ _=>Tot.ite (fun _=>go_i trivial) fun _=>zpy) fun _=>Tot.ite (fun _=>(zya _ _).bind fun _ _=>Tot.ite (fun _=>go_i trivial) fun _=>zpy) fun _=>zpy) fun _=>zpy
  refine zyw (zvi (n:=p.Blocks.length) (g:=fun i=>True) (fun i hi=>?_) (by simp[zd8])) I fun _=>?_
  ·unfold zd8
   rw[if_pos (by omega),Wac hi,Waa];exact(yi2 _).bind fun _ _=>Tot.ite (fun _=>zpy) fun _=>go_i trivial
  refine zyw (zvi (n:=p.Tasks.length) (g:=fun i=>∀t,p.Tasks[i]? =some t->zdc p t.Body=some true) (fun i hi=>?_) (by simp[zd7])) I fun ht=>Tot.mk (.inr fun t aa=>?_)
  ·unfold zd7
   rw[if_pos (by omega),Wac hi,Waa]
   have hm:=Wap hi
   obtain⟨b,hb,_⟩:=z2h P 1000000 p.Tasks[i].Body (G.T _ hm).ok (G.d _ hm) (by have:=G.d _ hm;omega)
   have U:zdc p p.Tasks[i].Body=some b:=hb
   rw[U,Waa];refine Tot.ite (fun h=>go_i fun t ht=>?_) fun _=>zpy;cases ht;rw[U,h]
  ·obtain⟨i,hi,rfl⟩:=Wbj aa
   exact ht i hi _ (Wac hi)
 obtain⟨r,h1,h2⟩:=key;rw[h]at h1;cases h1
 rcases h2 with h2|h2
 ·omega
 ·exact h2
abbrev zy0 (p:xtm) (e:xtn):xtm:=⟨p.Lattice,p.Sites,p.Vars,p.Blocks,[(⟨1,0,(List.replicate p.Lattice.Names.length 0),[(⟨2,[],(⟨0,0,0,[],[]⟩:xtn),e,[],[],[]⟩:xtp)]⟩:xt4)]⟩
theorem z1s {p:xtm} {e:xtn}:∀(n:Nat) (x:xtn),zao n (zy0 p e) x=zao n p x
 |0,x=>rfl
 |n+1,x=>by
  show zat (zao n) (zy0 p e) x=zat (zao n) p x
  unfold zat;simp only[zpc,zmo,zr1,z1s n];rfl
theorem yhi {p:xtm} (h:p.Lattice.Names.length<=1000) (e:xtn):Tot (zgo p e) fun b=>b=true->GoodE e/\zf5 p e=1:=by
 unfold zgo;rw[zc9 (by omega)]
 have no:Tot (some false) fun b=>b=true->GoodE e/\zf5 p e=1:=Tot.mk fun h=>by cases h
 rcases ym8 (zy0 p e)with q|⟨q,hd⟩
 ·rw[q];exact no
 rw[q,Waa,if_pos rfl];refine(ymi hd).bind fun b hb=>Tot.mk fun U=>?_;obtain⟨G,_,_,hc,_⟩:=hb U
 have ht:(⟨1,0,(List.replicate p.Lattice.Names.length 0),[(⟨2,[],(⟨0,0,0,[],[]⟩:xtn),e,[],[],[]⟩:xtp)]⟩:xt4)∈(zy0 p e).Tasks:=by simp
 have F:=zzx (zxo (G.T _ ht).ok (⟨2,[],(⟨0,0,0,[],[]⟩:xtn),e,[],[],[]⟩:xtp) (by simp))
 have K:=F.kinds
 have g:GoodE e:=by
  rcases K with h|h|h|h
  ·exact absurd h.1 (by simp)
  ·exact h.2.2.2
  ·exact absurd h.1 (by simp)
  ·exact absurd h.1 (by simp)
 refine⟨g,?_⟩
 have hs:=z6m G hc _ ht
 have hk:zaj (zy0 p e) e=some (zf5 p e):=by
  have e1:zaj (zy0 p e) e=zaj p e:=z1s 1000000 e
  have e2:zf5 (zy0 p e) e=zf5 p e:=by unfold zf5;rw[e1]
  have e3:=(zpj G.P g).1
  rw[e2]at e3;exact e3
 have I:zcj (zdj 999999) (zy0 p e) [(⟨2,[],(⟨0,0,0,[],[]⟩:xtn),e,[],[],[]⟩:xtp)]=some true:=hs
 unfold zcj at I
 by_cases k1:zf5 p e=1
 ·exact k1
 ·exfalso
  rw[zcs (r:=.inl false) (by
   simp only[zgt];rw[if_pos (by simp),Wat,Waa];unfold zfy;rw[if_neg (by simp),if_pos (by simp),hk]
   simp[k1])]at I
  cases I
end Go.Lz

end
section
namespace Go.Lz
open Go.Proofs Go.RowKit
attribute [-go_sem] zl6 g_b gd_b
set_option maxRecDepth 100000
set_option maxHeartbeats 1000000
theorem yi6 {p:xtm} {e:xtn} {b:Bool} (I:Pu prog 194 [.agg (xtr p),.agg (xto e),.un] (.one (.bool b))):Pu prog 193 [.un,.one (.iptr (xtr p) 0),.one (.iptr (xto e) 0)] (.tup []):=by
 have F:=trivial;have R:=trivial
 refine pA func193 ?_;simp only[f193];refine tt ?_;refine cS I ?_;exact fin
theorem ybx {p:xtm} {labels:List Int} {e:xtn} {lr:List Int} {r:Int} (ak:Pu prog 175 [.agg (xtr p),.one (.sl (labels.map eI))] (.one (.sl (lr.map eI))))
  (ab:Pu prog 194 [.agg (xtr p),.agg (xto e),.un] (.one (.bool true))) (al:Pu prog 177 [.agg (xt5 p.Lattice),.one (.sl [])] (.one (.int .i64 r))):
  Pu prog 149 [.agg (xtr p),.one (.sl (labels.map eI)),.agg (xto e)] (.one (.int .i64 r)):=by
 have F:=trivial;have R:=trivial
 refine zy9 (.inl ⟨_,_,rfl⟩) (z8i 4 func149 fun E a hH hs=>?_);simp only[f149]
 have hs:SR E ⟨39,0⟩ ⟨zm7 0 [.agg (xtr p),.one (.sl (labels.map eI)),.agg (xto e)],[]⟩ a E:=hs
 refine znu hs (st':= ?s1) ?h1 ?r1
 case h1=>
  intro K k;refine tt ?_;exact k
 case r1=>
 intro a1 E1 ao;refine znu ao (st':= ?s2) ?h2 ?r2
 case h2=>
  intro K k;refine tt ?_;exact k
 case r2=>
 intro a2 E2 aq;refine znu aq (st':= ?s3) ?h3 ?r3
 case h3=>
  intro K k;refine tt ?_;refine cS ak ?_;refine tt ?_;exact k
 case r3=>
 intro a3 E3 ar;refine znu ar (st':= ?s4) ?h4 ?r4
 case h4=>
  intro K k;refine tt ?_;exact k
 case r4=>
 intro a4 E4 au;refine wp_seq ?_;refine znu au (st':= ?s5) ?h5 ?r5
 case h5=>
  intro K k;refine tt ?_;refine iS func176 ?_;simp only[f176];refine tt ?_;exact k
 case r5=>
 intro a5 U I;refine wp_block ((wpIn_wide (n:=4)).1 ?_);obtain⟨vs,an,av,ae⟩:=z4z (I.ρ (.tmp 18));obtain⟨v6,af⟩:∃v,v=vs.getD 0 undef:=⟨_,rfl⟩;obtain⟨v7,ai⟩:∃v,v=vs.getD 1 undef:=⟨_,rfl⟩
 have c6:=z19 I.rel (ae 0 _ rfl)
 have c7:=z19 I.rel (ae 1 _ rfl)
 rw[I.H,<-af]at c6;rw[I.H,<-ai]at c7;simp-implicitDefEqProofs only[go_sem,Nat.reduceAdd,Nat.reduceMul,Nat.reduceLeDiff,Nat.reduceEqDiff,Nat.reduceLT,Int.reduceLE,Int.reduceLT,Int.reduceNeg,Int.reduceEq,Int.reduceAdd,Int.reduceSub,Int.reduceToNat,reduceCtorEq,↓reduceIte]at c6 c7
 refine wpIn_rangeFunc_ownF (α:=Empty) rfl (by omega) an trivial (zy7 ⟨f193,func193,by kernel_rfl,by kernel_rfl⟩) (encs:=fun x=>x.elim) (Kp:=fun _ _=>True) (S:=fun _=>True) (Sp:=fun _=>False) (N:=0) (w0:=U.w) ?_ (fun _ _=>trivial) (fun _ _ _ _ _ _ _ _=>trivial) (Below.refl _ _) (fun x=>x.elim)
  (fun _ W=>Below U.w.heap.size U.w W) (fun _ _ _=>False) (ownFrom_below (Wae _) (Wae _)) (fun _ _ _ _ _ h=>h.elim) (Below.refl _ _) (fun x=>x.elim) (fun _ x=>x.elim) (fun _ _ x=>x.elim) ?_ (fun _ _ _ _ _ h=>h.elim)
 ·intro l J Jx W hb hJ aD aw ax
  refine callsIn_wide.2 ?_;obtain⟨t,hh⟩:=zi9 (zvt I.rel) W hb.size hb.os hb.tape hb.output (fun b h=>hb.block b h)
  have ad:∀(j:Nat) (x:V),[V.un,V.one (.iptr (xtr p) 0),V.one (.iptr (xto e) 0)][j]? =some x->VRel ({U.shut with w:=W}:Env) x ((#[Value.func (.yield l) #[] #[]]++vs).getD j undef):=by
   intro j x hx
   match j with
   |0=>simp at hx;subst hx;exact .un
   |1=>simp at hx;subst hx;exact .one (by rw[xuc,show(#[Value.func (.yield l) #[] #[]]++vs).getD 1 undef=v6 by rw[af];simp[Wb1]];exact c6.trans t)
   |2=>simp at hx;subst hx;exact .one (by rw[xui,show(#[Value.func (.yield l) #[] #[]]++vs).getD 2 undef=v7 by rw[ai];simp[Wb1]];exact c7.trans t)
   |j+3=>simp at hx
  have hc:=(yi6 ab).2 ({U.shut with w:=W}:Env) (#[Value.func (.yield l) #[] #[]]++vs) hh rfl (by simp[av]) ad
  refine Calls.mono hc ?_;rintro e' w' ⟨v,x,E',rfl,rfl,_,hv,aE,ay⟩;exact⟨⟨v,rfl⟩,.inl ⟨[],trivial,hJ _ W _ none ax (z21 ay rfl) (fun r e=>by cases e)⟩⟩
 ·intro D xs W hle _ hI hD
  have az:({a5 with defers:={target:=Target.collected D,args:= #[]}::a5.defers}:Act)=addD [{target:=Target.collected D,args:= #[]}] a5:=by simp[addD,I.defers]
  rw[az]
  show Code.wp prog _ _ (addD [{target:=.collected D,args:= #[]}] a5) W
  obtain⟨t6,aj⟩:=zi9 I.rel W hI.size hI.os hI.tape hI.output (fun b h=>hI.block b h)
  have aA:SR ⟨W,U.Fr,U.bd,U.H⟩ ⟨39,8⟩ _ a5 ⟨W,U.Fr,U.bd,U.H⟩:=⟨I.len,by rw[I.H];exact Wae _,I.defers,fun i=>(I.tm i).trans t6,I.H,aj,Trans.refl _⟩
  refine wp_seq (wp_region (zuh (Q:=fun e a' w'=>e=.normal/\∃E',E'.w=w'/\SR ⟨W,U.Fr,U.bd,U.H⟩ ⟨39,8⟩ ?s7 a' E') ?hq _ a5 W (yao (id:=9) aA (st':= ?s7) ?h7 ?hQ)))
  case h7=>
   intro K k;refine tt ?_;refine cS al ?_;refine tt ?_;exact k
  case hQ=>exact fun a' E' h=>⟨rfl,E',rfl,h⟩
  case hq=>
   rintro e' a' w' ⟨rfl,E7,rfl,aa⟩;refine wp_ret ?_
   have aB:E7.w.heap[D]? =some (.deferred (some [])):=by
    rw[aa.tr.keep D (Was.1 hD).1 (zoh aj hD)];exact hD
   have aC:SR E ⟨39,0⟩ _ a' E7:=⟨aa.len,by rw[hH];exact Wae _,aa.defers,aa.tm,aa.H,aa.rel,(I.tr.trans t6).trans aa.tr⟩
   have h9:=zyi (P:=prog) (n:=4) (fn:=f149) (K:=fun v _=>v=.one (.int .i64 r)) aC aB (WaF I.tr.size hle) (by simp[go_sem,Nat.reduceAdd,Nat.reduceMul,Nat.reduceLeDiff,Nat.reduceEqDiff,Nat.reduceLT,Int.reduceLE,Int.reduceLT,Int.reduceNeg,Int.reduceEq,Int.reduceAdd,Int.reduceSub,Int.reduceToNat,reduceCtorEq,↓reduceIte,resK,zks,f149])
   show LeavesInM _ _ _ _ a'.tmps _ (a'.defers++_) _ _
   rw[aa.defers];exact h9
end Go.Lz

end
section
namespace Go.Lz
theorem ycw {P:Program} {f:FuncId} {fn:Func} {c:Code} (hf:P.funcs[f]? =some fn) (hb:fn.body=some c) (aa:(fn.name== "runtime.NumGoroutine")=false) (ad:okC fn.ntmps c=true)
  {args:List V} {H:List O} {K:V->List O->Prop} (h:∀(E:Env) (a:Act),E.H=H->(∀(j:Nat) (x:V),args[j]? =some x->VRel E x (a.tmps.getD j undef))->SR E ⟨fn.ntmps,H.length⟩ ⟨zm7 0 args,H⟩ a E->c.wp P (z06 P ⟨fn.ntmps,H.length⟩ (endK P fn.results.toList K) E) a E.w):Ct P f args H K:=by
 refine⟨⟨fn,hf,aa,by simp[hb]⟩,fun E vs hE hH hn hv=>?_⟩
 have hs:SR E ⟨fn.ntmps,H.length⟩ ⟨zm7 0 args,H⟩ {tmps:=vs++Array.replicate (fn.ntmps-vs.size) undef,defers:=[]} E:=by
  refine⟨by simp;omega,by rw[hH];exact Wae _,rfl,fun i=>?_,hH,hE,Trans.refl E⟩;simp only[zo3,Waf,if_true,WaY];simp only[List.getD_eq_getElem?_getD]
  cases hx:args[i]? with
  |none=>simp only[Wca];exact .un
  |some x=>
   have ab:i<vs.size:=by rw[hn];exact(Wag.1 hx).1
   have:=hv i x hx
   simp only[WaI];rw[Wah]at this|-;rw[Wbe ab];exact this
 refine calls_of_wp hf hb (wp_mono (h E _ hH (fun j x hx=>by
  have:=hs.tm j
  rw[zo3]at this
  simpa [List.getD_eq_getElem?_getD,hx]using this) hs) ?_)
 rintro e a' w' ⟨x,st',E',rfl,rfl,hq,U⟩
 have fin:resK P fn.results.toList st' K->a'.defers=[]/\∃v,(results fn a'.tmps).run P E'.w=.ok v E'.w/\(∃v' x I,Ending.returned v=.returned v'/\I.w=E'.w/\K x I.H/\VRel I x v'/\HRel I/\Trans E I):=by
  intro hk;obtain⟨v,y,h1,h2,h3⟩:=z7i U hk;exact⟨U.defers,v,h1,v,y,E',rfl,rfl,h3,h2,U.rel,U.tr⟩
 cases x with
 |normal=>exact fin hq
 |exit id=>exact hq.elim
 |ret=>exact fin hq
 |goto l=>exact hq.elim
theorem yi7 {P:Program} {E:Env} (hE:HRel E) {t e s b:Nat} (ht:tSl P t=some (e,s,b)):Good P E (Instr.buildSlice t 0 #[]) ⟨True,True,.one (.slf []),E.H⟩:=by
 intro _;obtain⟨ie,hu,U,hs,hb⟩:=zi1 ht
 have I:(Instr.buildSlice t 0 #[]).run P E.w=.ok (.slice (some ⟨E.w.heap.size,0,none⟩) 0 0) (E.w.alloc (.cells ((Array.range 0).map fun _=>(default:Value)) e)):=by
  simp[Instr.buildSlice,run_underlying hu,sizeOf,typeInfo,U,newRow,Instr.fill]
 obtain⟨tr,hh⟩:=zi9 hE (E.w.alloc (.cells ((Array.range 0).map fun _=>(default:Value)) e)) (by simp) rfl rfl rfl (fun b hb=>by first|exact heap_alloc_old E.w _ b hb|exact heap_alloc_old E.w _ hb)
 exact⟨trivial,_,⟨E.w.alloc (.cells ((Array.range 0).map fun _=>(default:Value)) e),E.Fr,E.bd,E.H⟩,I,rfl,.one (.slf (.sl (fun _ _=>undef) 0 rfl (Waf _) (Waf _) (by simp) (fun h=>(h rfl).elim) (by simp[at2])) ⟨_,rfl⟩),hh,tr⟩
theorem yhz {P:Program} {t e s b:Nat} (ht:tSl P t=some (e,s,b)) {I:Option Addr} {n cap:Nat} (w:World):(binOp .eql t (.slice I n cap) (.slice none 0 0)).run P w=.ok (.bool I.isNone) w:=by
 obtain⟨ie,hu,U,hs,hb⟩:=zi1 ht
 rw[show binOp .eql t (.slice I n cap) (.slice none 0 0)=(do pure (.bool (<-Op.equal t (.slice I n cap) (.slice none 0 0))))from rfl,Op.equal,Op.maxDepth]
 rw[show(10000:Nat)=9999+1 from rfl,Op.equalIn];cases I<;>simp[run_underlying hu]
theorem yf0 {E:Env} {rows:List (List C)} {v:Value} (h:VRel E (.one (.sl rows)) v):∃I n cap,v=.slice I n cap/\(I=none->rows=[]):=by
 cases (one_inv h)with
 |sl vals sz hn hcap hlim hsz hb hv=>
  refine⟨_,_,_,rfl,fun h=>?_⟩;subst h
  by_cases e:rows=[]
  ·exact e
  ·obtain⟨_,_,h1,_⟩:=hb e;cases h1
def ycz (t:TypeId):Code:=.region 0 #[{dst:=some 2,op:=.assign (.const (.slice none 0 0)),type:=t,pos:= "slices.go:355",after:= #[],guard:=none}] false
def ztb (t:TypeId):Oper:={dst:=some 3,op:=.move (.tmp 0),type:=t,pos:= "slices.go:357",after:= #[],guard:=none}
def zqz (t b:TypeId):Oper:={dst:=some 4,op:=.binOp .eql t (.tmp 3) (.const (.slice none 0 0)) t,type:=b,pos:= "slices.go:357",after:= #[{on:=0,ground:=.data}],guard:=none}
def yj9 (t b:TypeId):Code:=.region 1 #[ztb t,zqz t b] false
def z6l (t:TypeId):Code:=.region 2 #[{dst:=some 2,op:=.assign (.const (.slice none 0 0)),type:=t,pos:= "slices.go:358",after:= #[],guard:=none}] false
def zvm (t:TypeId):Oper:={dst:=some 5,op:=.buildSlice t 0 #[],type:=t,pos:= "slices.go:362",after:= #[],guard:=none}
def zx0 (t:TypeId):Array Oper:= #[zvm t,
 {dst:=some 6,op:=.move (.tmp 0),type:=t,pos:= "slices.go:362",after:= #[],guard:=none},
 {dst:=some 7,op:=.call {callee:=.builtin .append,args:= #[.tmp 5,.tmp 6],argTypes:= #[t,t]},type:=t,pos:= "slices.go:362",after:= #[{on:=0,ground:=.data},{on:=1,ground:=.data}],guard:=none},
 {dst:=some 2,op:=.assign (.tmp 7),type:=t,pos:= "slices.go:362",after:= #[{on:=2,ground:=.data},{on:=2,ground:=.chain},{on:=0,ground:=.phase},{on:=1,ground:=.phase},{on:=2,ground:=.phase}],guard:=none}]
def ycy (t:TypeId):Code:=.region 3 (zx0 t) false
def ygp (t b:TypeId):Code:=(ycz t).seq (((yj9 t b).seq (.cond (.tmp 4) ((z6l t).seq .ret) .skip)).seq ((ycy t).seq .ret))
theorem zx6 {P:Program} {ops:Array Oper} {Q:Exit->Act->World->Prop} {i:Nat} {l:List Nat} {a:Act} {w:World} {o:Oper} (I:ops[i]? =some o) (U:o.guard=none) (h:o.wp P a w (wpOps P ops Q l) Q):wpOps P ops Q (i::l) a w:=by
 simp only[wpOps,I,Region.wanted,U,if_true];exact .inl h
theorem zwn {P:Program} {o:Oper} {a:Act} {w w':World} {v:Value} {next:Act->World->Prop} {Q:Exit->Act->World->Prop} (h:(execOp a.eval o).run P w=.ok (.value v) w') (hn:next (a.put o.dst v) w'):o.wp P a w next Q:=by
 unfold Oper.wp;rw[h];exact hn
def ztl (H:List O) (rows:List (List C)):V:=.one (.msl H.length 0 0 rows.length)
def ztm (H:List O) (s:Nat) (rows:List (List C)):List O:=H++[.cells 0 s rows]
theorem yfo {P:Program} {f:FuncId} {fn:Func} {t b e s by_:Nat} {z:V} {zs:List C} {rows:List (List C)} {H:List O} (hf:P.funcs[f]? =some fn) (hb:fn.body=some (ygp t b)) (aj:(fn.name== "runtime.NumGoroutine")=false) (ak:fn.ntmps=8) (au:fn.results= #[.tmp 2])
  (ht:tSl P t=some (e,s,by_)) (hz:tZ P e=some z) (al:z.cs=some zs) (hl:zs.length=s) (an:0<s) (hr:∀r∈rows,r.length=s) (hlim:rows.length*by_<=140737488355328) (ae:rows.length<=lim):
  Ct P f [.one (.sl rows)] H fun v H'=>v=ztl H rows/\H'=ztm H s rows:=by
 refine ycw hf hb aj (by rw[ak];rfl) fun E a aG av hs=>?_;rw[ak,au]at*
 have ax:=av 0 _ rfl
 obtain⟨U,n,cap,e0,ai⟩:=yf0 ax
 have fin:∀(st:St) (a':Act) (E':Env),SR E ⟨8,H.length⟩ st a' E'->(st.H=H/\rows=[]/\look st.t 2=.one (.slf [])\/st.H=ztm H s rows/\look st.t 2=ztl H rows)->
   z06 P ⟨8,H.length⟩ (endK P #[ResultVar.tmp 2].toList fun v H'=>v=ztl H rows/\H'=ztm H s rows) E .ret a' E'.w:=by
  rintro st a' E' af (⟨h1,h2,h3⟩|⟨h1,h2⟩)
  ·obtain⟨E2,hw,aa⟩:=SR.seed (n:=⟨8,H.length⟩) af 2 s h3
   refine⟨.ret,_,E2,rfl,hw,?_,aa⟩;subst h2;simp[endK,resK,zks,look,ztl,ztm,h1]
  ·refine⟨.ret,st,E',rfl,rfl,?_,af⟩
   simp[endK,resK,zks,h1,h2]
 refine wp_seq (wp_mono (zh0 (ycz t) _ (fun e st'=>e=.normal/\st'=⟨(2,.one (.slf []))::zm7 0 [.one (.sl rows)],H⟩) ⟨trivial,fun _=>⟨rfl,rfl⟩⟩ rfl E a E hs) ?_);rintro _ a1 _ ⟨_,_,E1,rfl,rfl,⟨rfl,rfl⟩,I⟩;refine wp_seq (wp_seq ?_)
 have ay:VRel E1 (.one (.sl rows)) (a1.tmps.getD 0 undef):=I.tm 0
 refine wp_region ?_
 show wpOps P #[ztb t,zqz t b] _ [0,1] a1 E1.w
 have aa:=I.put (o:=ztb t) (by simp[ztb]) (x:=.one (.sl rows)) (v:=a1.tmps.getD 0 undef) ay I.H I.rel (Trans.refl E1)
 refine zx6 (o:=ztb t) rfl rfl (zwn (v:=a1.tmps.getD 0 undef) (w':=E1.w) (by simp[ztb,execOp,Act.eval,Wah]) ?_)
 generalize a1.put (ztb t).dst (a1.tmps.getD 0 undef)=a2 at aa|-
 obtain⟨U,n,cap,e2,ai⟩:=yf0 (show VRel E1 (.one (.sl rows)) (a2.eval (.tmp 3))from aa.ρ (.tmp 3));refine zx6 (o:=zqz t b) rfl rfl (zwn (v:=.bool U.isNone) (w':=E1.w) ?_ ?_)
 ·have h6:(execOp a2.eval (zqz t b))=(do pure (.value (<-binOp .eql t (.slice U n cap) (.slice none 0 0)))):=by
   simp[zqz,execOp,e2,eqGuard];rfl
  rw[h6];simp[yhz ht]
 have ab:=aa.put (o:=zqz t b) (by simp[zqz]) (x:=.one (.bool U.isNone)) (v:=.bool U.isNone) (.one .bool) I.H I.rel (Trans.refl E1)
 generalize a2.put (zqz t b).dst (.bool U.isNone)=a3 at ab|-
 show(Code.cond (.tmp 4) ((z6l t).seq .ret) .skip).wp P _ a3 E1.w
 have hc:a3.eval (.tmp 4)=.bool U.isNone:=by
  have:=ab.ρ (.tmp 4)
  exact bool_inv (one_inv this)
 refine wp_cond hc ?_
 cases az:U with
 |none=>
  simp only[Option.isNone_none,if_true];refine wp_seq (wp_mono (zh0 (z6l t) _ (fun e st'=>e=.normal/\st'.H=H/\look st'.t 2=.one (.slf [])) ⟨trivial,fun _=>⟨rfl,rfl,rfl⟩⟩ rfl E a3 E1 ab) ?_);rintro _ a4 _ ⟨_,_,E4,rfl,rfl,⟨rfl,h1,h2⟩,aA⟩;exact wp_ret (fin _ _ _ aA (.inl ⟨h1,ai az,h2⟩))
 |some aH=>
  simp only[Option.isNone_some,WaD,if_false];refine wp_skip ?_
  show((ycy t).seq .ret).wp P _ a3 E1.w
  refine wp_seq (wp_region ?_);obtain⟨_,v5,E5,aw,aB,aC,aD,aE⟩:=yi7 (P:=P) ab.rel ht trivial
  show wpOps P (zx0 t) _ [0,1,2,3] a3 E1.w
  refine zx6 (o:=zvm t) rfl rfl (zwn (v:=v5) (w':=E5.w) (by simp[zvm,execOp,aw]) ?_)
  have aF:=ab.put (o:=zvm t) (by simp[zvm]) aC aB aD aE
  refine zx3 (K:=fun st'=>st'.H=H/\rows=[]/\look st'.t 2=.one (.slf [])\/st'.H=ztm H s rows/\look st'.t 2=ztl H rows) _ (fun st' a' E' hK af=>wp_ret (fin _ _ _ af hK)) (by simp[zx0,zvm]) [1,2,3] ((zx0 t).toList.drop 1) rfl (fun k i hk=>by
   match k with
   |0=>simp at hk;subst hk;rfl
   |1=>simp at hk;subst hk;rfl
   |2=>simp at hk;subst hk;rfl
   |k+3=>simp at hk) _ _ E5 aF ?_
  have ao:E1.H=H:=I.H
  have e3:∀x y:V,(zx0 t).toList.drop 1=[{dst:=some 6,op:=.move (.tmp 0),type:=t,pos:= "slices.go:362",after:= #[],guard:=none},
   {dst:=some 7,op:=.call {callee:=.builtin .append,args:= #[.tmp 5,.tmp 6],argTypes:= #[t,t]},type:=t,pos:= "slices.go:362",after:= #[{on:=0,ground:=.data},{on:=1,ground:=.data}],guard:=none},
   {dst:=some 2,op:=.assign (.tmp 7),type:=t,pos:= "slices.go:362",after:= #[{on:=2,ground:=.data},{on:=2,ground:=.chain},{on:=0,ground:=.phase},{on:=1,ground:=.phase},{on:=2,ground:=.phase}],guard:=none}]:=fun _ _=>rfl
  rw[e3 .un .un]
  have aq:z6a "slices.go:362" =false:=by decide
  cases rows with
  |nil=>simp[awpOps,guarded2,awpOp,yc8,zdu,biZ,biF,aq,ztg,ht,hz,al,hl,an,zm8,St.ρ,St.put,look,zvm,zqz,ztb,zm7,R.ok,ao]
  |cons r rs=>
   have ar:r.length=s/\∀x∈rs,x.length=s:=by simpa using hr
   simp at hlim ae;simp[awpOps,guarded2,awpOp,yc8,zdu,biZ,biF,aq,ztg,ht,hz,al,hl,an,zm8,St.ρ,St.put,look,zvm,zqz,ztb,zm7,R.ok,ztl,ztm,hlim,ae,ar.1,ao];exact ar.2
end Go.Lz

end
section
namespace Go.Lz
instance dMk {p f:Prop} {v:V} {h:List O} [d:Decidable p]:Decidable (R.mk p f v h).pre:=d
instance dOk {v:V} {h:List O}:Decidable (R.ok v h).pre:=.isTrue trivial
instance dBad:Decidable R.bad.pre:=.isFalse id
def rowB (H:List O):C->Bool
 |.iptr _ _=>true
 |.ref id ver r _=>match H[id]? with
  |some (.cells cur _ rows)=>decide (ver=cur/\r<rows.length)
  |_=>false
 |_=>false
theorem z7f {H:List O} {c:C} {row:List C} {off:Nat} {p:Prop} (h:zv5 H c=some (row,off,p)):rowB H c=true↔p:=by
 cases c<;>simp only[zv5,reduceCtorEq]at h
 case iptr=>simp only[WaP,WbS]at h;obtain⟨_,_,rfl⟩:=h;simp[rowB]
 case ref=>
  split at h
  ·rename_i ho;simp only[WaP,WbS]at h;obtain⟨_,_,rfl⟩:=h;simp[rowB,ho]
  ·cases h
def yh1 (H:List O):C->Bool
 |.msl id ver _ _=>match H[id]? with
  |some (.cells cur _ _)=>decide (ver=cur)
  |_=>false
 |_=>true
theorem yak {H:List O} {c:C} {rows:List (List C)} {p:Prop} (h:zm8 H c=some (rows,p)):yh1 H c=true↔p:=by
 cases c<;>simp only[zm8,reduceCtorEq]at h
 case msl=>
  split at h
  ·rename_i ho;simp only[WaP,WbS]at h;obtain⟨_,rfl⟩:=h;simp[yh1,ho]
  ·cases h
 all_goals (simp only[WaP,WbS]at h;obtain⟨_,rfl⟩:=h;simp[yh1])
def dRow {H:List O} {c:C} {row:List C} {off:Nat} {p:Prop} (h:zv5 H c=some (row,off,p)):Decidable p:=decidable_of_iff _ (z7f h)
def yj8 {H:List O} {c:C} {rows:List (List C)} {p:Prop} (h:zm8 H c=some (rows,p)):Decidable p:=decidable_of_iff _ (yak h)
section
variable (P:Program) (H:List O)
instance dPick (c a b:V):Decidable (z2r c a b H).pre:=by unfold z2r;repeat' (first|infer_instance|split)
instance dNew (cs:List C):Decidable (newF cs H).pre:=by unfold newF;infer_instance
instance dLoad (t:TypeId) (a:V):Decidable (zuw P t a H).pre:=by
 unfold zuw
 repeat' (first|infer_instance|(rename_i h;have:=dRow h;infer_instance)|split)
instance dStore (t:TypeId) (a x:V):Decidable (zy3 P t a x H).pre:=by unfold zy3;repeat' (first|infer_instance|split)
instance dInt (op:BinOp) (k:IntKind) (a b:Int):Decidable (intF op k a b H).pre:=by unfold intF;repeat' (first|infer_instance|split)
instance dSh (op:BinOp) (k:IntKind) (a b:Int):Decidable (shF op k a b H).pre:=by unfold shF;repeat' (first|infer_instance|split)
instance dStr (op:BinOp) (a b:List UInt8):Decidable (strF op a b H).pre:=by unfold strF;repeat' (first|infer_instance|split)
instance dEq (op:BinOp) (t:TypeId) (a b:List C):Decidable (eqF P op t a b H).pre:=by unfold eqF;repeat' (first|infer_instance|split)
instance dNil (op:BinOp) (t:TypeId) (b:Bool):Decidable (nilF P op t b H).pre:=by unfold nilF;repeat' (first|infer_instance|split)
instance dBin (op:BinOp) (t:TypeId) (x y:V):Decidable (binF P op t x y H).pre:=by unfold binF;repeat' (first|infer_instance|split)
instance dUn (op:UnOp) (x:V):Decidable (unF op x H).pre:=by unfold unF;repeat' (first|infer_instance|split)
instance dIA (t:TypeId) (x i:V):Decidable (zla P t x i H).pre:=by unfold zla;repeat' (first|infer_instance|split)
instance dIx (t:TypeId) (x i:V):Decidable (zxn P t x i H).pre:=by unfold zxn;repeat' (first|infer_instance|split)
instance dFA (t:TypeId) (x:V) (f:Nat):Decidable (ze9 P t x f H).pre:=by unfold ze9;repeat' (first|infer_instance|split)
instance dF (t:TypeId) (x:V) (f:Nat):Decidable (zxs P t x f H).pre:=by unfold zxs;repeat' (first|infer_instance|split)
instance dMake (pl:Bool) (t:TypeId) (l c:V):Decidable (znl P pl t l c H).pre:=by unfold znl;repeat' (first|infer_instance|split)
instance dSR (t:TypeId) (rows:List (List C)) (lo hi mx:Option V):Decidable (zln P t rows lo hi mx H).pre:=by unfold zln;repeat' (first|infer_instance|split)
instance dSl (t:TypeId) (x:V) (lo hi mx:Option V):Decidable (z0a P t x lo hi mx H).pre:=by unfold z0a;repeat' (first|infer_instance|split)
instance dLen (t:TypeId) (x:V):Decidable (lenF P t x H).pre:=by unfold lenF;repeat' (first|infer_instance|split)
instance dApp (ts:Array TypeId) (s x:V):Decidable (ztg P ts s x H).pre:=by
 unfold ztg
 repeat' (first|infer_instance|split)
 all_goals (have:=yj8 ‹zm8 H _=some (_,_)›;dsimp only;infer_instance)
instance dCopy (ts:Array TypeId) (s x:V):Decidable (z9p P ts s x H).pre:=by
 unfold z9p
 repeat' (first|infer_instance|(rename_i h;have:=yj8 h;infer_instance)|split)
instance dClear (ts:Array TypeId) (x:V):Decidable (z1z P ts x H).pre:=by unfold z1z;repeat' (first|infer_instance|split)
instance dBi (b:Builtin) (ts:Array TypeId) (args:List V):Decidable (biF P b ts args H).pre:=by unfold biF;repeat' (first|infer_instance|split)
instance dBuild (t:TypeId) (parts:List (Nat×V)):Decidable (zx1 P t parts H).pre:=by unfold zx1;repeat' (first|infer_instance|split)
instance dBuildS (own:Bool) (t:TypeId) (n:Nat) (parts:List (Nat×V)):Decidable (znt P own t n parts H).pre:=by unfold znt;repeat' (first|infer_instance|split)
instance dStrC (s d:TypeId) (b:List UInt8):Decidable (zvs P s d b H).pre:=by unfold zvs;repeat' (first|infer_instance|split)
instance dByC (s d:TypeId) (c:C):Decidable (zmh P s d c H).pre:=by
 unfold zmh
 repeat' (first|infer_instance|(rename_i h _ _;have:=yj8 h;infer_instance)|split)
instance dMsC (s d:TypeId) (id ver lo hi:Nat):Decidable (zvx P s d id ver lo hi H).pre:=by unfold zvx;repeat' (first|infer_instance|split)
instance dConv (s d:TypeId) (x:V):Decidable (z6j P s d x H).pre:=by unfold z6j;repeat' (first|infer_instance|split)
instance dLookR (z:C) (ok:Bool) (o:Option (Option C)):Decidable (z0r z ok H o).pre:=by unfold z0r;repeat' (first|infer_instance|split)
instance dLookup (t:TypeId) (m k:V) (ok:Bool):Decidable (zsc P t m k ok H).pre:=by unfold zsc;repeat' (first|infer_instance|split)
instance dMapPut (t:TypeId) (m k v:V):Decidable (zwx P t m k v H).pre:=by unfold zwx;repeat' (first|infer_instance|split)
instance dMkIf (t:TypeId) (x:V):Decidable (zr9 P t x H).pre:=by unfold zr9;repeat' (first|infer_instance|split)
instance dNoIf (a:TypeId) (ok:Bool):Decidable (z1a P a ok H).pre:=by unfold z1a;repeat' (first|infer_instance|split)
instance dIsIf (ok:Bool) (cs:List C):Decidable (z2z ok cs H).pre:=by unfold z2z;infer_instance
instance dTA (x:V) (a:TypeId) (ok:Bool):Decidable (zjd P x a ok H).pre:=by unfold zjd;repeat' (first|infer_instance|split)
instance dAnd {p:Prop} {r:R} [d:Decidable p] [e:Decidable r.pre]:Decidable (andR p r).pre:=by unfold andR;exact inferInstanceAs (Decidable (p/\r.pre))
instance dFzc (c:C):Decidable (fzPc H c):=by unfold fzPc;repeat' (first|infer_instance|split)
def dFzp:(l:List C)->Decidable (fzP H l)
 |[]=>.isTrue trivial
 |c::r=>have:=dFzp r;inferInstanceAs (Decidable (fzPc H c/\fzP H r))
instance (l:List C):Decidable (fzP H l):=dFzp H l
instance dAppZ (ts:Array TypeId) (s x:V):Decidable (zyt P ts s x H).pre:=by unfold zyt;repeat' (first|infer_instance|split)
instance dBiZ (z:Bool) (b:Builtin) (ts:Array TypeId) (args:List V):Decidable (biZ P z b ts args H).pre:=by unfold biZ;repeat' (first|infer_instance|split)
instance dConvZ (z:Bool) (s d:TypeId) (x:V):Decidable (z6i P z s d x H).pre:=by unfold z6i;repeat' (first|infer_instance|split)
instance dStep (pos:String) (op:Op) (ρ:Operand->V):Decidable (zdu P pos op ρ H).pre:=by unfold zdu;repeat' (first|infer_instance|split)
end
mutual
def eqC:C->C->Bool
 |.int k a,.int k' b=>decide (k=k')&&decide (a=b)
 |.bool a,.bool b=>decide (a=b)
 |.str a,.str b=>decide (a=b)
 |.sl r,.sl r'=>zze r r'
 |.slf r,.slf r'=>zze r r'
 |.iptr r o,.iptr r' o'=>z3g r r'&&decide (o=o')
 |.fn f c,.fn f' c'=>decide (f=f')&&z3g c c'
 |.nilfn,.nilfn=>true
 |.nilif,.nilif=>true
 |.nilp,.nilp=>true
 |.nilm,.nilm=>true
 |.ref a b c d,.ref a' b' c' d'=>decide (a=a'/\b=b'/\c=c'/\d=d')
 |.msl a b c d,.msl a' b' c' d'=>decide (a=a'/\b=b'/\c=c'/\d=d')
 |.mp a,.mp a'=>decide (a=a')
 |_,_=>false
def z3g:List C->List C->Bool
 |[],[]=>true
 |c::r,c'::r'=>eqC c c'&&z3g r r'
 |_,_=>false
def zze:List (List C)->List (List C)->Bool
 |[],[]=>true
 |c::r,c'::r'=>z3g c c'&&zze r r'
 |_,_=>false
end
mutual
theorem ygn:∀{a b:C},eqC a b=true->a=b
 |.int k a,b,h=>by cases b<;>simp[eqC]at h;obtain⟨rfl,rfl⟩:=h;rfl
 |.bool a,b,h=>by cases b<;>simp[eqC]at h;subst h;rfl
 |.str a,b,h=>by cases b<;>simp[eqC]at h;subst h;rfl
 |.sl r,b,h=>by cases b<;>simp[eqC]at h;rw[zxv h]
 |.slf r,b,h=>by cases b<;>simp[eqC]at h;rw[zxv h]
 |.iptr r o,b,h=>by cases b<;>simp[eqC]at h;rw[zxw h.1,h.2]
 |.fn f c,b,h=>by cases b<;>simp[eqC]at h;rw[zxw h.2,h.1]
 |.ifc t c,b,h=>by cases b<;>simp[eqC]at h
 |.nilfn,b,h=>by cases b<;>simp[eqC]at h;rfl
 |.nilif,b,h=>by cases b<;>simp[eqC]at h;rfl
 |.nilp,b,h=>by cases b<;>simp[eqC]at h;rfl
 |.nilm,b,h=>by cases b<;>simp[eqC]at h;rfl
 |.ref a1 a2 a3 a4,b,h=>by cases b<;>simp[eqC]at h;obtain⟨rfl,rfl,rfl,rfl⟩:=h;rfl
 |.msl a1 a2 a3 a4,b,h=>by cases b<;>simp[eqC]at h;obtain⟨rfl,rfl,rfl,rfl⟩:=h;rfl
 |.mp a,b,h=>by cases b<;>simp[eqC]at h;subst h;rfl
theorem zxw:∀{a b:List C},z3g a b=true->a=b
 |[],b,h=>by cases b<;>simp[z3g]at h;rfl
 |c::r,b,h=>by
  cases b with
  |nil=>simp[z3g]at h
  |cons c' r'=>simp[z3g]at h;rw[ygn h.1,zxw h.2]
theorem zxv:∀{a b:List (List C)},zze a b=true->a=b
 |[],b,h=>by cases b<;>simp[zze]at h;rfl
 |c::r,b,h=>by
  cases b with
  |nil=>simp[zze]at h
  |cons c' r'=>simp[zze]at h;rw[zxw h.1,zxv h.2]
end
def eqV:V->V->Bool
 |.one a,.one b=>eqC a b
 |.agg a,.agg b=>z3g a b
 |.un,.un=>true
 |_,_=>false
theorem ycr {a b:V} (h:eqV a b=true):a=b:=by
 cases a<;>cases b<;>simp[eqV]at h
 ·rw[ygn h]
 ·rw[zxw h]
 ·rfl
def eqVs:List V->List V->Bool
 |[],[]=>true
 |a::r,b::r'=>eqV a b&&eqVs r r'
 |_,_=>false
theorem ycq:∀{a b:List V},eqVs a b=true->a=b
 |[],b,h=>by cases b<;>simp[eqVs]at h;rfl
 |c::r,b,h=>by
  cases b with
  |nil=>simp[eqVs]at h
  |cons c' r'=>simp[eqVs]at h;rw[ycr h.1,ycq h.2]
def eqOo:Option O->Option O->Bool
 |none,none=>true
 |some (.cells v s r),some (.cells v' s' r')=>decide (v=v'/\s=s')&&zze r r'
 |some .dead,some .dead=>true
 |_,_=>false
theorem yct {a b:Option O} (h:eqOo a b=true):a=b:=by
 cases a with
 |none=>cases b<;>simp[eqOo]at h;rfl
 |some a=>cases b with
  |none=>cases a<;>simp[eqOo]at h
  |some b=>
   cases a<;>cases b<;>simp[eqOo]at h
   ·obtain⟨⟨rfl,rfl⟩,h2⟩:=h;rw[zxv h2]
   ·rfl
def z8n (S:List Nat) (H H':List O):Bool:=S.all fun i=>eqOo (H'[i]?) (H[i]?)
theorem z05 {S:List Nat} {H H':List O} (h:z8n S H H'=true):zo2 S H H':=by
 intro i hi;simp only[z8n,Wak]at h;exact yct (h i hi)
def eqOs:List O->List O->Bool
 |[],[]=>true
 |a::r,b::r'=>eqOo (some a) (some b)&&eqOs r r'
 |_,_=>false
theorem ycs:∀{a b:List O},eqOs a b=true->a=b
 |[],b,h=>by cases b<;>simp[eqOs]at h;rfl
 |c::r,b,h=>by
  cases b with
  |nil=>simp[eqOs]at h
  |cons c' r'=>simp[eqOs]at h;rw[Wab (yct h.1),ycs h.2]
abbrev z07:=FuncId->List V->List O->Option (V×List O)
def zni (P:Program) (call:z07):Prop:=∀g args H v H',call g args H=some (v,H')->Ct P g args H fun x H2=>x=v/\H2=H'
section
variable (P:Program) (call:z07)
def pcOf (g:FuncId) (args:List V):Option V:=match call g args []with
 |some (v,H')=>match(v.view H').lt 0 with
  |true=>some (v.view H')
  |false=>none
 |none=>none
def ysa:V->Bool
 |.one (.ref ..)=>true
 |.one (.mp _)=>true
 |_=>false
def yrm (g:FuncId):Bool:=match P.funcs[g]? with
 |some fn=>ownFnL.contains fn.name
 |none=>false
def ycp (g:FuncId) (args:List V) (H:List O):Option (V×List O):=
 match yrm P g||args.any ysa|| !ltVs 0 (args.map (V.view H))with
 |true=>call g args H
 |false=>match pcOf call g (args.map (V.view H))with
  |some x=>match args.all (fun a=> !a.own)||x.scalar with
   |true=>some (x,H)
   |false=>call g args H
  |none=>call g args H
def evOp (o:Oper) (st:St):Option St:=
 match o.op with
 |.call {callee:=.value f,args,argTypes:=_}=>match st.ρ f with
  |.one (.fn g cap)=>match ycp P call g (args.toList.map st.ρ++cap.map V.one) st.H with
   |some (v,H')=>some (st.put o.dst v H')
   |none=>none
  |_=>none
 |op=>if(zdu P o.pos op st.ρ st.H).pre then some (st.put o.dst (zdu P o.pos op st.ρ st.H).v (zdu P o.pos op st.ρ st.H).h)else none
def z75 (P:Program) (pos:String) (op:Op) (ρ:Operand->V):Bool:=match op with
 |.makeSlice _ _ _=>yek pos
 |.move _|.assign _|.pick _ _ _|.load _ _|.nilCheck _|.binOp _ _ _ _ _|.unOp _ _ _|.makeFunc _ _ _|.makeInterface _ _|.typeAssert _ _ _ _|.lookup _ _ _ _|.fieldAddr _ _ _|.field _ _ _|.indexAddr _ _ _|.index _ _ _|.extract _ _|.build _ _=>true
 |.convert _ _ x=>match ρ x with|.one (.int _ _)=>true|_=>false
 |.slice _ x _ _ _=>match ρ x with|.one (.str _)=>true|.one (.sl _)=>true|.one (.slf _)=>true|.one (.msl _ _ _ _)=>true|_=>false
 |.call {callee:=.builtin .len,args:=_,argTypes:=_}=>true
 |.call {callee:=.builtin .max,args:=_,argTypes:=_}=>true
 |.call {callee:=.builtin .min,args:=_,argTypes:=_}=>true
 |_=>false
def isBs:Op->Bool
 |.buildSlice _ _ _=>true
 |_=>false
def yix (pos:String) (op:Op) (st:St):Bool:=match isBs op with
 |true=>eqOs (zdu P pos op st.ρ st.H).h st.H
 |false=>z75 P pos op st.ρ
def evQ (o:Oper) (st:St):Option St:=
 match o.op with
 |.call {callee:=.value f,args,argTypes:=_}=>match st.ρ f with
  |.one (.fn g cap)=>match ltVs 0 ((args.toList.map st.ρ++cap.map V.one).map (V.view st.H))with
   |true=>match pcOf call g ((args.toList.map st.ρ++cap.map V.one).map (V.view st.H))with
    |some x=>match(args.toList.map st.ρ++cap.map V.one).all (fun a=> !a.own)||x.scalar with
     |true=>some (st.put o.dst x st.H)
     |false=>none
    |none=>none
   |false=>none
  |_=>none
 |op=>if(zdu P o.pos op st.ρ st.H).pre/\z6a o.pos=false/\z9l o.pos=false/\yix P o.pos op st=true then some (st.put o.dst (zdu P o.pos op st.ρ st.H).v st.H)else none
def z3f (all:Array Oper) (o:Oper) (st:St):Option (Bool×St):=
 match o.guard with
 |none=>some (true,st)
 |some (j,want)=>match(all[j]?).bind (·.dst)with
  |some d=>match look st.t d with
   |.one (.bool b)=>some (b==want,⟨(d,.one (.bool b))::st.t,st.H⟩)
   |.tup []=>some (false,st)
   |_=>none
  |none=>none
def z9k (all:Array Oper):List Oper->St->Option St
 |[],st=>some st
 |o::rest,st=>match z3f all o st with
  |some (true,st1)=>match evOp P call o st1 with
   |some st2=>z9k all rest st2
   |none=>none
  |some (false,st1)=>z9k all rest (st1.put o.dst (.tup []) st1.H)
  |none=>none
def ycg:Option (Prop×V×List Fo)->Prop
 |some (p,_,_)=>p
 |none=>False
instance dFresh (o:Oper) (st:St) (N:List Fo):Decidable (ycg (zvh P o st N)):=by
 unfold zvh;repeat' (first|(unfold ycg;infer_instance)|split)
def ybs (all:Array Oper) (t:List (Nat×V)) (i:Nat):Bool:=match all[i]? with
 |some o=>match o.op,o.dst with
  |.move x,some d=>eqV (St.ρ ⟨t,[]⟩ x) (look t d)
  |.assign x,some d=>eqV (St.ρ ⟨t,[]⟩ x) (look t d)
  |_,_=>false
 |none=>false
def yhm (all:Array Oper) (k:Nat) (t:List (Nat×V)):Bool:=z2e all k||(z4o all k&&(zdt all k).all (ybs all t))
def z1y (all:Array Oper):List Oper->List Fo->St->Option St
 |[],N,st=>some ⟨st.t,st.H++N.map Fo.o⟩
 |o::rest,N,st=>match zvh P o st N with
  |some (_,v,N')=>if ycg (zvh P o st N)then z1y all rest N' (st.put o.dst v st.H)else none
  |none=>match effT o.pos o.op with
   |true=>match yhm all (all.size-(rest.length+1)) st.t with
    |true=>z9k P call all (o::rest) ⟨st.t,st.H++N.map Fo.o⟩
    |false=>none
   |false=>match z8q o N with
    |true=>match z3f all o st with
     |some (true,st1)=>match evQ P call o st1 with
      |some st2=>z1y all rest N st2
      |none=>none
     |some (false,st1)=>z1y all rest N (st1.put o.dst (.tup []) st1.H)
     |none=>none
    |false=>none
def z83 (S:List Nat):V->Bool
 |.one (.ref id _ _ _)=>S.contains id
 |.one (.iptr _ _)=>true
 |_=>false
def z5i (op:Op) (ρ:Operand->V) (S:List Nat):Bool:=match op with
 |.move _|.assign _=>true
 |.fieldAddr _ x _=>z83 S (ρ x)
 |.load _ x=>z83 S (ρ x)
 |.nilCheck x=>z83 S (ρ x)
 |_=>false
def evF (S Fl FE:List Nat):Nat->List Oper->St->Option St
 |_,[],st=>some st
 |k,o::rest,st=>match effF o.op with
  |true=>match o.op with
   |.call {callee:=.value f,args,argTypes:=_}=>match st.ρ f with
    |.one (.fn g cap)=>match call g (args.toList.map st.ρ++cap.map V.one) st.H with
     |some (x,H1)=>match !FE.contains k||z8n S st.H H1 with
      |true=>evF S Fl FE (k+1) rest (st.put o.dst x H1)
      |false=>none
     |none=>none
    |_=>none
   |op=>if(zdu P o.pos op st.ρ st.H).pre/\(FE.contains k=false\/z8n S st.H (zdu P o.pos op st.ρ st.H).h=true)then evF S Fl FE (k+1) rest (st.put o.dst (zdu P o.pos op st.ρ st.H).v (zdu P o.pos op st.ρ st.H).h)else none
  |false=>if(zdu P o.pos o.op st.ρ st.H).pre/\z6a o.pos=false/\z9l o.pos=false/\z75 P o.pos o.op st.ρ=true/\(Fl.contains k=false\/z5i o.op st.ρ S=true)then evF S Fl FE (k+1) rest (st.put o.dst (zdu P o.pos o.op st.ρ st.H).v st.H)else none
def flOf (all:Array Oper):List Nat:=(List.range all.size).filter fun i=> !zcm all i&&floQ all i
def feOf (all:Array Oper):List Nat:=(List.range all.size).filter fun i=>zcm all i&&floE all i
def yjy (ops:Array Oper) (st:St):Option St:=match floB ops&&floL ops (flOf ops) (feOf ops)with
 |true=>evF P call (List.range st.H.length) (flOf ops) (feOf ops) 0 ops.toList st
 |false=>none
def z5j:List (Nat×V)->List Nat->List (Nat×V)
 |[],_=>[]
 |(k,v)::r,seen=>match seen.contains k with
  |true=>z5j r seen
  |false=>(k,v)::z5j r (k::seen)
def St.slim (st:St):St:=⟨z5j st.t [],st.H⟩
def evC:Nat->Cf->Code->Option Nat->St->Option (Ex×St)
 |0,_,_,_,_=>none
 |k+1,n,c,some l,st=>match findLabel c l with
  |some rest=>match okC n.n rest with
   |true=>match evC k n rest none st with
    |some (.goto l',st1)=>evC k n c (some l') st1
    |r=>r
   |false=>none
  |none=>none
 |k+1,n,c,none,st=>match c with
  |.skip=>some (.normal,st)
  |.label _=>some (.normal,st)
  |.region _ ops draw=>match draw with
   |true=>match zyp ops with
    |true=>match P.follows .mixedOrders&&zwc ops with
     |true=>match yjy P call ops st with
      |some st1=>some (.normal,st1)
      |none=>none
     |false=>none
    |false=>match P.follows .mixedOrders&&zwc ops with
     |true=>match z1y P call ops ops.toList [] st with
      |some st1=>some (.normal,st1)
      |none=>none
     |false=>none
   |false=>match z9k P call ops ops.toList st with
    |some st1=>some (.normal,st1)
    |none=>none
  |.seq a b=>match evC k n a none st with
   |some (.normal,st1)=>evC k n b none st1
   |r=>r
  |.cond c x y=>match st.ρ c with
   |.one (.bool true)=>evC k n x none st
   |.one (.bool false)=>evC k n y none st
   |_=>none
  |.block id c=>match evC k n c none st with
   |some (.exit i,st1)=>if i=id then some (.normal,st1)else some (.exit i,st1)
   |r=>r
  |.loop c=>match evC k n c none st.slim with
   |some (.normal,st1)=>evC k n (.loop c) none st1
   |r=>r
  |.scope c=>match evC k n c none st with
   |some (.goto l,st1)=>evC k n c (some l) st1
   |r=>r
  |.goto l=>some (.goto l,st)
  |.exit id=>some (.exit id,st)
  |.ret=>some (.ret,st)
  |_=>none
def resB (st:St):ResultVar->Option V
 |.tmp i=>some (look st.t i)
 |.cell i ty=>match look st.t i with
  |.one c=>match tAg P ty,zv5 st.H c with
   |some (g,n),some (row,off,_)=>match rowB st.H c&&decide (off+wd g n<=row.length)with
    |true=>some (ldV g n row off)
    |false=>none
   |_,_=>none
  |_=>none
def resL (st:St):List ResultVar->Option (List V)
 |[]=>some []
 |r::rs=>match resB P st r,resL st rs with
  |some x,some xs=>some (x::xs)
  |_,_=>none
def endB (rs:List ResultVar) (st:St):Option V:=match rs with
 |[r]=>resB P st r
 |rs=>match resL P st rs with
  |some xs=>some (.tup xs)
  |none=>none
def z8e (f:FuncId) (args:List V) (H:List O):Option (V×List O):=
 match P.funcs[f]? with
 |some fn=>match fn.body with
  |some c=>match !(fn.name== "runtime.NumGoroutine")&&okC fn.ntmps c with
   |true=>match evC P call 1000000 ⟨fn.ntmps,H.length⟩ c none ⟨zm7 0 args,H⟩with
    |some (.normal,st)=>match endB P fn.results.toList st with
     |some x=>some (x,st.H)
     |none=>none
    |some (.ret,st)=>match endB P fn.results.toList st with
     |some x=>some (x,st.H)
     |none=>none
    |_=>none
   |false=>none
  |none=>none
 |none=>none
end
def evK (P:Program):Nat->z07
 |0=>fun _ _ _=>none
 |k+1=>z8e P (evK P k)
section
variable {P:Program} {call:z07}
theorem z7o {f:FuncId} {args:List V} {v:V} {H':List O} (h:Ct P f args [] fun x H2=>x=v/\H2=H') (hl:(v.view H').lt 0=true):Pu P f args (v.view H'):=by
 refine⟨h.1,fun E vs hE hH hn hv=>Calls.mono (h.2 E vs hE hH hn hv) ?_⟩;rintro e w' ⟨u,y,E',rfl,rfl,⟨rfl,rfl⟩,hyv,hh,tr⟩;refine⟨u,_,E'.shut,rfl,rfl,⟨rfl,rfl⟩,zw4 hh hyv hl,zvt hh,?_⟩
 have e0:∀b,¬E.own b:=by rintro b ⟨id,o,ho,_⟩;simp[hH]at ho
 refine⟨tr.fr,tr.size,tr.os,tr.tape,tr.output,fun b hb _=>tr.keep b hb (e0 b),?_,by simp[hH],by simp[Env.shut],by simp[Env.shut]⟩;rintro b hb ⟨id,o,ho,_⟩;simp[Env.shut]at ho
theorem z2s (hc:zni P call) {g:FuncId} {args:List V} {x:V} (h:pcOf call g args=some x):Pu P g args x/\x.lt 0=true:=by
 unfold pcOf at h;split at h
 ·rename_i v H' hv
  split at h
  ·rename_i hl
   obtain rfl:=Wab h;exact⟨z7o (hc _ _ _ _ _ hv) hl,hl⟩
  ·cases h
 ·cases h
theorem yco (hc:zni P call):zni P (ycp P call):=by
 intro g args H v H' h;unfold ycp at h;split at h
 ·exact hc _ _ _ _ _ h
 ·rename_i h0
  simp only[Wbw,Bool.not_eq_false']at h0;split at h
  ·rename_i x hx
   split at h
   ·rename_i hb
    obtain⟨rfl,rfl⟩:=WaO (Wab h);obtain⟨hp,hl⟩:=z2s hc hx;exact zvn hp rfl h0.2 hl (by simpa using hb) ⟨rfl,rfl⟩
   ·exact hc _ _ _ _ _ h
  ·exact hc _ _ _ _ _ h
theorem yjx (hc:zni P call) {o:Oper} {st st':St} {K:St->Prop} (h:evOp P call o st=some st') (hk:K st'):awpOp P o st K:=by
 obtain⟨dst,op,ty,pos,after,guard⟩:=o
 cases op with
 |call c=>
  obtain⟨callee,args,ats⟩:=c
  cases callee with
  |value f=>
   simp only[evOp]at h;simp only[awpOp];split at h
   ·rename_i g cap hf
    split at h
    ·rename_i v H' hv
     obtain rfl:=Wab h;rw[hf]
     exact(yco hc _ _ _ _ _ hv).mono fun x H2 ⟨e1,e2⟩=>by subst e1;subst e2;exact hk
    ·cases h
   ·cases h
  |_=>
   simp only[evOp]at h;split at h
   ·rename_i hp
    obtain rfl:=Wab h;exact⟨hp,fun _=>hk⟩
   ·cases h
 |_=>
  simp only[evOp]at h;split at h
  ·rename_i hp
   obtain rfl:=Wab h;exact⟨hp,fun _=>hk⟩
  ·cases h
theorem zzw {all:Array Oper} {o:Oper} {st st1:St} {b:Bool} {X Y:St->Prop} (h:z3f all o st=some (b,st1)) (hx:b=true->X st1) (hy:b=false->Y st1):guarded2 all o st X Y:=by
 unfold z3f at h;unfold guarded2;split at h
 ·rename_i hg
  obtain⟨rfl,rfl⟩:=WaO (Wab h);simp only[hg];exact hx rfl
 ·rename_i j want hg
  simp only[hg];split at h
  ·rename_i d hd
   simp only[hd];split at h
   ·rename_i c hl
    obtain⟨rfl,rfl⟩:=WaO (Wab h);simp only[hl];refine⟨fun e=>?_,fun e=>?_⟩
    ·subst e;exact hx (by simp)
    ·subst e;exact hy (by cases want<;>rfl)
   ·rename_i hl
    obtain⟨rfl,rfl⟩:=WaO (Wab h);simp only[hl];exact hy rfl
   ·cases h
  ·cases h
theorem zzy (hc:zni P call) {all:Array Oper} {K:St->Prop}:∀{l:List Oper} {st st':St},z9k P call all l st=some st'->K st'->awpOps P all l st K
 |[],st,st',h,hk=>by
  obtain rfl:=Wab h;exact hk
 |o::rest,st,st',h,hk=>by
  unfold z9k at h;unfold awpOps;split at h
  ·rename_i st1 hg
   split at h
   ·rename_i st2 ho
    exact zzw hg (fun _=>yjx hc ho (zzy hc h hk)) (fun e=>by cases e)
   ·cases h
  ·rename_i st1 hg
   exact zzw hg (fun e=>by cases e) (fun _=>zzy hc h hk)
  ·cases h
end
section
variable (P:Program) (H:List O)
theorem kMk {p f:Prop} {v:V}:(R.mk p f v H).pre->(R.mk p f v H).h=H:=fun _=>rfl
theorem kOk {v:V}:(R.ok v H).pre->(R.ok v H).h=H:=fun _=>rfl
theorem kBad:R.bad.pre->R.bad.h=H:=fun h=>h.elim
theorem yr2 (t:TypeId) (a:V):(zuw P t a H).pre->(zuw P t a H).h=H:=by
 unfold zuw;repeat' (first|exact kMk H|exact kOk H|exact kBad H|split)
theorem yrz (c a b:V):(z2r c a b H).pre->(z2r c a b H).h=H:=by
 unfold z2r;repeat' (first|exact kMk H|exact kOk H|exact kBad H|split)
theorem kInt (op:BinOp) (k:IntKind) (a b:Int):(intF op k a b H).pre->(intF op k a b H).h=H:=by
 unfold intF;repeat' (first|exact kMk H|exact kOk H|exact kBad H|split)
theorem kSh (op:BinOp) (k:IntKind) (a b:Int):(shF op k a b H).pre->(shF op k a b H).h=H:=by
 unfold shF;repeat' (first|exact kMk H|exact kOk H|exact kBad H|split)
theorem kStr (op:BinOp) (a b:List UInt8):(strF op a b H).pre->(strF op a b H).h=H:=by
 unfold strF;repeat' (first|exact kMk H|exact kOk H|exact kBad H|split)
theorem kEq (op:BinOp) (t:TypeId) (a b:List C):(eqF P op t a b H).pre->(eqF P op t a b H).h=H:=by
 unfold eqF;repeat' (first|exact kMk H|exact kOk H|exact kBad H|split)
theorem kNil (op:BinOp) (t:TypeId) (b:Bool):(nilF P op t b H).pre->(nilF P op t b H).h=H:=by
 unfold nilF;repeat' (first|exact kMk H|exact kOk H|exact kBad H|split)
theorem kUn (op:UnOp) (x:V):(unF op x H).pre->(unF op x H).h=H:=by
 unfold unF;repeat' (first|exact kMk H|exact kOk H|exact kBad H|split)
theorem kIA (t:TypeId) (x i:V):(zla P t x i H).pre->(zla P t x i H).h=H:=by
 unfold zla;repeat' (first|exact kMk H|exact kOk H|exact kBad H|split)
theorem kIx (t:TypeId) (x i:V):(zxn P t x i H).pre->(zxn P t x i H).h=H:=by
 unfold zxn;repeat' (first|exact kMk H|exact kOk H|exact kBad H|split)
theorem kFA (t:TypeId) (x:V) (f:Nat):(ze9 P t x f H).pre->(ze9 P t x f H).h=H:=by
 unfold ze9;repeat' (first|exact kMk H|exact kOk H|exact kBad H|split)
theorem kF (t:TypeId) (x:V) (f:Nat):(zxs P t x f H).pre->(zxs P t x f H).h=H:=by
 unfold zxs;repeat' (first|exact kMk H|exact kOk H|exact kBad H|split)
theorem kSR (t:TypeId) (rows:List (List C)) (lo hi mx:Option V):(zln P t rows lo hi mx H).pre->(zln P t rows lo hi mx H).h=H:=by
 unfold zln;repeat' (first|exact kMk H|exact kOk H|exact kBad H|split)
theorem kLen (t:TypeId) (x:V):(lenF P t x H).pre->(lenF P t x H).h=H:=by
 unfold lenF;repeat' (first|exact kMk H|exact kOk H|exact kBad H|split)
theorem ymt (t:TypeId) (parts:List (Nat×V)):(zx1 P t parts H).pre->(zx1 P t parts H).h=H:=by
 unfold zx1;repeat' (first|exact kMk H|exact kOk H|exact kBad H|split)
theorem yms (z:C) (ok:Bool) (o:Option (Option C)):(z0r z ok H o).pre->(z0r z ok H o).h=H:=by
 unfold z0r;repeat' (first|exact kMk H|exact kOk H|exact kBad H|split)
theorem yr1 (t:TypeId) (x:V):(zr9 P t x H).pre->(zr9 P t x H).h=H:=by
 unfold zr9;repeat' (first|exact kMk H|exact kOk H|exact kBad H|split)
theorem yr0 (a:TypeId) (ok:Bool):(z1a P a ok H).pre->(z1a P a ok H).h=H:=by
 unfold z1a;repeat' (first|exact kMk H|exact kOk H|exact kBad H|split)
theorem yr3 (ok:Bool) (cs:List C):(z2z ok cs H).pre->(z2z ok cs H).h=H:=by
 unfold z2z;repeat' (first|exact kMk H|exact kOk H|exact kBad H|split)
theorem kBin (op:BinOp) (t:TypeId) (x y:V):(binF P op t x y H).pre->(binF P op t x y H).h=H:=by
 unfold binF;repeat' (first|exact kMk H|exact kOk H|exact kBad H|exact kEq P H _ _ _ _|exact kNil P H _ _ _|exact kSh H _ _ _ _|exact kInt H _ _ _ _|exact kStr H _ _ _|split)
theorem yiy (t:TypeId) (m k:V) (ok:Bool):(zsc P t m k ok H).pre->(zsc P t m k ok H).h=H:=by
 unfold zsc;repeat' (first|exact kBad H|exact yms H _ _ _|split)
theorem kTA (x:V) (a:TypeId) (ok:Bool):(zjd P x a ok H).pre->(zjd P x a ok H).h=H:=by
 unfold zjd;repeat' (first|exact kBad H|exact yr0 P H _ _|exact yr3 H _ _|split)
theorem z4s {pos:String} {op:Op} {ρ:Operand->V} (hz:z6a pos=false) (hv:z9l pos=false) (hp:(zdu P pos op ρ H).pre) (hk:z75 P pos op ρ=true):(zdu P pos op ρ H).h=H:=by
 cases op<;>simp only[z75,WaD]at hk
 case makeSlice t l c=>
  revert hp;simp only[zdu,hk,znl]
  repeat' (first|exact kMk H|exact kOk H|exact kBad H|split)
 case move=>rfl
 case assign=>rfl
 case pick=>exact yrz H _ _ _ hp
 case load=>exact yr2 P H _ _ hp
 case nilCheck x=>
  revert hp;simp only[zdu]
  repeat' (first|exact kMk H|exact kOk H|exact kBad H|split)
 case binOp=>exact kBin P H _ _ _ _ hp
 case unOp=>exact kUn H _ _ hp
 case makeFunc fn first cap=>
  revert hp;cases fn<;>simp only[zdu]
  all_goals (repeat' (first|exact kMk H|exact kOk H|exact kBad H|split))
 case makeInterface=>exact yr1 P H _ _ hp
 case typeAssert=>exact kTA P H _ _ _ hp
 case lookup=>exact yiy P H _ _ _ _ hp
 case fieldAddr=>exact kFA P H _ _ _ hp
 case field=>exact kF P H _ _ _ hp
 case indexAddr=>exact kIA P H _ _ _ hp
 case index=>exact kIx P H _ _ _ hp
 case extract x i=>
  revert hp;simp only[zdu]
  repeat' (first|exact kMk H|exact kOk H|exact kBad H|split)
 case build=>exact ymt P H _ _ hp
 case convert s d x=>
  revert hp hk;simp only[zdu,hv,z6i]
  cases ρ x with
  |one c=>
   cases c with
   |int k n=>intro hp _;revert hp;simp only[z6j];repeat' (first|exact kMk H|exact kOk H|exact kBad H|split)
   |_=>simp
  |_=>simp
 case slice t x lo hi mx=>
  revert hp hk;simp only[zdu];split
  ·intro h;exact h.elim
  cases ρ x with
  |one c=>
   cases c<;>intro hp hk<;>revert hp<;>simp only[WaD]at hk<;>simp only[z0a]
   all_goals (repeat' (first|exact kMk H|exact kOk H|exact kBad H|exact kSR P H _ _ _ _ _|split))
  |_=>intro hp hk;simp at hk
 case call c=>
  obtain⟨callee,args,ats⟩:=c
  cases callee with
  |builtin b=>
   revert hp;simp only[zdu,hz,biZ];cases b<;>simp only[WaD]at hk
   case len=>unfold biF;repeat' (first|contradiction|exact kMk H|exact kOk H|exact kBad H|exact kLen P H _ _|split)
   case max=>unfold biF;repeat' (first|contradiction|exact kMk H|exact kOk H|exact kBad H|split)
   case min=>unfold biF;repeat' (first|contradiction|exact kMk H|exact kOk H|exact kBad H|split)
  |value f=>simp at hk
  |invoke r m=>simp at hk
end
section
variable {P:Program} {call:z07}
theorem z73 {pos:String} {op:Op} {st:St} (hz:z6a pos=false) (hv:z9l pos=false) (hp:(zdu P pos op st.ρ st.H).pre) (hk:yix P pos op st=true):(zdu P pos op st.ρ st.H).h=st.H:=by
 unfold yix at hk;split at hk
 ·exact ycs hk
 ·exact z4s P _ hz hv hp hk
theorem yog (hc:zni P call) {o:Oper} {st st':St} {K:St->Prop} (h:evQ P call o st=some st') (hk:K st'):awpQ P o st K:=by
 obtain⟨dst,op,ty,pos,after,guard⟩:=o
 cases op with
 |call c=>
  obtain⟨callee,args,ats⟩:=c
  cases callee with
  |value f=>
   simp only[evQ]at h;simp only[awpQ];split at h
   ·rename_i g cap hf
    rw[hf];split at h
    ·rename_i hl
     split at h
     ·rename_i x hx
      split at h
      ·rename_i hb
       obtain rfl:=Wab h;obtain⟨hp,hx0⟩:=z2s hc hx;exact⟨x,zvn hp rfl hl hx0 (by simpa using hb) ⟨rfl,rfl⟩,hk⟩
      ·cases h
     ·cases h
    ·cases h
   ·cases h
  |_=>
   simp only[evQ]at h;split at h
   ·rename_i hp
    obtain⟨hp,hz,hv,hq⟩:=hp;obtain rfl:=Wab h
    have e:=z73 hz hv hp hq
    exact⟨hp,fun _=>⟨e,by rw[e];exact hk⟩⟩
   ·cases h
 |_=>
  simp only[evQ]at h;split at h
  ·rename_i hp
   obtain⟨hp,hz,hv,hq⟩:=hp;obtain rfl:=Wab h
   have e:=z73 hz hv hp hq
   exact⟨hp,fun _=>⟨e,by rw[e];exact hk⟩⟩
  ·cases h
theorem ydx {all:Array Oper} {k:Nat} {t:List (Nat×V)} (h:yhm all k t=true):zzl P all k t:=by
 simp only[yhm,WaE,Wan]at h
 rcases h with h|⟨h1,h2⟩
 ·exact .inl h
 ·refine .inr ⟨h1,?_⟩
  generalize zdt all k=L at h2
  induction L with
  |nil=>trivial
  |cons i L ih=>
   simp only[Wbi,Wan]at h2;refine⟨?_,ih h2.2⟩
   have hi:=h2.1
   unfold ybs at hi;unfold z4p;split at hi
   ·rename_i o ho
    have eρ:∀(H:List O) x,St.ρ ⟨t,H⟩ x=St.ρ ⟨t,[]⟩ x:=fun H x=>by cases x<;>rfl
    rw[ho];simp only;split at hi
    ·rename_i x d e1 e2
     rw[e1,e2];exact fun H=>⟨trivial,rfl,by show St.ρ ⟨t,H⟩ x=_;rw[eρ];exact ycr hi⟩
    ·rename_i x d e1 e2
     rw[e1,e2];exact fun H=>⟨trivial,rfl,by show St.ρ ⟨t,H⟩ x=_;rw[eρ];exact ycr hi⟩
    ·cases hi
   ·cases hi
theorem zxu (hc:zni P call) {all:Array Oper} {K:St->Prop}:∀{l:List Oper} {N:List Fo} {st st':St},z1y P call all l N st=some st'->K st'->awpDraw P all l N st K
 |[],N,st,st',h,hk=>by
  obtain rfl:=Wab h;exact hk
 |o::rest,N,st,st',h,hk=>by
  unfold z1y at h;unfold awpDraw;split at h
  ·rename_i p v N' hf
   rw[hf];split at h
   ·rename_i hp
    rw[hf]at hp;exact⟨hp,zxu hc h hk⟩
   ·cases h
  ·rename_i hf
   rw[hf];simp only;split at h
   ·rename_i he
    rw[he];split at h
    ·rename_i ht
     exact⟨ydx ht,zzy hc h hk⟩
    ·cases h
   ·rename_i he
    rw[he];split at h
    ·rename_i hu
     refine⟨hu,?_⟩;split at h
     ·rename_i st1 hg
      split at h
      ·rename_i st2 ho
       exact zzw hg (fun _=>yog hc ho (zxu hc h hk)) (fun e=>by cases e)
      ·cases h
     ·rename_i st1 hg
      exact zzw hg (fun e=>by cases e) (fun _=>zxu hc h hk)
     ·cases h
    ·cases h
theorem yev {t:TypeId} {c:C} {H H':List O} (e:zv5 H' c=zv5 H c):(zuw P t (.one c) H).pre->(zuw P t (.one c) H').pre/\(zuw P t (.one c) H').h=H'/\(zuw P t (.one c) H').v=(zuw P t (.one c) H).v:=by
 simp only[zuw];rw[e]
 cases tAg P t with
 |none=>exact fun h=>h.elim
 |some q=>cases zv5 H c with
  |none=>exact fun h=>h.elim
  |some r=>exact fun h=>⟨h,rfl,rfl⟩
theorem z3c {t:TypeId} {c:C} {f:Nat} {H H':List O} (e:∀id ver r off,c=.ref id ver r off->H'[id]? =H[id]?):(ze9 P t (.one c) f H).pre->(ze9 P t (.one c) f H').pre/\(ze9 P t (.one c) f H').h=H'/\(ze9 P t (.one c) f H').v=(ze9 P t (.one c) f H).v:=by
 unfold ze9
 cases tFd P t f with
 |none=>exact fun h=>h.elim
 |some q=>
  cases c with
  |ref id ver r off=>
   simp only;rw[e id ver r off rfl]
   cases H[id]? with
   |none=>exact fun h=>h.elim
   |some o=>cases o with
    |cells cur sz rows=>exact fun h=>⟨h,rfl,rfl⟩
    |_=>exact fun h=>h.elim
  |iptr row off=>exact fun h=>⟨h,rfl,rfl⟩
  |_=>exact fun h=>h.elim
theorem z8v {pos:String} {op:Op} {ρ:Operand->V} {H:List O} {S:List Nat} (hp:(zdu P pos op ρ H).pre) (h:z5i op ρ S=true):zwp P pos op ρ H S:=by
 intro H' hag
 have key:∀{x:V},z83 S x=true->∃c,x=.one c/\(∀id ver r off,c=.ref id ver r off->H'[id]? =H[id]?)/\zv5 H' c=zv5 H c:=by
  intro x hx
  cases x with
  |one c=>
   refine⟨c,rfl,?_⟩;cases c<;>simp only[z83,WaD]at hx
   case iptr row off=>exact⟨fun _ _ _ _ e=>(by cases e),rfl⟩
   case ref id ver r off=>
    have:=hag id (by simpa using hx)
    exact⟨fun _ _ _ _ e=>(by cases e;exact this),by simp only[zv5,this]⟩
  |_=>simp[z83]at hx
 cases op<;>simp only[z5i,WaD]at h
 case move=>exact⟨trivial,rfl,rfl⟩
 case assign=>exact⟨trivial,rfl,rfl⟩
 case fieldAddr t x f=>
  obtain⟨c,e1,e2,_⟩:=key h;simp only[zdu,e1]at hp|-;exact z3c e2 hp
 case load t x=>
  obtain⟨c,e1,_,e2⟩:=key h;simp only[zdu,e1]at hp|-;exact yev e2 hp
 case nilCheck x=>
  obtain⟨c,e1,e2,_⟩:=key h;simp only[zdu,e1]at hp|-
  cases c with
  |ref id ver r off=>
   simp only at hp|-;rw[e2 id ver r off rfl]
   cases ho:H[id]? with
   |none=>rw[ho]at hp;exact hp.elim
   |some o=>cases o with
    |cells cur sz rows=>rw[ho]at hp;exact⟨hp,rfl,rfl⟩
    |_=>rw[ho]at hp;exact hp.elim
  |iptr row off=>exact⟨trivial,rfl,rfl⟩
  |_=>exact hp.elim
theorem z46 (hc:zni P call) {S Fl FE:List Nat} {K:St->Prop}:∀{l:List Oper} {k:Nat} {st st':St},evF P call S Fl FE k l st=some st'->K st'->awpF P S Fl FE k l st K
 |[],k,st,st',h,hk=>by simp only[evF]at h;obtain rfl:=Wab h;exact hk
 |o::rest,k,st,st',h,hk=>by
  obtain⟨dst,op,ty,pos,after,guard⟩:=o;simp only[evF]at h;simp only[awpF];split at h
  ·rename_i he
   rw[he];simp only
   cases op with
   |call c=>
    obtain⟨callee,args,ats⟩:=c
    cases callee with
    |value f=>
     (try simp only at h);(try simp only)
     split at h
     ·rename_i g cap hf
      rw[hf];split at h
      ·rename_i x H1 hv
       split at h
       ·rename_i hb
        refine⟨x,H1,hc _ _ _ _ _ hv,fun hfe=>?_,z46 hc h hk⟩;rw[hfe]at hb;exact z05 (by simpa using hb)
       ·cases h
      ·cases h
     ·cases h
    |_=>
     (try simp only at h);(try simp only)
     split at h
     ·rename_i hb
      exact⟨hb.1,fun hfe=>z05 (by rcases hb.2 with e|e<;>simp_all),z46 hc h hk⟩
     ·cases h
   |_=>
    (try simp only at h);(try simp only)
    split at h
    ·rename_i hb
     exact⟨hb.1,fun hfe=>z05 (by rcases hb.2 with e|e<;>simp_all),z46 hc h hk⟩
    ·cases h
  ·rename_i he
   rw[he];simp only;split at h
   ·rename_i hb
    obtain⟨hp,hz,hv,hq,hs⟩:=hb
    exact⟨hp,z4s P _ hz hv hp hq,fun hfl=>z8v hp (by rcases hs with e|e<;>simp_all),z46 hc h hk⟩
   ·cases h
theorem yfg (hc:zni P call) {ops:Array Oper} {st st':St} {K:St->Prop} (h:yjy P call ops st=some st') (hk:K st'):floB ops=true/\∃S Fl FE,floL ops Fl FE=true/\awpF P S Fl FE 0 ops.toList st K:=by
 unfold yjy at h;split at h
 ·rename_i hb
  simp only[Wan]at hb;exact⟨hb.1,_,_,_,hb.2,z46 hc h hk⟩
 ·cases h
theorem z0q:∀(t:List (Nat×V)) (seen:List Nat) (i:Nat),look (z5j t seen) i=if seen.contains i then .un else look t i
 |[],seen,i=>by simp[z5j,look]
 |(k,v)::r,seen,i=>by
  unfold z5j;split
  ·rename_i hs
   rw[z0q r seen i];split
   ·rfl
   ·rename_i hi
    rw[zfb];split
    ·rename_i e;subst e;exact absurd hs hi
    ·rfl
  ·rename_i hs
   rw[zfb,z0q r (k::seen) i,zfb]
   by_cases e:k=i
   ·subst e;have hs':k∉seen:=by simpa using hs
    simp[hs,hs']
   ·have e':(i==k)=false:=by simp;exact fun h=>e h.symm
    simp only[Wcd,e',Bool.false_or,if_neg e]
theorem LoopSem.slim {n:Cf} {c:Code} {st:St} {Q:Ex->St->Prop} (h:LoopSem P n c st.slim Q):LoopSem P n c st Q:=by
 intro hok ctx a E hs
 exact h hok ctx a E ⟨hs.len,hs.hm,hs.defers,fun i=>by
  show VRel E (look (z5j st.t []) i) _
  rw[z0q];exact hs.tm i,hs.H,hs.rel,hs.tr⟩
theorem znh (hc:zni P call):∀(k:Nat) (n:Cf) (c:Code) (lab:Option Nat) (st:St) (e:Ex) (st':St),evC P call k n c lab st=some (e,st')->∀Q:Ex->St->Prop,Q e st'->match lab with
  |none=>awp P n c st Q
  |some l=>z9h P n c Q (.goto l) st
 |0,_,_,_,_,_,_,h,_,_=>by cases h
 |k+1,n,c,some l,st,e,st',h,Q,hq=>by
  simp only[evC]at h;split at h
  ·rename_i rest hf
   split at h
   ·rename_i hok
    refine⟨rest,hf,hok,zy6 hok ?_⟩;split at h
    ·rename_i l' st1 h1
     exact znh hc k n rest none st _ st1 h1 _ (znh hc k n c (some l') st1 e st' h Q hq)
    ·rename_i h1
     refine znh hc k n rest none st e st' h _ ?_
     cases e with
     |goto l'=>exact absurd h (h1 l' st')
     |_=>exact hq
   ·cases h
  ·cases h
 |k+1,n,c,none,st,e,st',h,Q,hq=>by
  show awp P n c st Q
  cases c with
  |skip=>simp only[evC]at h;obtain⟨rfl,rfl⟩:=WaO (Wab h);exact hq
  |label _=>simp only[evC]at h;obtain⟨rfl,rfl⟩:=WaO (Wab h);exact hq
  |region _ ops draw=>
   simp only[evC]at h
   cases draw with
   |true=>
    dsimp only at h;simp only[awp];split at h
    ·rename_i hf
     rw[hf];split at h
     ·rename_i hd
      simp only[Wan]at hd;split at h
      ·rename_i st1 h1
       obtain⟨rfl,rfl⟩:=WaO (Wab h);obtain⟨q1,S,Fl,FE,q2,q3⟩:=yfg hc h1 hq;exact⟨hd.1,hd.2,q1,S,Fl,FE,q2,q3⟩
      ·cases h
     ·cases h
    ·rename_i hf
     rw[hf];split at h
     ·rename_i hd
      simp only[Wan]at hd;split at h
      ·rename_i st1 h1
       obtain⟨rfl,rfl⟩:=WaO (Wab h);exact⟨hd.1,hd.2,zxu hc h1 hq⟩
      ·cases h
     ·cases h
   |false=>
    dsimp only at h;simp only[awp];split at h
    ·rename_i st1 h1
     obtain⟨rfl,rfl⟩:=WaO (Wab h);exact zzy hc h1 hq
    ·cases h
  |seq a b=>
   simp only[evC]at h;simp only[awp];split at h
   ·rename_i st1 h1
    exact znh hc k n a none st _ st1 h1 _ (znh hc k n b none st1 e st' h Q hq)
   ·rename_i h1
    refine znh hc k n a none st e st' h _ ?_
    cases e with
    |normal=>exact absurd h (h1 st')
    |_=>exact hq
  |cond x a b=>
   simp only[evC]at h;simp only[awp,z3j];split at h
   ·rename_i hx;rw[hx];exact⟨fun _=>znh hc k n a none st e st' h Q hq,fun e=>by cases e⟩
   ·rename_i hx;rw[hx];exact⟨fun e=>(by cases e),fun _=>znh hc k n b none st e st' h Q hq⟩
   ·cases h
  |block id b=>
   simp only[evC]at h;simp only[awp];split at h
   ·rename_i i st1 h1
    refine znh hc k n b none st _ st1 h1 _ ?_;simp only[z14];split at h
    ·rename_i hi
     obtain⟨rfl,rfl⟩:=WaO (Wab h);rw[if_pos hi];exact hq
    ·rename_i hi
     obtain⟨rfl,rfl⟩:=WaO (Wab h);rw[if_neg hi];exact hq
   ·rename_i h1
    refine znh hc k n b none st e st' h _ ?_
    cases e with
    |exit i=>exact absurd h (h1 i st')
    |_=>exact hq
  |loop b=>
   simp only[evC]at h;simp only[awp];refine LoopSem.slim (z0o ?_);split at h
   ·rename_i st1 h1
    exact znh hc k n b none _ _ st1 h1 _ (znh hc k n (.loop b) none st1 e st' h Q hq)
   ·rename_i h1
    refine znh hc k n b none _ e st' h _ ?_
    cases e with
    |normal=>exact absurd h (h1 st')
    |_=>exact hq
  |scope b=>
   simp only[evC]at h;simp only[awp];split at h
   ·rename_i l st1 h1
    exact znh hc k n b none st _ st1 h1 _ (znh hc k n b (some l) st1 e st' h Q hq)
   ·rename_i h1
    refine znh hc k n b none st e st' h _ ?_
    cases e with
    |goto l=>exact absurd h (h1 l st')
    |_=>exact hq
  |goto l=>simp only[evC]at h;obtain⟨rfl,rfl⟩:=WaO (Wab h);exact hq
  |exit id=>simp only[evC]at h;obtain⟨rfl,rfl⟩:=WaO (Wab h);exact hq
  |ret=>simp only[evC]at h;obtain⟨rfl,rfl⟩:=WaO (Wab h);exact hq
  |_=>simp only[evC]at h;cases h
theorem yan {st:St} {r:ResultVar} {x:V} (h:resB P st r=some x):∃p,zks P st.H st.t r=some (x,p)/\p:=by
 cases r with
 |tmp i=>simp only[resB]at h;obtain rfl:=Wab h;exact⟨True,rfl,trivial⟩
 |cell i ty=>
  simp only[resB]at h;simp only[zks];split at h
  ·rename_i c hl
   rw[hl];simp only;split at h
   ·rename_i g n row off p h1 h2
    rw[h1,h2];simp only;split at h
    ·rename_i hb
     obtain rfl:=Wab h;simp only[Wan,decide_eq_true_eq]at hb;exact⟨_,rfl,(z7f h2).1 hb.1,hb.2⟩
    ·cases h
   ·cases h
  ·cases h
theorem yam {st:St}:∀{rs:List ResultVar} {xs:List V},resL P st rs=some xs->∃ys,rs.mapM (zks P st.H st.t)=some ys/\(∀y∈ys,y.2)/\ys.map (·.1)=xs
 |[],xs,h=>by obtain rfl:=Wab h;exact⟨[],rfl,by simp,rfl⟩
 |r::rs,xs,h=>by
  simp only[resL]at h;split at h
  ·rename_i x ys hx hy
   obtain rfl:=Wab h;obtain⟨p,h1,h2⟩:=yan hx;obtain⟨zs,h3,h4,h5⟩:=yam hy;refine⟨(x,p)::zs,by simp[WbT,h1,h3],?_,by simp[h5]⟩;intro y hy
   rcases WaB.1 hy with rfl|hy
   ·exact h2
   ·exact h4 y hy
  ·cases h
theorem ycv {rs:List ResultVar} {st:St} {x:V} {K:V->List O->Prop} (h:endB P rs st=some x) (hk:K x st.H):resK P rs st K:=by
 unfold endB at h;unfold resK;split at h
 ·rename_i r
  obtain⟨p,h1,h2⟩:=yan h;simp only[h1];exact⟨h2,hk⟩
 ·rename_i hn
  split at h
  ·rename_i xs hx
   obtain rfl:=Wab h;obtain⟨ys,h1,h2,h3⟩:=yam hx;split
   ·rename_i r;exact absurd rfl (hn r)
   ·rw[h1]
    simp only;exact⟨h2,by rw[h3];exact hk⟩
  ·cases h
theorem z47 (hc:zni P call):zni P (z8e P call):=by
 intro g args H v H' h;unfold z8e at h;split at h
 ·rename_i fn hf
  split at h
  ·rename_i c hb
   split at h
   ·rename_i ho
    simp only[Wan,Wa4]at ho;refine zvl hf hb ho.1 ho.2 ?_;split at h
    ·rename_i st h1
     split at h
     ·rename_i x hx
      obtain⟨rfl,rfl⟩:=WaO (Wab h);exact znh hc _ _ _ none _ _ _ h1 _ (by simp only[endK];exact ycv hx ⟨rfl,rfl⟩)
     ·cases h
    ·rename_i st h1
     split at h
     ·rename_i x hx
      obtain⟨rfl,rfl⟩:=WaO (Wab h);exact znh hc _ _ _ none _ _ _ h1 _ (by simp only[endK];exact ycv hx ⟨rfl,rfl⟩)
     ·cases h
    ·cases h
   ·cases h
  ·cases h
 ·cases h
theorem ygl:∀k,zni P (evK P k)
 |0=>fun _ _ _ _ _ h=>by cases h
 |k+1=>z47 (ygl k)
def evKO (P:Program) (orc:z07):Nat->z07
 |0=>orc
 |k+1=>fun g args H=>match orc g args H with
  |some r=>some r
  |none=>z8e P (evKO P orc k) g args H
theorem ycn {orc:z07} (ho:zni P orc):∀k,zni P (evKO P orc k)
 |0=>ho
 |k+1=>by
  intro g args H v H' h;simp only[evKO]at h;split at h
  ·rename_i r hr
   obtain rfl:=Wab h;exact ho _ _ _ _ _ hr
  ·exact z47 (ycn ho k) _ _ _ _ _ h
theorem yax {orc:z07} (ho:zni P orc) (k:Nat) {g:FuncId} {args:List V} {x:V} (h:pcOf (evKO P orc k) g args=some x):Pu P g args x:=(z2s (ycn ho k) h).1
theorem z2q (k:Nat) {g:FuncId} {args:List V} {x:V} (h:pcOf (evK P k) g args=some x):Pu P g args x:=(z2s (ygl k) h).1
end
end Go.Lz

end
section
namespace Go.Lz
open Go.Proofs
set_option maxRecDepth 100000
theorem zp4 {f:FuncId} {fn:Func} {t s b:Nat} {rows:List (List C)} {H:List O} (hf:prog.funcs[f]? =some fn) (h:(∀r∈rows,r.length=s)/\rows.length*b<=140737488355328/\rows.length<=lim) (hb:fn.body=some (ygp t 4):=by rfl) (I:(tSl prog t).map (fun q=>(q.2.1,q.2.2,((tZ prog q.1).bind V.cs).map List.length))=some (s,b,some s):=by kernel_rfl) (hs:0<s:=by decide)
  (ab:(fn.name== "runtime.NumGoroutine")=false:=by kernel_rfl) (ae:fn.ntmps=8:=by rfl) (ad:fn.results= #[.tmp 2]:=by rfl):Ct prog f [.one (.sl rows)] H fun v H'=>v=ztl H rows/\H'=ztm H s rows:=by
 cases ht:tSl prog t with
 |none=>rw[ht]at I;cases I
 |some q=>
  obtain⟨e,s',b'⟩:=q;rw[ht]at I;simp only[Wbq,WaP,WbS]at I;obtain⟨rfl,rfl,I⟩:=I
  cases U:tZ prog e with
  |none=>simp[U]at I
  |some z=>
   rw[U]at I
   cases aa:z.cs with
   |none=>simp[aa]at I
   |some zs=>exact yfo hf hb ab ae ad ht U aa (by simpa [aa]using I) hs h.1 h.2.1 h.2.2
theorem zo8 {xs:List (List Int)} {H:List O} (h:24*xs.length<=140737488355328):Ct prog 56 [.one (.sl (xs.map (eL eI)))] H fun v H'=>v=.one (.msl H.length 0 0 xs.length)/\H'=H++[.cells 0 1 (xs.map (eL eI))]:=by
 have:=zp4 (H:=H) func56 (rows:=xs.map (eL eI)) (s:=1) (b:=24) (t:=32) ⟨fun r hr=>by obtain⟨x,_,rfl⟩:=Wau.1 hr;simp[go_sem],by simp;omega,by simp[lim];omega⟩
 simpa [ztl,ztm]using this
theorem zo9 {xs:List (A4 Int)} {H:List O} (h:32*xs.length<=140737488355328):Ct prog 57 [.one (.sl (xs.map (eA4 eI)))] H fun v H'=>v=.one (.msl H.length 0 0 xs.length)/\H'=H++[.cells 0 4 (xs.map (eA4 eI))]:=by
 have:=zp4 (H:=H) func57 (rows:=xs.map (eA4 eI)) (s:=4) (b:=32) (t:=33) ⟨fun r hr=>by obtain⟨x,_,rfl⟩:=Wau.1 hr;simp[go_sem],by simp;omega,by simp[lim];omega⟩
 simpa [ztl,ztm]using this
def zlg (s:List (Int)):Option (List (Int)):=need (8*s.length<=140737488355328) (some s)
theorem zje {xs:List (Int)} {H:List O} (h:8*xs.length<=140737488355328):Ct prog 58 [.one (.sl (xs.map eI))] H fun v H'=>v=.one (.msl H.length 0 0 xs.length)/\H'=H++[.cells 0 1 (xs.map eI)]:=by
 have:=zp4 (H:=H) func58 (rows:=xs.map eI) (s:=1) (b:=8) (t:=36) ⟨fun r hr=>by obtain⟨x,_,rfl⟩:=Wau.1 hr;simp[go_sem],by simp;omega,by simp[lim];omega⟩
 simpa [ztl,ztm]using this
theorem zry {s:List (Int)} {r:List (Int)} (h:zlg s=some r):Pu prog 58 [.one (.sl (s.map eI))] (.one (.sl (r.map eI))):=by
 obtain⟨h1,h2⟩:=z2u h;cases h2
 have e:(V.one (.msl 0 0 0 s.length)).view [O.cells 0 1 (s.map eI)]=.one (.sl (s.map eI)):=by simp[go_sem]
 have:=z7o (v:=.one (.msl 0 0 0 s.length)) (H':=[.cells 0 1 (s.map eI)]) (by simpa using zje (xs:=s) (H:=[]) h1) (by rw[e];simp[go_sem])
 rw[e]at this;exact this
theorem zlw {xs:List (xtz)} {H:List O} (h:16*xs.length<=140737488355328):Ct prog 59 [.one (.sl (xs.map xtu))] H fun v H'=>v=.one (.msl H.length 0 0 xs.length)/\H'=H++[.cells 0 2 (xs.map xtu)]:=by
 have:=zp4 (H:=H) func59 (rows:=xs.map xtu) (s:=2) (b:=16) (t:=37) ⟨fun r hr=>by obtain⟨x,_,rfl⟩:=Wau.1 hr;simp[go_sem],by simp;omega,by simp[lim];omega⟩
 simpa [ztl,ztm]using this
end Go.Lz

end
section
namespace Go.Lz
open Go.Proofs
set_option maxRecDepth 100000
def cloneTab:List (Nat×Nat×Nat):=[(56,1,24),(57,4,32),(58,1,8),(59,2,16)]
def orcC:z07:=fun g args H=>match args with
 |[.one (.sl rows)]=>match cloneTab.find? (fun p=>p.1==g)with
  |some (_,s,b)=>if(∀r∈rows,r.length=s)/\rows.length*b<=140737488355328/\rows.length<=lim then some (ztl H rows,ztm H s rows)else none
  |none=>none
 |_=>none
theorem yin:zni prog orcC:=by
 intro g args H v H' h;unfold orcC at h;split at h
 ·rename_i rows
  split at h
  ·rename_i U s b hf
   split at h
   ·rename_i hc
    obtain⟨rfl,rfl⟩:=WaO (Wab h)
    have hm:=List.mem_of_find?_eq_some hf
    have I:=List.find?_some hf
    simp only[beq_iff_eq]at I;subst I;simp only[cloneTab,WaB,WbS,List.not_mem_nil,or_false]at hm
    rcases hm with⟨rfl,rfl,rfl⟩|⟨rfl,rfl,rfl⟩|⟨rfl,rfl,rfl⟩|⟨rfl,rfl,rfl⟩
    ·exact zp4 func56 hc
    ·exact zp4 func57 hc
    ·exact zp4 func58 hc
    ·exact zp4 func59 hc
   ·cases h
  ·cases h
 ·cases h
def yf6:xtm:=⟨⟨[[108,111,119],[104,105,103,104]],[⟨0,1⟩]⟩,[],[⟨[104],⟨2,0,0⟩,0,1,0⟩],[],[]⟩
def ygo:xtn:=⟨8,0,0,[],[⟨1,1,2,[],[]⟩,⟨1,0,2,[],[]⟩]⟩
theorem ybw:Pu prog 149 [.agg (xtr yf6),.one (.sl (([1]:List Int).map eI)),.agg (xto ygo)] (.one (.int .i64 0)):=
 ybx (lr:=[1]) (z2q 20 (by kernel_rfl)) (z2q 20 (by kernel_rfl)) (z2q 20 (by kernel_rfl))
def yrx:List V:=[.agg (xtr yf6),.one (.sl (([1]:List Int).map eI)),.agg (xto ygo)]
def orcE:z07:=fun g args H=>match g==149&&H.isEmpty&&eqVs args yrx with
 |true=>some (.one (.int .i64 0),[])
 |false=>orcC g args H
theorem yim:zni prog orcE:=by
 intro g args H v H' h;unfold orcE at h;split at h
 ·rename_i hc
  simp only[Wan,beq_iff_eq,Wbr]at hc;obtain⟨⟨rfl,rfl⟩,h3⟩:=hc;obtain⟨rfl,rfl⟩:=WaO (Wab h);rw[ycq h3];exact ybw
 ·exact yin _ _ _ _ _ h
def zgp:Option Bool:=some true
theorem zj0 {r:Bool} (h:zgp=some r):Pu prog 9 [] (.one (.bool r)):=by
 obtain rfl:=Wab h;exact yax yim 40 (by kernel_rfl)
end Go.Lz

end
section
namespace Go.Lz
open Go.Proofs
attribute [-go_sem] zl6 g_b gd_b
set_option maxRecDepth 100000
set_option maxHeartbeats 4000000
noncomputable section
end
end Go.Lz

end
section
namespace Go.Lz
open Go.Proofs
attribute [-go_sem] zl6 g_b gd_b
set_option maxRecDepth 100000
set_option maxHeartbeats 4000000
noncomputable section
def zmg (p:xtm):((List Int)×Nat)->Option (((List Int)×Nat)⊕(List Int))
 |(I,U)=>if(U:Int)<(p.Blocks.length:Int)then((p.Blocks[U]?).bind fun aa=>need ((I.length+1)*8<=140737488355328) (some (.inl ((I++[aa.Label]),(U+1)))))else(some (.inr (I)))
def zob (p:xtm):((List Int)×Nat)->Option (((List Int)×Nat)⊕(List Int))
 |(I,U)=>if(U:Int)<(p.Vars.length:Int)then((p.Vars[U]?).bind fun aa=>need ((I.length+1)*8<=140737488355328) (some (.inl ((I++[aa.Label]),(U+1)))))else(some (.inr (I)))
def zoc (r_:xtt):((List (List Int))×Nat)->Option (((List (List Int))×Nat)⊕(List (List Int)))
 |(I,U)=>if(U:Int)<(r_.Memory.Cells.length:Int)then((I[U]?).bind fun aa=>(zlg aa).bind fun ab=>some (.inl ((I.set U ab),(U+1))))else(some (.inr (I)))
def zvj (p:xtm) (I:xtt) (e:xtn) (pc:Int):Option (Int×xtt):=
 need (24*I.Memory.Cells.length<=140737488355328) (need (32*I.Memory.Blocks.length<=140737488355328) ((loop (zoc I) (I.Memory.Cells,0)).bind (fun aa=>need (8*I.Left.length<=140737488355328) (need (8*I.Latches.length<=140737488355328) (need (16*I.Events.length<=140737488355328) ((loop (zob p) ([],0)).bind (fun ab=>(loop (zmg p) (ab,0)).bind (fun ad=>(zpk aa I.Memory.Blocks I.Left I.Latches I.Events I.Now p ad e pc).bind fun U=>some (U.1,(⟨(⟨aa,I.Memory.Blocks⟩:xt6),I.Left,U.2.1,U.2.2,I.Now⟩:xtt))))))))))
end
theorem z45 {p:xtm} {I:xtt} {e:xtn} {pc:Int} {r:Int×xtt} (h:zvj p I e pc=some r):
  Pu prog 10 [.agg (xtr p),.agg (xt9 I),.agg (xto e),.one (.int .i64 pc)] (.tup [.one (.int .i64 r.1),.agg (xt9 r.2)]):=by
 have F:=trivial;have R:=trivial
 refine pT func10 ?_;simp only[f10];unfold zvj at h;refine yqj ?_;refine tr ?_;intros;refine iS func31 ?_;simp only[f31];refine tt ?_
 first|refine⟨by kernel_rfl,[4],[4,5,6,8,9],[3,7],by kernel_rfl,?_⟩|refine⟨mo,zl5 (by kernel_rfl),by kernel_rfl,[4],[4,5,6,8,9],[3,7],by kernel_rfl,?_⟩
 refine tt ?_
 repeat (first|(with_reducible intro _)|((with_reducible refine zlr ?_ ?_);first|((with_reducible refine sq_i ?_);exact sq_)|exact ss))
 refine nd h F fun h F=>?_;refine cC8 (zo8 F.1) ?_;refine tt ?_
 repeat (first|(with_reducible intro _)|((with_reducible refine zlr ?_ ?_);first|((with_reducible refine sq_i ?_);exact sq_)|exact ss))
 refine nd h F fun h F=>?_;refine cC8 (zo9 F.1) ?_;refine tt ?_
 repeat (first|(with_reducible intro _)|((with_reducible refine zlr ?_ ?_);first|((with_reducible refine sq_i ?_);exact sq_)|exact ss))
 refine bi h fun U h aG=>?_;refine tr ?_;intros
 refine lX aG (fun|(aj,aq),_=>⟨[(1,.one (.ref 4 0 0 0)),(2,.one (.ref 5 0 0 0)),(19,.one (.msl 6 0 0 aj.length)),(20,.one (.int .i64 (I.Memory.Cells.length:Int))),(21,.one (.int .i64 (aq:Int)))],[.cells 0 6 [(eP_ p)],.cells 0 6 [[.sl (I.Memory.Cells.map (eL eI)),.sl (I.Memory.Blocks.map (eA4 eI)),.sl (I.Left.map eI),.sl (I.Latches.map eI),.sl (I.Events.map xtu),.int .i64 I.Now]],.cells 0 5 [[.int .i64 e.Op,.int .i64 e.N,.int .i64 e.Kind,.str e.Name,.sl (e.Args.map xto)]],.cells 0 6 [[.slf [],.slf [],.slf [],.slf [],.slf [],.int .i64 0]],.cells 0 6 [[.msl 6 0 0 aj.length,.msl 7 0 0 I.Memory.Blocks.length,.sl (I.Left.map eI),.sl (I.Latches.map eI),.sl (I.Events.map xtu),.int .i64 I.Now]],.cells 0 6 [[.slf [],.slf [],.slf [],.slf [],.slf [],.int .i64 0]],.cells 0 1 (aj.map (eL eI)),.cells 0 4 (I.Memory.Blocks.map (eA4 eI))]⟩) (fun|U,_=>⟨[(1,.one (.ref 4 0 0 0)),(2,.one (.ref 5 0 0 0))],[.cells 0 6 [(eP_ p)],.cells 0 6 [[.sl (I.Memory.Cells.map (eL eI)),.sl (I.Memory.Blocks.map (eA4 eI)),.sl (I.Left.map eI),.sl (I.Latches.map eI),.sl (I.Events.map xtu),.int .i64 I.Now]],.cells 0 5 [[.int .i64 e.Op,.int .i64 e.N,.int .i64 e.Kind,.str e.Name,.sl (e.Args.map xto)]],.cells 0 6 [[.slf [],.slf [],.slf [],.slf [],.slf [],.int .i64 0]],.cells 0 6 [[.msl 6 0 0 U.length,.msl 7 0 0 I.Memory.Blocks.length,.sl (I.Left.map eI),.sl (I.Latches.map eI),.sl (I.Events.map xtu),.int .i64 I.Now]],.cells 0 6 [[.slf [],.slf [],.slf [],.slf [],.slf [],.int .i64 0]],.cells 0 1 (U.map (eL eI)),.cells 0 4 (I.Memory.Blocks.map (eA4 eI))]⟩) (fun _=>some 0) ?_ ?_
 intro i6 b6 aO;obtain rfl:=Wab aO;obtain⟨⟩:=b6;dsimp only at h|-;refine tt ?_
 first|refine⟨by kernel_rfl,[4],[3,4,6,7,9],[2,5,8],by kernel_rfl,?_⟩|refine⟨mo,zl5 (by kernel_rfl),by kernel_rfl,[4],[3,4,6,7,9],[2,5,8],by kernel_rfl,?_⟩
 refine tt ?_
 repeat (first|(with_reducible intro _)|((with_reducible refine zlr ?_ ?_);first|((with_reducible refine sq_i ?_);exact sq_)|exact ss))
 refine nd h F fun h F=>?_;refine cC8 (zje F.1) ?_;refine tt ?_
 repeat (first|(with_reducible intro _)|((with_reducible refine zlr ?_ ?_);first|((with_reducible refine sq_i ?_);exact sq_)|exact ss))
 refine nd h F fun h F=>?_;refine cC8 (zje F.1) ?_;refine tt ?_
 repeat (first|(with_reducible intro _)|((with_reducible refine zlr ?_ ?_);first|((with_reducible refine sq_i ?_);exact sq_)|exact ss))
 refine nd h F fun h F=>?_;refine cC8 (zlw F.1) ?_;refine tt ?_
 repeat (first|(with_reducible intro _)|((with_reducible refine zlr ?_ ?_);first|((with_reducible refine sq_i ?_);exact sq_)|exact ss))
 refine tt ?_
 show Sem' _ _ _ _ _
 refine bi h fun an h aB=>?_;refine bi h fun aa h aC=>?_;refine cutF 4 [2] [2,3] [1] mo (by kernel_rfl) ?_;refine tt ?_
 repeat (first|(with_reducible intro _)|((with_reducible refine zlr ?_ ?_);first|((with_reducible refine sq_i ?_);exact sq_)|exact ss))
 refine iF (.one (.ref 12 0 0 0)) ([.cells 0 6 [(eP_ p)],.cells 0 6 [[.msl 6 0 0 U.length,.msl 7 0 0 I.Memory.Blocks.length,.msl 8 0 0 I.Left.length,.msl 9 0 0 I.Latches.length,.msl 10 0 0 I.Events.length,.int .i64 I.Now]],.cells 0 5 [[.int .i64 e.Op,.int .i64 e.N,.int .i64 e.Kind,.str e.Name,.sl (e.Args.map xto)]],.cells 0 6 [[.slf [],.slf [],.slf [],.slf [],.slf [],.int .i64 0]],.cells 0 6 [[.msl 6 0 0 U.length,.msl 7 0 0 I.Memory.Blocks.length,.msl 8 0 0 I.Left.length,.msl 9 0 0 I.Latches.length,.msl 10 0 0 I.Events.length,.int .i64 I.Now]],.cells 0 6 [[.msl 6 0 0 U.length,.msl 7 0 0 I.Memory.Blocks.length,.msl 8 0 0 I.Left.length,.msl 9 0 0 I.Latches.length,.msl 10 0 0 I.Events.length,.int .i64 I.Now]],.cells 0 1 (U.map (eL eI)),.cells 0 4 (I.Memory.Blocks.map (eA4 eI)),.cells 0 1 (I.Left.map eI),.cells 0 1 (I.Latches.map eI),.cells 0 2 (I.Events.map xtu),.cells 0 6 [(eP_ p)],.cells 0 8 [[.ref 1 0 0 0,.sl (p.Lattice.Names.map eS),.sl (p.Lattice.Below.map (eA2 eI)),.sl (p.Sites.map xtw),.sl (p.Vars.map xtx),.sl (p.Blocks.map xty),.sl (p.Tasks.map xt0),.msl 13 aa.length 0 aa.length]],.cells aa.length 1 (aa.map eI)]) func32 ?_ ?_
 ·simp only[f32]
  refine tr ?_;intros;refine yln 12 7 1 (by rfl) (by rfl) ?_
  refine lE (fun(av:(List Int)×Nat) (aw:Unit)=>match av,aw with|(ae,ar),_=>⟨[(2,.one (.ref 11 0 0 0)),(5,.one (.ref 12 0 0 0)),(15,.one (.sl (p.Vars.map xtx))),(16,.one (.int .i64 (p.Vars.length:Int))),(17,.one (.int .i64 (ar:Int)))],[.cells 0 6 [(eP_ p)],.cells 0 6 [[.msl 6 0 0 U.length,.msl 7 0 0 I.Memory.Blocks.length,.msl 8 0 0 I.Left.length,.msl 9 0 0 I.Latches.length,.msl 10 0 0 I.Events.length,.int .i64 I.Now]],.cells 0 5 [[.int .i64 e.Op,.int .i64 e.N,.int .i64 e.Kind,.str e.Name,.sl (e.Args.map xto)]],.cells 0 6 [[.slf [],.slf [],.slf [],.slf [],.slf [],.int .i64 0]],.cells 0 6 [[.msl 6 0 0 U.length,.msl 7 0 0 I.Memory.Blocks.length,.msl 8 0 0 I.Left.length,.msl 9 0 0 I.Latches.length,.msl 10 0 0 I.Events.length,.int .i64 I.Now]],.cells 0 6 [[.msl 6 0 0 U.length,.msl 7 0 0 I.Memory.Blocks.length,.msl 8 0 0 I.Left.length,.msl 9 0 0 I.Latches.length,.msl 10 0 0 I.Events.length,.int .i64 I.Now]],.cells 0 1 (U.map (eL eI)),.cells 0 4 (I.Memory.Blocks.map (eA4 eI)),.cells 0 1 (I.Left.map eI),.cells 0 1 (I.Latches.map eI),.cells 0 2 (I.Events.map xtu),.cells 0 6 [(eP_ p)],.cells 0 8 [[.ref 1 0 0 0,.sl (p.Lattice.Names.map eS),.sl (p.Lattice.Below.map (eA2 eI)),.sl (p.Sites.map xtw),.sl (p.Vars.map xtx),.sl (p.Blocks.map xty),.sl (p.Tasks.map xt0),.msl 13 ae.length 0 ae.length]],.cells ae.length 1 (ae.map eI)]⟩) (fun(ax:List Int) (ay:Unit)=>match ax,ay with|an,_=>⟨[(2,.one (.ref 11 0 0 0)),(5,.one (.ref 12 0 0 0))],[.cells 0 6 [(eP_ p)],.cells 0 6 [[.msl 6 0 0 U.length,.msl 7 0 0 I.Memory.Blocks.length,.msl 8 0 0 I.Left.length,.msl 9 0 0 I.Latches.length,.msl 10 0 0 I.Events.length,.int .i64 I.Now]],.cells 0 5 [[.int .i64 e.Op,.int .i64 e.N,.int .i64 e.Kind,.str e.Name,.sl (e.Args.map xto)]],.cells 0 6 [[.slf [],.slf [],.slf [],.slf [],.slf [],.int .i64 0]],.cells 0 6 [[.msl 6 0 0 U.length,.msl 7 0 0 I.Memory.Blocks.length,.msl 8 0 0 I.Left.length,.msl 9 0 0 I.Latches.length,.msl 10 0 0 I.Events.length,.int .i64 I.Now]],.cells 0 6 [[.msl 6 0 0 U.length,.msl 7 0 0 I.Memory.Blocks.length,.msl 8 0 0 I.Left.length,.msl 9 0 0 I.Latches.length,.msl 10 0 0 I.Events.length,.int .i64 I.Now]],.cells 0 1 (U.map (eL eI)),.cells 0 4 (I.Memory.Blocks.map (eA4 eI)),.cells 0 1 (I.Left.map eI),.cells 0 1 (I.Latches.map eI),.cells 0 2 (I.Events.map xtu),.cells 0 6 [(eP_ p)],.cells 0 8 [[.ref 1 0 0 0,.sl (p.Lattice.Names.map eS),.sl (p.Lattice.Below.map (eA2 eI)),.sl (p.Sites.map xtw),.sl (p.Vars.map xtx),.sl (p.Blocks.map xty),.sl (p.Tasks.map xt0),.msl 13 an.length 0 an.length]],.cells an.length 1 (an.map eI)]⟩) (fun(_:List Int)=>some 0) () aB ?_ ?_
  intro i17 a5 aH;obtain rfl:=Wab aH;dsimp only;refine tr ?_;intros
  refine lE (fun(av:(List Int)×Nat) (aw:Unit)=>match av,aw with|(af,au),_=>⟨[(5,.one (.ref 12 0 0 0)),(34,.one (.sl (p.Blocks.map xty))),(35,.one (.int .i64 (p.Blocks.length:Int))),(36,.one (.int .i64 (au:Int)))],[.cells 0 6 [(eP_ p)],.cells 0 6 [[.msl 6 0 0 U.length,.msl 7 0 0 I.Memory.Blocks.length,.msl 8 0 0 I.Left.length,.msl 9 0 0 I.Latches.length,.msl 10 0 0 I.Events.length,.int .i64 I.Now]],.cells 0 5 [[.int .i64 e.Op,.int .i64 e.N,.int .i64 e.Kind,.str e.Name,.sl (e.Args.map xto)]],.cells 0 6 [[.slf [],.slf [],.slf [],.slf [],.slf [],.int .i64 0]],.cells 0 6 [[.msl 6 0 0 U.length,.msl 7 0 0 I.Memory.Blocks.length,.msl 8 0 0 I.Left.length,.msl 9 0 0 I.Latches.length,.msl 10 0 0 I.Events.length,.int .i64 I.Now]],.cells 0 6 [[.msl 6 0 0 U.length,.msl 7 0 0 I.Memory.Blocks.length,.msl 8 0 0 I.Left.length,.msl 9 0 0 I.Latches.length,.msl 10 0 0 I.Events.length,.int .i64 I.Now]],.cells 0 1 (U.map (eL eI)),.cells 0 4 (I.Memory.Blocks.map (eA4 eI)),.cells 0 1 (I.Left.map eI),.cells 0 1 (I.Latches.map eI),.cells 0 2 (I.Events.map xtu),.cells 0 6 [(eP_ p)],.cells 0 8 [[.ref 1 0 0 0,.sl (p.Lattice.Names.map eS),.sl (p.Lattice.Below.map (eA2 eI)),.sl (p.Sites.map xtw),.sl (p.Vars.map xtx),.sl (p.Blocks.map xty),.sl (p.Tasks.map xt0),.msl 13 af.length 0 af.length]],.cells af.length 1 (af.map eI)]⟩) (fun(ax:List Int) (ay:Unit)=>match ax,ay with|aa,_=>⟨[(5,.one (.ref 12 0 0 0))],[.cells 0 6 [(eP_ p)],.cells 0 6 [[.msl 6 0 0 U.length,.msl 7 0 0 I.Memory.Blocks.length,.msl 8 0 0 I.Left.length,.msl 9 0 0 I.Latches.length,.msl 10 0 0 I.Events.length,.int .i64 I.Now]],.cells 0 5 [[.int .i64 e.Op,.int .i64 e.N,.int .i64 e.Kind,.str e.Name,.sl (e.Args.map xto)]],.cells 0 6 [[.slf [],.slf [],.slf [],.slf [],.slf [],.int .i64 0]],.cells 0 6 [[.msl 6 0 0 U.length,.msl 7 0 0 I.Memory.Blocks.length,.msl 8 0 0 I.Left.length,.msl 9 0 0 I.Latches.length,.msl 10 0 0 I.Events.length,.int .i64 I.Now]],.cells 0 6 [[.msl 6 0 0 U.length,.msl 7 0 0 I.Memory.Blocks.length,.msl 8 0 0 I.Left.length,.msl 9 0 0 I.Latches.length,.msl 10 0 0 I.Events.length,.int .i64 I.Now]],.cells 0 1 (U.map (eL eI)),.cells 0 4 (I.Memory.Blocks.map (eA4 eI)),.cells 0 1 (I.Left.map eI),.cells 0 1 (I.Latches.map eI),.cells 0 2 (I.Events.map xtu),.cells 0 6 [(eP_ p)],.cells 0 8 [[.ref 1 0 0 0,.sl (p.Lattice.Names.map eS),.sl (p.Lattice.Below.map (eA2 eI)),.sl (p.Sites.map xtw),.sl (p.Vars.map xtx),.sl (p.Blocks.map xty),.sl (p.Tasks.map xt0),.msl 13 aa.length 0 aa.length]],.cells aa.length 1 (aa.map eI)]⟩) (fun(_:List Int)=>some 2) () aC ?_ ?_
  intro i25 a7 aI;obtain rfl:=Wab aI;dsimp only;exact fin;intro aJ a8 aP aW a9 ab az aK;obtain⟨af,au⟩:=aP;dsimp only[zmg]at ab|-;refine fl ab F ?_ ?_<;>intro ab _ F;refine bx ab F fun aX ab aU F=>?_;refine tt ?_
  repeat (first|(with_reducible intro _)|refine⟨sb,?_⟩)
  refine⟨lt_ [0],?_⟩;refine nd ab F fun ab F=>?_;cases ab;refine tr ?_;intros;refine wn au F fun F=>?_;exact bk aK az (());cases ab;refine tt ?_;exact xt az aJ ();intro aL ba aQ aY bb ad aA aM;obtain⟨ae,ar⟩:=aQ;dsimp only[zob]at ad|-;refine fl ad F ?_ ?_<;>intro ad _ F;refine bx ad F fun aZ ad aV F=>?_;refine tt ?_
  repeat (first|(with_reducible intro _)|refine⟨sb,?_⟩)
  refine⟨lt_ [0],?_⟩;refine nd ad F fun ad F=>?_;cases ad;refine tr ?_;intros;refine wn ar F fun F=>?_;exact bk aM aA (());cases ad;refine tt ?_;exact xt aA aL ()
 refine tt ?_
 repeat (first|(with_reducible intro _)|((with_reducible refine zlr ?_ ?_);first|((with_reducible refine sq_i ?_);exact sq_)|exact ss))
 refine bi h fun ao h aD=>?_
 refine cLX8 [12,1,6,7,8,9,10,13] (.one (.int .i64 ao.1)) (fun aR:Nat×Nat=>match aR with|(ak,al)=>[.cells 0 6 [(eP_ p)],.cells 0 6 [[.msl 6 0 0 U.length,.msl 7 0 0 I.Memory.Blocks.length,.msl 8 0 0 I.Left.length,.msl 9 ak 0 ao.2.1.length,.msl 10 al 0 ao.2.2.length,.int .i64 I.Now]],.cells 0 5 [[.int .i64 e.Op,.int .i64 e.N,.int .i64 e.Kind,.str e.Name,.sl (e.Args.map xto)]],.cells 0 6 [[.slf [],.slf [],.slf [],.slf [],.slf [],.int .i64 0]],.cells 0 6 [[.msl 6 0 0 U.length,.msl 7 0 0 I.Memory.Blocks.length,.msl 8 0 0 I.Left.length,.msl 9 0 0 I.Latches.length,.msl 10 0 0 I.Events.length,.int .i64 I.Now]],.cells 0 6 [[.msl 6 0 0 U.length,.msl 7 0 0 I.Memory.Blocks.length,.msl 8 0 0 I.Left.length,.msl 9 0 0 I.Latches.length,.msl 10 0 0 I.Events.length,.int .i64 I.Now]],.cells 0 1 (U.map (eL eI)),.cells 0 4 (I.Memory.Blocks.map (eA4 eI)),.cells 0 1 (I.Left.map eI),.cells ak 1 (ao.2.1.map eI),.cells al 2 (ao.2.2.map xtu),.cells 0 6 [(eP_ p)],.cells 0 8 [[.ref 1 0 0 0,.sl (p.Lattice.Names.map eS),.sl (p.Lattice.Below.map (eA2 eI)),.sl (p.Sites.map xtw),.sl (p.Vars.map xtx),.sl (p.Blocks.map xty),.sl (p.Tasks.map xt0),.msl 13 aa.length 0 aa.length]],.cells aa.length 1 (aa.map eI)]) (zxt (w0:=0) (w1:=0) (w2:=0) (w3:=0) (w4:=0) (w5:=0) (w6:=0) (w7:=aa.length) aD) ?_
 rintro⟨ak,al⟩;dsimp only;refine tr ?_;intros;cases h;exact fin;intro aS m6 s6 a6 o6 ai aE aT;obtain⟨aj,aq⟩:=s6;obtain⟨⟩:=a6;dsimp only[zoc]at ai|-;refine fl ai F ?_ ?_<;>intro ai _ F;refine bx ai F fun bc ai a4 F=>?_;refine bi ai fun aF ai aN=>?_;refine tr ?_;intros;refine cD (zry aN) ?_
 have R:=And.intro (show(List.map (eL eI) aj).set aq [.sl (aF.map eI)]=List.map (eL eI) (aj.set aq aF) by simp[go_sem,WaL]) R
 cases ai;refine tr ?_;intros;refine wn aq F fun F=>?_;exact bk aT aE ();cases ai;refine tt ?_;exact xt aE aS ()
end Go.Lz

end
section
namespace Go.Lz
open Go.Proofs
attribute [-go_sem] zl6 g_b gd_b
set_option maxRecDepth 100000
set_option maxHeartbeats 4000000
noncomputable section
end
end Go.Lz

end
section
namespace Go.Lz
def zeroCells (vars:List xtv):List (List Int):=vars.map fun v=>List.replicate (zwq v.Type_) 0
theorem z5x (m:xt6):zfc m m=some true:=by
 unfold zfc
 rw[if_pos rfl,if_pos rfl,zox (fun i=>i) m.Cells.length (.inr ()) (fun i hi=>by
  have I:m.Cells[i]? =some m.Cells[i]:=Wac hi
  simp only[zfv];rw[if_pos (by omega),I,Waa,Waa,ygg]
  simp) (by simp[zfv]),Waa]
 simp only
 rw[zox (fun i=>i) m.Blocks.length (.inr ()) (fun i hi=>by
  have I:m.Blocks[i]? =some m.Blocks[i]:=Wac hi
  simp only[zfu];rw[if_pos (by omega),I,Waa,Waa]
  simp) (by simp[zfu]),Waa]
theorem z6d (l:List xtz):zfe l l=some true:=by
 unfold zfe
 rw[if_pos rfl,zox (fun i=>i) l.length (.inr ()) (fun i hi=>by
  have I:l[i]? =some l[i]:=Wac hi
  simp only[zfw];rw[if_pos (by omega),I,Waa,Waa]
  simp) (by simp[zfw]),Waa]
theorem yah (r:xtt):zhh r r=some true:=by
 unfold zhh;simp[z5x,z6d,ygg]
end Go.Lz

end
section
namespace Go.Lz
def LG (s t:RS):Prop:=t.1.length=s.1.length/\(∀(i:Nat) a,s.1[i]? =some a->a≠0->t.1[i]? =some a)/\s.2.length<=t.2.length
theorem LG.rfl {s:RS}:LG s s:=⟨by rfl,fun _ _ h _=>h,Wae _⟩
theorem LG.trans {s t u:RS} (h:LG s t) (k:LG t u):LG s u:=⟨by rw[k.1,h.1],fun i a ha h0=>k.2.1 i a (h.2.1 i a ha h0) h0,WaF h.2.2 k.2.2⟩
theorem LG.latch {s:RS} {j c:Int}:LG s (zxk s.1 j c,s.2):=by
 unfold zxk;split
 ·rename_i h
  refine⟨by simp,fun i a ha h0=>?_,Wae _⟩
  have:¬j.toNat=i:=fun e=>by rw[e,ha]at h;exact h0 (Wab h.2)
  simp only;rw[WaT this];exact ha
 ·exact LG.rfl
theorem LG.step {p:xtm} {labels:List Int} {pc:Int} {e:xtn} {v:Int×Int} {s:RS}:LG s (rO p labels pc e v s):=by
 unfold rO;split
 ·exact⟨by rfl,fun _ _ h _=>h,by simp⟩
 ·split
  ·exact LG.rfl
  ·exact LG.latch
mutual
theorem yav {p:xtm} {C:List (List Int)} {B:List (A4 Int)} {labels:List Int} {pc:Int}:∀(e:xtn) (s:RS),LG s (rE p C B labels pc e s)
 |⟨op,n,k,name,args⟩,s=>by
  rw[rE];exact(z7l args s).trans LG.step
theorem z7l {p:xtm} {C:List (List Int)} {B:List (A4 Int)} {labels:List Int} {pc:Int}:∀(l:List xtn) (s:RS),LG s (rEs p C B labels pc l s)
 |[],s=>by rw[rEs];exact LG.rfl
 |e::es,s=>by
  rw[rEs];exact(yav e s).trans (z7l es _)
end
def zko (p:xtm):List Int:=p.Vars.map (·.Label)++p.Blocks.map (·.Label)
noncomputable def ansN (p:xtm) (r:xtt) (e:xtn) (pc:Int):Int×xtt:=
 ((vE p r.Memory.Cells r.Memory.Blocks e).1,⟨r.Memory,r.Left,(rE p r.Memory.Cells r.Memory.Blocks (zko p) pc e (r.Latches,r.Events)).1,(rE p r.Memory.Cells r.Memory.Blocks (zko p) pc e (r.Latches,r.Events)).2,r.Now⟩)
structure RunP (p:xtm) (r:xtt):Prop where
 nc:r.Memory.Cells.length=p.Vars.length
 nb:r.Memory.Blocks.length=p.Blocks.length
 nl:r.Left.length<=1000
 nt:r.Latches.length<=1000
 ne:r.Events.length<=100000000
 cl:∀c∈r.Memory.Cells,c.length<=1000
theorem yff {p:xtm} (P:zlc p) {r:xtt} (R:RunP p r) {e:xtn} (g:GoodE e) (h0:zf5 p e≠0) (pc:Int):zvj p r e pc=some (ansN p r e pc):=by
 have h1:=P.nv;have h2:=P.nb;have h3:=R.nc;have h4:=R.nb;have h5:=R.nl;have h6:=R.nt;have h7:=R.ne;have h8:=g.sz;have h9:=g.dep
 unfold zvj;rw[zc9 (by omega),zc9 (by omega)]
 have e1:loop (zoc r) (r.Memory.Cells,0)=some r.Memory.Cells:=zox (fun i=>(r.Memory.Cells,i)) r.Memory.Cells.length r.Memory.Cells (fun i hi=>by
  have I:r.Memory.Cells[i]? =some r.Memory.Cells[i]:=Wac hi
  have hc:=R.cl _ (Wap hi)
  simp only[zoc];rw[if_pos (by omega),I,Waa];unfold zlg
  rw[zc9 (by omega),Waa,List.set_getElem_self]) (by simp only[zoc];rw[if_neg (by omega)])
 rw[e1,Waa,zc9 (by omega),zc9 (by omega),zc9 (by omega)]
 have e2:loop (zob p) ([],0)=some (p.Vars.map (·.Label)):=zox (fun i=>((p.Vars.take i).map (·.Label),i)) p.Vars.length (p.Vars.map (·.Label)) (fun i hi=>by
  have I:p.Vars[i]? =some p.Vars[i]:=Wac hi
  simp only[zob]
  rw[if_pos (by omega),I,Waa,zc9 (by rw[Waq,WaA];omega),zot hi,WbX];rfl) (by
  simp only[zob]
  rw[if_neg (by omega),WaZ (Wae _)])
 have e3:=zox (f:=zmg p) (fun i=>(p.Vars.map (·.Label)++(p.Blocks.take i).map (·.Label),i)) p.Blocks.length (zko p) (fun i hi=>by
  have I:p.Blocks[i]? =some p.Blocks[i]:=Wac hi
  simp only[zmg]
  rw[if_pos (by omega),I,Waa,zc9 (by rw[Wai,Waq,Waq,WaA];omega),zot hi,WbX,Wbl];rfl) (by
  simp only[zmg]
  rw[if_neg (by omega),WaZ (Wae _)];rfl)
 have U:loop (zmg p) (p.Vars.map (·.Label),0)=some (zko p):=by simpa using e3
 obtain⟨v1,_⟩:=z90 P h3 h4 (left:=r.Left) (labels:=zko p) (now:=r.Now) (pc:=pc) 1000000 e (by omega) g h0 (r.Latches,r.Events) (by simp only;omega)
 have v2:zpk r.Memory.Cells r.Memory.Blocks r.Left r.Latches r.Events r.Now p (zko p) e pc=_:=v1
 rw[e2,Waa,U,Waa,v2,Waa];rfl
theorem FitR.run {p:xtm} {r:xtt} (F:FitR p r):RunP p r:=by
 have h:=F.G.P.nl
 refine⟨F.nc,F.nb,by rw[F.nl];omega,by rw[F.nt];omega,by have:=F.ne;omega,fun c hc=>?_⟩;obtain⟨i,hi,rfl⟩:=Wbj hc
 have hv:i<p.Vars.length:=by rw[<-F.nc];exact hi
 have:=(F.cells i _ _ (Wac hv) (Wac hi)).1
 have:=yd2 p.Vars[i].Type_
 omega
theorem z6t:zgp=some true:=rfl
end Go.Lz

end
section
namespace Go.Lz
section
variable {R:xtm->xtn->Option (List Int)} {p:xtm} {e x y:xtn} {acc xs ys:List Int}
end
end Go.Lz

end
section
namespace Go.Lz
theorem z5p {p:xtm} (P:zlc p):zfd p=some (zko p):=by
 have h1:=P.nv;have h2:=P.nb
 unfold zfd
 have e2:=zox (f:=zcp p) (fun i=>((p.Vars.take i).map (·.Label),i)) p.Vars.length (p.Vars.map (·.Label)) (fun i hi=>by
  have I:p.Vars[i]? =some p.Vars[i]:=Wac hi
  simp only[zcp]
  rw[if_pos (by omega),I,Waa,zc9 (by rw[Waq,WaA];omega),zot hi,WbX];rfl) (by
  simp only[zcp]
  rw[if_neg (by omega),WaZ (Wae _)])
 have e3:=zox (f:=zco p) (fun i=>(p.Vars.map (·.Label)++(p.Blocks.take i).map (·.Label),i)) p.Blocks.length (zko p) (fun i hi=>by
  have I:p.Blocks[i]? =some p.Blocks[i]:=Wac hi
  simp only[zco]
  rw[if_pos (by omega),I,Waa,zc9 (by rw[Wai,Waq,Waq,WaA];omega),zot hi,WbX,Wbl];rfl) (by
  simp only[zco]
  rw[if_neg (by omega),WaZ (Wae _)];rfl)
 have U:loop (zco p) (p.Vars.map (·.Label),0)=some (zko p):=by simpa using e3
 have aa:loop (zcp p) ([],0)=some (p.Vars.map (·.Label)):=by simpa using e2
 rw[aa,Waa,U,Waa]
end Go.Lz

end
section
namespace Go.Lz
theorem finM {p:Prop} (h:p:=by
 (try simp-implicitDefEqProofs only[go_sem,simprocAttr,F,R])
 (all_goals (repeat (first|(with_reducible intro _)|(with_reducible refine zlr ?_ ?_;exact ss))))
 (all_goals (try (first|(with_reducible refine z2d (by kernel_rfl))|(with_reducible refine zl5 (by kernel_rfl))|omega|(simp[go_sem];omega)|simp[go_sem,F])))
 (all_goals (try omega))):p:=h
section
variable {P:Program} {n:Cf} {Fs:List Fr} {Q:Ex->St->Prop}
theorem yhu {f:FuncId} {args:List V} {H:List O} {K:V->List O->Prop} (i j sz:Nat) {cs:List C}
  (h:Ct P f (args.set i (.agg (cs.set j (.msl H.length 0 0 0)))) (H++[O.cells 0 sz []]) K)
  (ho:args[i]? =some (.agg cs):=by rfl) (hj:cs[j]? =some (.slf []):=by rfl):Ct P f args H K:=by
 refine⟨h.1,fun E vs hE hH hn hv=>?_⟩;subst hH;obtain⟨t',hh,hc⟩:=zzv hE sz _ rfl
 refine Calls.mono (h.2 ⟨E.w,E.Fr,fun i=>if i=E.H.length then⟨0,0,0⟩else E.bd i,E.H++[.cells 0 sz []]⟩ vs hh rfl (by rw[Wa7];exact hn) (fun k x hx=>?_)) ?_
 ·by_cases e:i=k
  ·subst e
   have hi:=(Wag.1 ho).1
   rw[WaU hi]at hx;cases hx;obtain⟨ws,e1,e2,e3⟩:=agg_inv (hv i _ ho);rw[e1];refine .agg (by rw[Wa7];exact e2) fun q c hq=>?_
   by_cases e':j=q
   ·subst e'
    have hq':=(Wag.1 hj).1
    rw[WaU hq']at hq;cases hq
    have:=e3 j _ hj
    cases this with
    |slf h0 hf=>
     obtain⟨a,ha⟩:=hf;rw[ha];exact hc a
   ·rw[WaT e']at hq
    exact(e3 q c hq).trans t'
  ·rw[WaT e]at hx
   exact(hv k x hx).trans t'
 ·rintro e w2 ⟨v,x,E2,h1,h2,h3,h4,h5,h6⟩
  exact⟨v,x,E2,h1,h2,h3,h4,h5,t'.trans h6⟩
theorem yhv {f:FuncId} {args:List V} {H:List O} {d:Option Nat} {S Fl FE:List Nat} {k:Nat} {rest:List Oper} {t:List (Nat×V)} (i j sz:Nat) {cs:List C}
  (h:CtF P n f (args.set i (.agg (cs.set j (.msl H.length 0 0 0)))) (H++[O.cells 0 sz []]) d S Fl FE k rest Fs t Q)
  (ho:args[i]? =some (.agg cs):=by rfl) (hj:cs[j]? =some (.slf []):=by rfl) (hk:FE.contains k=false:=by rfl):CtF P n f args H d S Fl FE k rest Fs t Q:=by
 obtain⟨x,H1,h1,h2,h3⟩:=h;refine⟨x,H1,yhu i j sz h1 ho hj,?_,?_⟩
 ·rw[hk];simp[flA]
 ·cases d<;>exact h3
end
end Go.Lz

end
section
namespace Go.Lz
open Go.Proofs
attribute [-go_sem] zl6 g_b gd_b
set_option maxRecDepth 100000
set_option maxHeartbeats 4000000
noncomputable section
def zgk (t:xt3) (cells:List Int) (i:Int):Option Int:=
 (zbr t).bind fun I=>if I=0 then((ze7 t).bind fun U=>if(cells.length:Int)=U then(if t.Len=0 then(some 0)else(if i<t.Low then(some (-1))else(if(w64 (t.Low+t.Len))<=i then(some (-1))else(some (w64 (i-t.Low))))))else(some (-1)))else(some (-1))
def zf1 (t:xt3) (cells:List Int) (i:Int):Option (Int×Int):=
 (zgk t cells i).bind fun I=>if I<0 then(some (0,2))else((idx cells I).bind fun U=>some (U,0))
def zfz (b:Bool):Option Int:=
 if b=true then(some 1)else(some 0)
def zan (kind:Int) (n:Int):Option Int:=
 (zba kind).bind fun U=>if U=0 then(some 0)else(if kind=1 then(if n=0 then(some 0)else(some 1))else((zbm kind).bind fun I=>need (¬(w64 (2*I))=0) (if(n.tmod (w64 (2*I)))<(w64 (0-I))then(if I<=(w64 ((n.tmod (w64 (2*I)))+(w64 (2*I))))then(some (w64 ((w64 ((n.tmod (w64 (2*I)))+(w64 (2*I))))-(w64 (2*I)))))else(some (w64 ((n.tmod (w64 (2*I)))+(w64 (2*I))))))else(if I<=(n.tmod (w64 (2*I)))then(some (w64 ((n.tmod (w64 (2*I)))-(w64 (2*I)))))else(some (n.tmod (w64 (2*I))))))))
def ziu (kind:Str) (s:A4 Int) (i:Int):Option Int:=
 (za5 kind).bind fun I=>if i<0 then(some 0)else(if(I.length:Int)<=i then(some 0)else(if kind=([67,84,85,68]:Str)then(if i=0 then((zfz (decide (s.a3<=s.a0))).bind fun U=>some U)else(if i=1 then((zfz (decide (s.a0<=0))).bind fun aa=>some aa)else((idx I i).bind fun ab=>(zan ab s.a0).bind fun ad=>some ad)))else(if i=0 then((zfz (!(decide (s.a0=0)))).bind fun ae=>some ae)else((idx I i).bind fun af=>(zan af s.a1).bind fun ai=>some ai))))
def ze6 (l:List Int) (i:Int) (n:Int):Option (List Int):=
 if l.isEmpty=true then none else(need (l.length*8<=140737488355328) ((idx l i).bind fun I=>some (l.set i.toNat n)))
def zi4 (p:xtm) (e:xtn):Option Int:=
 (zfd p).bind fun I=>(zb1 p I e).bind fun U=>some U
def zei (p:xtm) (e:xtn) (pc:Int):Option Int:=
 (zi4 p e).bind fun I=>(zcd p.Lattice pc I).bind fun U=>some U
def zek (op:Int) (kind:Int) (a:Int):Option Int:=
 (zag op kind).bind fun U=>if U=0 then(some 0)else((zan kind a).bind fun I=>if op=5 then((zan kind (w64 (0-I))).bind fun aa=>some aa)else(if op=6 then(if kind=1 then(some (w64 (1-I)))else((zan kind (w64 ((-1)-I))).bind fun ab=>some ab))else(some 0)))
def zb2 (b:Bool):Option Int:=
 if b=true then(some 1)else(some 0)
def zfq (op:Int) (kind:Int) (a:Int) (b:Int):Option (Int×Int):=
 if op=5 then(some (0,0))else(if op=6 then(some (0,0))else((zag op kind).bind fun ao=>if ao=0 then(some (0,0))else((zan kind a).bind fun U=>(zan kind b).bind fun I=>if op=7 then((zan kind (w64 (U*I))).bind fun aq=>some (aq,0))else(if op=10 then((zan kind (w64 (U+I))).bind fun ar=>some (ar,0))else(if op=11 then((zan kind (w64 (U-I))).bind fun au=>some (au,0))else(if op=8 then(if I=0 then(some (0,1))else(if op=9 then none else(need (¬I=0) ((zan kind (w64 (U.tdiv I))).bind fun av=>some (av,0)))))else(if op=9 then(if I=0 then(some (0,1))else(need (¬I=0) ((zan kind (U.tmod I)).bind fun aa=>some (aa,0))))else(if op=12 then((zb2 (decide (U=I))).bind fun ab=>some (ab,0))else(if op=13 then((zb2 (!(decide (U=I)))).bind fun ad=>some (ad,0))else(if op=14 then((zb2 (decide (U<I))).bind fun ae=>some (ae,0))else(if op=15 then((zb2 (decide (U<=I))).bind fun af=>some (af,0))else(if op=16 then((zb2 (decide (I<U))).bind fun ai=>some (ai,0))else(if op=17 then((zb2 (decide (I<=U))).bind fun aj=>some (aj,0))else(if op=18 then((zan kind (w64 (andI .i64 U I))).bind fun ak=>some (ak,0))else(if op=19 then((zan kind (w64 (xorI .i64 U I))).bind fun al=>some (al,0))else((zan kind (w64 (orI .i64 U I))).bind fun an=>some (an,0)))))))))))))))))
def zcg (aa:xtm->xtt->xtn->Int->Option (Int×xtt)) (p:xtm) (r_:xtt) (e:xtn) (pc:Int):Option (Int×xtt):=
 if e.Op=1 then(some (e.N,(⟨r_.Memory,r_.Left,r_.Latches,r_.Events,r_.Now⟩:xtt)))else(if e.Op=2 then((za0 p e.Name).bind fun ak=>(idx p.Vars ak).bind fun aD=>(idx r_.Memory.Cells ak).bind fun aE=>(zf1 aD.Type_ aE 0).bind fun aF=>some (aF.1,(⟨r_.Memory,r_.Left,r_.Latches,r_.Events,r_.Now⟩:xtt)))else(if e.Op=4 then((zbp p e.Name).bind fun al=>(idx p.Blocks al).bind fun aG=>(idx r_.Memory.Blocks al).bind fun aH=>(ziu aG.Kind aH e.N).bind fun aI=>some (aI,(⟨r_.Memory,r_.Left,r_.Latches,r_.Events,r_.Now⟩:xtt)))else((e.Args[0]?).bind fun ai=>(aa p (⟨r_.Memory,r_.Left,r_.Latches,r_.Events,r_.Now⟩:xtt) ai pc).bind fun I=>if e.Op=3 then((za0 p e.Name).bind fun aj=>(idx p.Vars aj).bind fun an=>(idx I.2.Memory.Cells aj).bind fun ao=>(zf1 an.Type_ ao I.1).bind fun ab=>if ab.2=0 then(some (ab.1,(⟨I.2.Memory,I.2.Left,I.2.Latches,I.2.Events,I.2.Now⟩:xtt)))else((zei p e pc).bind fun ae=>if ae<0 then(some (ab.1,(⟨I.2.Memory,I.2.Left,I.2.Latches,I.2.Events,I.2.Now⟩:xtt)))else(if(I.2.Latches.length:Int)<=ae then(some (ab.1,(⟨I.2.Memory,I.2.Left,I.2.Latches,I.2.Events,I.2.Now⟩:xtt)))else((idx I.2.Latches ae).bind fun aq=>if aq=0 then((ze6 I.2.Latches ae ab.2).bind fun ar=>some (ab.1,(⟨I.2.Memory,I.2.Left,ar,I.2.Events,I.2.Now⟩:xtt)))else(some (ab.1,(⟨I.2.Memory,I.2.Left,I.2.Latches,I.2.Events,I.2.Now⟩:xtt)))))))else(if e.Op=21 then((zcv p e.Name).bind fun au=>need ((I.2.Events.length+1)*16<=140737488355328) (some (I.1,(⟨I.2.Memory,I.2.Left,I.2.Latches,(I.2.Events++[(⟨au,I.1⟩:xtz)]),I.2.Now⟩:xtt))))else(if e.Op=5 then((zaj p ai).bind fun av=>(zek e.Op av I.1).bind fun aw=>some (aw,(⟨I.2.Memory,I.2.Left,I.2.Latches,I.2.Events,I.2.Now⟩:xtt)))else(if e.Op=6 then((zaj p ai).bind fun ax=>(zek e.Op ax I.1).bind fun ay=>some (ay,(⟨I.2.Memory,I.2.Left,I.2.Latches,I.2.Events,I.2.Now⟩:xtt)))else((e.Args[1]?).bind fun az=>(aa p (⟨I.2.Memory,I.2.Left,I.2.Latches,I.2.Events,I.2.Now⟩:xtt) az pc).bind fun U=>(zaj p ai).bind fun aA=>(zfq e.Op aA I.1 U.1).bind fun ad=>if ad.2=0 then(some (ad.1,(⟨U.2.Memory,U.2.Left,U.2.Latches,U.2.Events,U.2.Now⟩:xtt)))else((zei p e pc).bind fun af=>if af<0 then(some (ad.1,(⟨U.2.Memory,U.2.Left,U.2.Latches,U.2.Events,U.2.Now⟩:xtt)))else(if(U.2.Latches.length:Int)<=af then(some (ad.1,(⟨U.2.Memory,U.2.Left,U.2.Latches,U.2.Events,U.2.Now⟩:xtt)))else((idx U.2.Latches af).bind fun aB=>if aB=0 then((ze6 U.2.Latches af ad.2).bind fun aC=>some (ad.1,(⟨U.2.Memory,U.2.Left,aC,U.2.Events,U.2.Now⟩:xtt)))else(some (ad.1,(⟨U.2.Memory,U.2.Left,U.2.Latches,U.2.Events,U.2.Now⟩:xtt)))))))))))))
def zcf:Nat->(xtm->xtt->xtn->Int->Option (Int×xtt))
 |0=>fun _ _ _ _=>none
 |n+1=>zcg (zcf n)
def zto (n:Nat) (p:xtm) (I:xtt) (e:xtn) (pc:Int):Option (Int×xtt):=(zcf n) p I e pc
def zf7 (p:xtm) (I:xtt) (e:xtn) (pc:Int):Option (Int×xtt):=zto 1000000 p I e pc
end
theorem zsz {t:xt3} {cells:List Int} {i:Int} {r:Int} (h:zgk t cells i=some r):
  Pu prog 104 [.agg (xt7 t),.one (.sl (cells.map eI)),.one (.int .i64 i)] (.one (.int .i64 r)):=by
 have F:=trivial;have R:=trivial
 refine pA func104 ?_;simp only[f104];unfold zgk at h;refine bi h fun aa h I=>?_;refine tr ?_;intros;refine cS (zg9 I) ?_;refine fi h F ?_ ?_<;>intro h _ F;refine bi h fun ab h U=>?_;refine tr ?_;intros;refine cS (znf U) ?_;refine fi h F ?_ ?_<;>intro h _ F;refine fi h F ?_ ?_<;>intro h _ F;cases h;exact fin;refine tt ?_;refine fi h F ?_ ?_<;>intro h _ F;cases h;exact fin;refine tt ?_
 refine fi h F ?_ ?_<;>intro h _ F;cases h;exact fin;cases h;exact fin;cases h;exact fin;cases h;exact fin
theorem zn8 {t:xt3} {cells:List Int} {i:Int} {r:Int×Int} (h:zf1 t cells i=some r):
  Pu prog 69 [.agg (xt7 t),.one (.sl (cells.map eI)),.one (.int .i64 i)] (.tup [.one (.int .i64 r.1),.one (.int .i64 r.2)]):=by
 have F:=trivial;have R:=trivial
 refine pA func69 ?_;simp only[f69];unfold zf1 at h;refine bi h fun aa h I=>?_;refine tr ?_;intros;refine cS (zsz I) ?_;refine fi h F ?_ ?_<;>intro h _ F;cases h;exact fin;refine by_ h F fun ab h U F=>?_;cases h;exact fin
theorem zk1 {b:Bool} {r:Int} (h:zfz b=some r):
  Pu prog 105 [.one (.bool b)] (.one (.int .i64 r)):=by
 have F:=trivial;have R:=trivial
 refine pA func105 ?_;simp only[f105];unfold zfz at h;refine fv h F ?_ ?_<;>intro h _ F;cases h;exact fin;cases h;exact fin
theorem zap {kind:Int} {n:Int} {r:Int} (h:zan kind n=some r):
  Pu prog 106 [.one (.int .i64 kind),.one (.int .i64 n)] (.one (.int .i64 r)):=by
 have F:=trivial;have R:=trivial
 refine pA func106 ?_;simp only[f106];unfold zan at h;refine bi h fun aa h I=>?_;refine tr ?_;intros;refine cS (zii I) ?_;refine fi h F ?_ ?_<;>intro h _ F;cases h;exact fin;refine fi h F ?_ ?_<;>intro h _ F;refine fi h F ?_ ?_<;>intro h _ F;cases h;exact fin;cases h;exact fin;refine bi h fun ab h U=>?_;refine tr ?_;intros;refine cS (zkl U) ?_;refine nd h F fun h F=>?_;refine tr ?_
 intros;refine fi h F ?_ ?_<;>intro h _ F;refine tt ?_;refine fi h F ?_ ?_<;>intro h _ F;cases h;exact fin;cases h;exact fin;refine fi h F ?_ ?_<;>intro h _ F;cases h;exact fin;cases h;exact fin
theorem zu2 {kind:Str} {s:A4 Int} {i:Int} {r:Int} (h:ziu kind s i=some r):
  Pu prog 70 [.one (.str kind),.agg ((eA4 eI) s),.one (.int .i64 i)] (.one (.int .i64 r)):=by
 have F:=trivial;have R:=trivial
 refine pA func70 ?_;simp only[f70];unfold ziu at h;refine bi h fun aj h I=>?_;refine tr ?_;intros;refine cS (zlp I) ?_;refine fi h F ?_ ?_<;>intro h _ F;cases h;exact fin;refine tr ?_;intros;refine fi h F ?_ ?_<;>intro h _ F;cases h;exact fin;refine fi h F ?_ ?_<;>intro h _ F;refine fi h F ?_ ?_<;>intro h _ F;refine bi h fun ak h U=>?_;refine tr ?_;intros;refine cS (zk1 U) ?_;cases h;exact fin
 refine tt ?_;refine fi h F ?_ ?_<;>intro h _ F;refine bi h fun al h aa=>?_;refine tr ?_;intros;refine cS (zk1 aa) ?_;cases h;exact fin;refine by_ h F fun an h af F=>?_;refine bi h fun ao h ab=>?_;refine tr ?_;intros;refine cD (zap ab) ?_;cases h;exact fin;refine fi h F ?_ ?_<;>intro h _ F;refine bi h fun aq h ad=>?_;refine tr ?_;intros;refine cS (zk1 ad) ?_;cases h;exact fin;refine by_ h F fun ar h ai F=>?_
 refine bi h fun au h ae=>?_;refine tr ?_;intros;refine cD (zap ae) ?_;cases h;exact fin
theorem zm9 {l:List Int} {i:Int} {n:Int} {r:List Int} (h:ze6 l i n=some r):
  Pu prog 107 [.one (.sl (l.map eI)),.one (.int .i64 i),.one (.int .i64 n)] (.one (.sl (r.map eI))):=by
 have F:=trivial;have R:=trivial
 refine pA func107 ?_;simp only[f107];unfold ze6 at h;refine tr ?_;intros;refine fv h F ?_ ?_<;>intro h _ F;cases h;refine nd h F fun h F=>?_;refine by_ h F fun U h I F=>?_
 have R:=And.intro (show(List.map eI l).set i.toNat [.int .i64 n]=List.map eI (l.set i.toNat n) by simp[go_sem,WaL]) R
 cases h;exact finE
theorem zsd {p:xtm} {e:xtn} {r:Int} (h:zi4 p e=some r):
  Pu prog 108 [.agg (xtr p),.agg (xto e)] (.one (.int .i64 r)):=by
 have F:=trivial;have R:=trivial
 refine pA func108 ?_;simp only[f108];unfold zi4 at h;refine bi h fun aa h I=>?_;refine tr ?_;intros;refine cD (zq7 I) ?_;refine bi h fun ab h U=>?_;refine tr ?_;intros;refine cD (zsl U) ?_;cases h;exact fin
theorem zmr {p:xtm} {e:xtn} {pc:Int} {r:Int} (h:zei p e pc=some r):
  Pu prog 72 [.agg (xtr p),.agg (xto e),.one (.int .i64 pc)] (.one (.int .i64 r)):=by
 have F:=trivial;have R:=trivial
 refine pA func72 ?_;simp only[f72];unfold zei at h;refine tt ?_
 first|refine⟨by kernel_rfl,[0],[0,1,2],[5],by kernel_rfl,?_⟩|refine⟨mo,zl5 (by kernel_rfl),by kernel_rfl,[0],[0,1,2],[5],by kernel_rfl,?_⟩
 refine bi h fun aa h I=>?_;refine tt ?_
 repeat (first|(with_reducible intro _)|((with_reducible refine zlr ?_ ?_);first|((with_reducible refine sq_i ?_);exact sq_)|exact ss))
 refine cU (zsd I) ?_;refine bi h fun ab h U=>?_;refine tt ?_
 repeat (first|(with_reducible intro _)|((with_reducible refine zlr ?_ ?_);first|((with_reducible refine sq_i ?_);exact sq_)|exact ss))
 refine cU (ze1 U) ?_;refine tt ?_
 repeat (first|(with_reducible intro _)|((with_reducible refine zlr ?_ ?_);first|((with_reducible refine sq_i ?_);exact sq_)|exact ss))
 cases h;exact fin
theorem zmy {op:Int} {kind:Int} {a:Int} {r:Int} (h:zek op kind a=some r):
  Pu prog 74 [.one (.int .i64 op),.one (.int .i64 kind),.one (.int .i64 a)] (.one (.int .i64 r)):=by
 have F:=trivial;have R:=trivial
 refine pA func74 ?_;simp only[f74];unfold zek at h;refine bi h fun ad h I=>?_;refine tr ?_;intros;refine cS (zf2 I) ?_;refine fi h F ?_ ?_<;>intro h _ F;cases h;exact fin;refine bi h fun ae h U=>?_;refine tr ?_;intros;refine cS (zap U) ?_;refine fi h F ?_ ?_<;>intro h _ F;refine bi h fun af h aa=>?_;refine tr ?_;intros;refine cS (zap aa) ?_;cases h;exact fin;refine fi h F ?_ ?_<;>intro h _ F
 refine tt ?_;refine fi h F ?_ ?_<;>intro h _ F;cases h;exact fin;refine bi h fun ai h ab=>?_;refine tr ?_;intros;refine cS (zap ab) ?_;cases h;exact fin;cases h;exact fin
theorem zc6 {b:Bool} {r:Int} (h:zb2 b=some r):
  Pu prog 109 [.one (.bool b)] (.one (.int .i64 r)):=by
 have F:=trivial;have R:=trivial
 refine pA func109 ?_;simp only[f109];unfold zb2 at h;refine fv h F ?_ ?_<;>intro h _ F;cases h;exact fin;cases h;exact fin
theorem zro {op:Int} {kind:Int} {a:Int} {b:Int} {r:Int×Int} (h:zfq op kind a b=some r):
  Pu prog 75 [.one (.int .i64 op),.one (.int .i64 kind),.one (.int .i64 a),.one (.int .i64 b)] (.tup [.one (.int .i64 r.1),.one (.int .i64 r.2)]):=by
 have F:=trivial;have R:=trivial
 refine pA func75 ?_;simp only[f75];unfold zfq at h;refine fi h F ?_ ?_<;>intro h _ F;cases h;exact fin;refine tt ?_;refine fi h F ?_ ?_<;>intro h _ F;cases h;exact fin;refine bi h fun aG h al=>?_;refine tr ?_;intros;refine cS (zf2 al) ?_;refine fi h F ?_ ?_<;>intro h _ F;cases h;exact fin;refine bi h fun aH h an=>?_;refine tr ?_;intros;refine cS (zap an) ?_;refine bi h fun aI h ao=>?_
 refine tr ?_;intros;refine cS (zap ao) ?_;refine fi h F ?_ ?_<;>intro h _ F;refine bi h fun aJ h aq=>?_;refine tr ?_;intros;refine cS (zap aq) ?_;cases h;exact fin;refine tt ?_;refine fi h F ?_ ?_<;>intro h _ F;refine bi h fun aK h ar=>?_;refine tr ?_;intros;refine cS (zap ar) ?_;cases h;exact fin;refine fi h F ?_ ?_<;>intro h _ F;refine bi h fun aL h au=>?_;refine tr ?_;intros;refine cS (zap au) ?_
 cases h;exact fin;refine fi h F ?_ ?_<;>intro h _ F;refine fi h F ?_ ?_<;>intro h _ F;cases h;exact fin;refine tt ?_;refine fi h F ?_ ?_<;>intro h _ F;exact(by omega:False).elim;refine nd h F fun h F=>?_;refine bi h fun aM h av=>?_;refine tr ?_;intros;refine cS (zap av) ?_;cases h;exact fin;refine fi h F ?_ ?_<;>intro h _ F;refine tt ?_;refine fi h F ?_ ?_<;>intro h _ F;cases h;exact fin
 refine nd h F fun h F=>?_;refine bi h fun aw h I=>?_;refine tr ?_;intros;refine cS (zap I) ?_;cases h;exact fin;refine tt ?_;refine fi h F ?_ ?_<;>intro h _ F;refine bi h fun ax h U=>?_;refine tr ?_;intros;refine cS (zc6 U) ?_;cases h;exact fin;refine fi h F ?_ ?_<;>intro h _ F;refine bi h fun ay h aa=>?_;refine tr ?_;intros;refine cS (zc6 aa) ?_;cases h;exact fin;refine fi h F ?_ ?_<;>intro h _ F
 refine bi h fun az h ab=>?_;refine tr ?_;intros;refine cS (zc6 ab) ?_;cases h;exact fin;refine fi h F ?_ ?_<;>intro h _ F;refine bi h fun aA h ad=>?_;refine tr ?_;intros;refine cS (zc6 ad) ?_;cases h;exact fin;refine tt ?_;refine fi h F ?_ ?_<;>intro h _ F;refine bi h fun aB h ae=>?_;refine tr ?_;intros;refine cS (zc6 ae) ?_;cases h;exact fin;refine fi h F ?_ ?_<;>intro h _ F;refine bi h fun aC h af=>?_
 refine tr ?_;intros;refine cS (zc6 af) ?_;cases h;exact fin;refine fi h F ?_ ?_<;>intro h _ F;refine bi h fun aD h ai=>?_;refine tr ?_;intros;refine cS (zap ai) ?_;cases h;exact fin;refine fi h F ?_ ?_<;>intro h _ F;refine bi h fun aE h aj=>?_;refine tr ?_;intros;refine cS (zap aj) ?_;cases h;exact fin;refine bi h fun aF h ak=>?_;refine tr ?_;intros;refine cS (zap ak) ?_;cases h;exact fin
theorem z3o {R:xtm->xtt->xtn->Int->Option (Int×xtt)} (U:∀p I e pc r,R p I e pc=some r->I.Events.length<=r.2.Events.length) {p:xtm} {I:xtt} {e:xtn} {pc:Int} {r:Int×xtt} (h:zcg R p I e pc=some r):I.Events.length<=r.2.Events.length:=by
 unfold zcg at h
 have F:=trivial
 repeat' (first
  |((with_reducible refine fi h F ?_ ?_)<;>intro h _ _)
  |(with_reducible refine nd h F fun h _=>?_)
  |(with_reducible refine bi h fun a h h1=>?_;(try (have m:=U _ _ _ _ _ h1;dsimp only at m));clear h1)
  |((with_reducible obtain rfl:=Wab h);dsimp only;(try simp only[Wai,Waj,Wam]);omega))
theorem zyz:∀(n:Nat) (p:xtm) (I:xtt) (e:xtn) (pc:Int) (r:Int×xtt),zcf n p I e pc=some r->I.Events.length<=r.2.Events.length
 |0,_,_,_,_,_,h=>by cases h
 |n+1,p,I,e,pc,r,h=>z3o (fun p I e pc r h=>zyz n p I e pc r h) h
theorem zqb {U:xtm->xtt->xtn->Int->Option (Int×xtt)}
  (aa:∀(w0:Nat) (p:xtm) (r_:xtt) (e:xtn) (pc:Int) (r:Int×xtt),U p r_ e pc=some r->Ct prog 34 [.agg (xtr p),.agg [.sl (r_.Memory.Cells.map (eL eI)),.sl (r_.Memory.Blocks.map (eA4 eI)),.sl (r_.Left.map eI),.sl (r_.Latches.map eI),.msl 0 w0 0 r_.Events.length,.int .i64 r_.Now],.agg (xto e),.one (.int .i64 pc)] [.cells w0 2 (r_.Events.map xtu)] (fun ai aj=>ai=.tup [.one (.int .i64 r.1),.agg [.sl (r.2.Memory.Cells.map (eL eI)),.sl (r.2.Memory.Blocks.map (eA4 eI)),.sl (r.2.Left.map eI),.sl (r.2.Latches.map eI),.msl 0 (w0+(r.2.Events.length-r_.Events.length)) 0 r.2.Events.length,.int .i64 r.2.Now]]/\aj=[.cells (w0+(r.2.Events.length-r_.Events.length)) 2 (r.2.Events.map xtu)]))
  (ad:∀{p:xtm} {r_:xtt} {e:xtn} {pc:Int} {r:Int×xtt},U p r_ e pc=some r->r_.Events.length<=r.2.Events.length):
  ∀(w0:Nat) (p:xtm) (r_:xtt) (e:xtn) (pc:Int) (r:Int×xtt),zcg U p r_ e pc=some r->Ct prog 34 [.agg (xtr p),.agg [.sl (r_.Memory.Cells.map (eL eI)),.sl (r_.Memory.Blocks.map (eA4 eI)),.sl (r_.Left.map eI),.sl (r_.Latches.map eI),.msl 0 w0 0 r_.Events.length,.int .i64 r_.Now],.agg (xto e),.one (.int .i64 pc)] [.cells w0 2 (r_.Events.map xtu)] (fun ai aj=>ai=.tup [.one (.int .i64 r.1),.agg [.sl (r.2.Memory.Cells.map (eL eI)),.sl (r.2.Memory.Blocks.map (eA4 eI)),.sl (r.2.Left.map eI),.sl (r.2.Latches.map eI),.msl 0 (w0+(r.2.Events.length-r_.Events.length)) 0 r.2.Events.length,.int .i64 r.2.Now]]/\aj=[.cells (w0+(r.2.Events.length-r_.Events.length)) 2 (r.2.Events.map xtu)]):=by
 intro w0 p r_ e pc r h
 have F:=trivial;have R:=trivial
 refine pAL func34 ?_;simp only[f34];unfold zcg at h;refine tt ?_;refine fi h F ?_ ?_<;>intro h _ F;cases h;exact finM;refine fi h F ?_ ?_<;>intro h _ F;refine bi h fun bb h aB=>?_;refine tr ?_;intros;refine cS (za1 aB) ?_;refine by_ h F fun bc h aK F=>?_;refine by_ h F fun bf h aL F=>?_;refine bi h fun bg h aC=>?_;refine tr ?_;intros;refine cD (zn8 aC) ?_;cases h;exact finM;refine fi h F ?_ ?_<;>intro h _ F
 refine bi h fun bh h aD=>?_;refine tr ?_;intros;refine cS (zcb aD) ?_;refine by_ h F fun bj h aM F=>?_;refine by_ h F fun bl h aN F=>?_;refine bi h fun bm h aE=>?_;refine tr ?_;intros;refine cD (zu2 aE) ?_;cases h;exact finM;refine tt ?_
 first|refine⟨by kernel_rfl,[],[],[],by kernel_rfl,?_⟩|refine⟨mo,zl5 (by kernel_rfl),by kernel_rfl,[],[],[],by kernel_rfl,?_⟩
 refine bx h F fun bn h aO F=>?_;refine tt ?_
 repeat (first|(with_reducible intro _)|((with_reducible refine zlr ?_ ?_);first|((with_reducible refine sq_i ?_);exact sq_)|exact ss))
 refine bi h fun I h ae=>?_
 have F:=And.intro (show r_.Events.length<=I.2.Events.length from ad ae) F
 refine cL8 [0] (.tup [.one (.int .i64 I.1),.agg [.sl (I.2.Memory.Cells.map (eL eI)),.sl (I.2.Memory.Blocks.map (eA4 eI)),.sl (I.2.Left.map eI),.sl (I.2.Latches.map eI),.msl 0 (w0+(I.2.Events.length-r_.Events.length)) 0 I.2.Events.length,.int .i64 I.2.Now]]) [.cells (w0+(I.2.Events.length-r_.Events.length)) 2 (I.2.Events.map xtu),.cells 0 6 [(eP_ p)],.cells 0 6 [[.sl (r_.Memory.Cells.map (eL eI)),.sl (r_.Memory.Blocks.map (eA4 eI)),.sl (r_.Left.map eI),.sl (r_.Latches.map eI),.msl 0 w0 0 r_.Events.length,.int .i64 r_.Now]],.cells 0 5 [[.int .i64 e.Op,.int .i64 e.N,.int .i64 e.Kind,.str e.Name,.sl (e.Args.map xto)]],.cells 0 6 [[.slf [],.slf [],.slf [],.slf [],.slf [],.int .i64 0]]] (aa w0 _ _ _ _ _ ae) ?_
 refine tt ?_
 repeat (first|(with_reducible intro _)|((with_reducible refine zlr ?_ ?_);first|((with_reducible refine sq_i ?_);exact sq_)|exact ss))
 refine fi h F ?_ ?_<;>intro h _ F;refine bi h fun aP h ak=>?_;refine tr ?_;intros;refine cS (za1 ak) ?_;refine by_ h F fun aQ h aF F=>?_;refine by_ h F fun aR h aG F=>?_;refine bi h fun aS h al=>?_;refine tr ?_;intros;refine cD (zn8 al) ?_;refine tr ?_;intros;refine fi h F ?_ ?_<;>intro h _ F;cases h;exact finM;refine bi h fun aT h an=>?_;refine tr ?_;intros;refine cD (zmr an) ?_;refine tr ?_
 intros;refine iS func71 ?_;simp only[f71];refine fi h F ?_ ?_<;>intro h _ F;cases h;exact finM;refine tr ?_;intros;refine fi h F ?_ ?_<;>intro h _ F;cases h;exact finM;refine by_ h F fun aU h aH F=>?_;refine tr ?_;intros;refine fi h F ?_ ?_<;>intro h _ F;refine bi h fun aV h ao=>?_;refine tr ?_;intros;refine cS (zm9 ao) ?_;cases h;exact finM;cases h;exact finM;refine fi h F ?_ ?_<;>intro h _ F
 refine bi h fun aW h aq=>?_;refine tr ?_;intros;refine cD (zex aq) ?_;refine tt ?_
 repeat (first|(with_reducible intro _)|refine⟨sb,?_⟩)
 refine⟨lt_ [0],?_⟩;refine tr ?_;intros;refine iS func73 ?_;simp only[f73];refine nd h F fun h F=>?_;cases h;exact finM;refine tt ?_;refine fi h F ?_ ?_<;>intro h _ F;refine bi h fun aX h ar=>?_;refine tr ?_;intros;refine cD (za4 ar) ?_;refine bi h fun aY h au=>?_;refine tr ?_;intros;refine cD (zmy au) ?_;cases h;exact finM;refine fi h F ?_ ?_<;>intro h _ F;refine bi h fun aZ h av=>?_
 refine tr ?_;intros;refine cD (za4 av) ?_;refine bi h fun a4 h aw=>?_;refine tr ?_;intros;refine cD (zmy aw) ?_;cases h;exact finM;refine tt ?_
 first|refine⟨by kernel_rfl,[],[],[],by kernel_rfl,?_⟩|refine⟨mo,zl5 (by kernel_rfl),by kernel_rfl,[],[],[],by kernel_rfl,?_⟩
 refine bx h F fun a5 h aI F=>?_;refine tt ?_
 repeat (first|(with_reducible intro _)|((with_reducible refine zlr ?_ ?_);first|((with_reducible refine sq_i ?_);exact sq_)|exact ss))
 refine bi h fun ab h af=>?_
 have F:=And.intro (show I.2.Events.length<=ab.2.Events.length from ad af) F
 refine cL8 [0] (.tup [.one (.int .i64 ab.1),.agg [.sl (ab.2.Memory.Cells.map (eL eI)),.sl (ab.2.Memory.Blocks.map (eA4 eI)),.sl (ab.2.Left.map eI),.sl (ab.2.Latches.map eI),.msl 0 ((w0+(I.2.Events.length-r_.Events.length))+(ab.2.Events.length-I.2.Events.length)) 0 ab.2.Events.length,.int .i64 ab.2.Now]]) [.cells ((w0+(I.2.Events.length-r_.Events.length))+(ab.2.Events.length-I.2.Events.length)) 2 (ab.2.Events.map xtu),.cells 0 6 [(eP_ p)],.cells 0 6 [[.sl (I.2.Memory.Cells.map (eL eI)),.sl (I.2.Memory.Blocks.map (eA4 eI)),.sl (I.2.Left.map eI),.sl (I.2.Latches.map eI),.msl 0 (w0+(I.2.Events.length-r_.Events.length)) 0 I.2.Events.length,.int .i64 I.2.Now]],.cells 0 5 [[.int .i64 e.Op,.int .i64 e.N,.int .i64 e.Kind,.str e.Name,.sl (e.Args.map xto)]],.cells 0 6 [[.slf [],.slf [],.slf [],.slf [],.slf [],.int .i64 0]]] (aa (w0+(I.2.Events.length-r_.Events.length)) _ _ _ _ _ af) ?_
 refine tt ?_
 repeat (first|(with_reducible intro _)|((with_reducible refine zlr ?_ ?_);first|((with_reducible refine sq_i ?_);exact sq_)|exact ss))
 refine bi h fun a6 h ax=>?_;refine tr ?_;intros;refine cD (za4 ax) ?_;refine bi h fun a7 h ay=>?_;refine tr ?_;intros;refine cD (zro ay) ?_;refine tr ?_;intros;refine fi h F ?_ ?_<;>intro h _ F;cases h;exact finM;refine bi h fun a8 h az=>?_;refine tr ?_;intros;refine cD (zmr az) ?_;refine tr ?_;intros;refine iS func71 ?_;simp only[f71];refine fi h F ?_ ?_<;>intro h _ F;cases h;exact finM
 refine tr ?_;intros;refine fi h F ?_ ?_<;>intro h _ F;cases h;exact finM;refine by_ h F fun a9 h aJ F=>?_;refine tr ?_;intros;refine fi h F ?_ ?_<;>intro h _ F;refine bi h fun ba h aA=>?_;refine tr ?_;intros;refine cS (zm9 aA) ?_;cases h;exact finM;cases h;exact finM
theorem zqa (n:Nat):(∀(w0:Nat) (p:xtm) (I:xtt) (e:xtn) (pc:Int) (r:Int×xtt),(zcf n) p I e pc=some r->Ct prog 34 [.agg (xtr p),.agg [.sl (I.Memory.Cells.map (eL eI)),.sl (I.Memory.Blocks.map (eA4 eI)),.sl (I.Left.map eI),.sl (I.Latches.map eI),.msl 0 w0 0 I.Events.length,.int .i64 I.Now],.agg (xto e),.one (.int .i64 pc)] [.cells w0 2 (I.Events.map xtu)] (fun U aa=>U=.tup [.one (.int .i64 r.1),.agg [.sl (r.2.Memory.Cells.map (eL eI)),.sl (r.2.Memory.Blocks.map (eA4 eI)),.sl (r.2.Left.map eI),.sl (r.2.Latches.map eI),.msl 0 (w0+(r.2.Events.length-I.Events.length)) 0 r.2.Events.length,.int .i64 r.2.Now]]/\aa=[.cells (w0+(r.2.Events.length-I.Events.length)) 2 (r.2.Events.map xtu)])):=by
 induction n with
 |zero=>exact fun _ _ _ _ _ r h=>(by cases h)
 |succ n ih=>
  have ab:=ih
  exact zqb ab (fun h=>zyz n _ _ _ _ _ h)
theorem zmq {p:xtm} {I:xtt} {e:xtn} {pc:Int} {w0:Nat} {r:Int×xtt} (h:zf7 p I e pc=some r):
 Ct prog 34 [.agg (xtr p),.agg [.sl (I.Memory.Cells.map (eL eI)),.sl (I.Memory.Blocks.map (eA4 eI)),.sl (I.Left.map eI),.sl (I.Latches.map eI),.msl 0 w0 0 I.Events.length,.int .i64 I.Now],.agg (xto e),.one (.int .i64 pc)] [.cells w0 2 (I.Events.map xtu)] (fun U aa=>U=.tup [.one (.int .i64 r.1),.agg [.sl (r.2.Memory.Cells.map (eL eI)),.sl (r.2.Memory.Blocks.map (eA4 eI)),.sl (r.2.Left.map eI),.sl (r.2.Latches.map eI),.msl 0 (w0+(r.2.Events.length-I.Events.length)) 0 r.2.Events.length,.int .i64 r.2.Now]]/\aa=[.cells (w0+(r.2.Events.length-I.Events.length)) 2 (r.2.Events.map xtu)]):=(zqa 1000000) _ _ _ _ _ _ h
end Go.Lz

end
section
namespace Go.Lz
open Go.Proofs
attribute [-go_sem] zl6 g_b gd_b
set_option maxRecDepth 100000
set_option maxHeartbeats 4000000
noncomputable section
def zhi (p:xtm) (I:xtt) (e:xtn) (pc:Int):Option (Int×xtt):=
 if I.Events.isEmpty=true then((zf7 p (⟨I.Memory,I.Left,I.Latches,[],I.Now⟩:xtt) e pc).bind fun U=>some (U.1,(⟨U.2.Memory,U.2.Left,U.2.Latches,U.2.Events,U.2.Now⟩:xtt)))else(need (I.Events.length*16<=140737488355328) ((zf7 p (⟨I.Memory,I.Left,I.Latches,I.Events,I.Now⟩:xtt) e pc).bind fun aa=>some (aa.1,(⟨aa.2.Memory,aa.2.Left,aa.2.Latches,aa.2.Events,aa.2.Now⟩:xtt))))
end
theorem ztq {p:xtm} {I:xtt} {e:xtn} {pc:Int} {r:Int×xtt} (h:zhi p I e pc=some r):
  Pu prog 11 [.agg (xtr p),.agg (xt9 I),.agg (xto e),.one (.int .i64 pc)] (.tup [.one (.int .i64 r.1),.agg (xt9 r.2)]):=by
 have F:=trivial;have R:=trivial
 refine pA func11 ?_;simp only[f11];unfold zhi at h;refine tt ?_
 first|refine⟨by kernel_rfl,[0,2],[0,3,4],[2],by kernel_rfl,?_⟩|refine⟨mo,zl5 (by kernel_rfl),by kernel_rfl,[0,2],[0,3,4],[2],by kernel_rfl,?_⟩
 refine fv h F ?_ ?_<;>intro h _ F;refine tt ?_
 repeat (first|(with_reducible intro _)|((with_reducible refine zlr ?_ ?_);first|((with_reducible refine sq_i ?_);exact sq_)|exact ss))
 refine iF (.agg [.sl (I.Memory.Cells.map (eL eI)),.sl (I.Memory.Blocks.map (eA4 eI)),.sl (I.Left.map eI),.sl (I.Latches.map eI),.slf [],.int .i64 I.Now]) ([.cells 0 6 [(eP_ p)],.cells 0 6 [[.sl (I.Memory.Cells.map (eL eI)),.sl (I.Memory.Blocks.map (eA4 eI)),.sl (I.Left.map eI),.sl (I.Latches.map eI),.sl (I.Events.map xtu),.int .i64 I.Now]],.cells 0 5 [[.int .i64 e.Op,.int .i64 e.N,.int .i64 e.Kind,.str e.Name,.sl (e.Args.map xto)]],.cells 0 6 [[.slf [],.slf [],.slf [],.slf [],.slf [],.int .i64 0]],.cells 0 6 [[.sl (I.Memory.Cells.map (eL eI)),.sl (I.Memory.Blocks.map (eA4 eI)),.sl (I.Left.map eI),.sl (I.Latches.map eI),.slf [],.int .i64 I.Now]],.cells 0 6 [[.sl (I.Memory.Cells.map (eL eI)),.sl (I.Memory.Blocks.map (eA4 eI)),.sl (I.Left.map eI),.sl (I.Latches.map eI),.slf [],.int .i64 I.Now]]]) func35 ?_ ?_
 ·simp only[f35]
  refine tt ?_;exact finE
 refine tt ?_
 repeat (first|(with_reducible intro _)|((with_reducible refine zlr ?_ ?_);first|((with_reducible refine sq_i ?_);exact sq_)|exact ss))
 refine yhv 1 4 2 ?_;refine bi h fun U h ab=>?_;refine cL8 [6] (.tup [.one (.int .i64 U.1),.agg [.sl (U.2.Memory.Cells.map (eL eI)),.sl (U.2.Memory.Blocks.map (eA4 eI)),.sl (U.2.Left.map eI),.sl (U.2.Latches.map eI),.msl 6 (0+(U.2.Events.length-0)) 0 U.2.Events.length,.int .i64 U.2.Now]]) [.cells 0 6 [(eP_ p)],.cells 0 6 [[.sl (I.Memory.Cells.map (eL eI)),.sl (I.Memory.Blocks.map (eA4 eI)),.sl (I.Left.map eI),.sl (I.Latches.map eI),.sl (I.Events.map xtu),.int .i64 I.Now]],.cells 0 5 [[.int .i64 e.Op,.int .i64 e.N,.int .i64 e.Kind,.str e.Name,.sl (e.Args.map xto)]],.cells 0 6 [[.slf [],.slf [],.slf [],.slf [],.slf [],.int .i64 0]],.cells 0 6 [[.sl (I.Memory.Cells.map (eL eI)),.sl (I.Memory.Blocks.map (eA4 eI)),.sl (I.Left.map eI),.sl (I.Latches.map eI),.slf [],.int .i64 I.Now]],.cells 0 6 [[.sl (I.Memory.Cells.map (eL eI)),.sl (I.Memory.Blocks.map (eA4 eI)),.sl (I.Left.map eI),.sl (I.Latches.map eI),.slf [],.int .i64 I.Now]],.cells (0+(U.2.Events.length-0)) 2 (U.2.Events.map xtu)] (zmq (w0:=0) ab) ?_
 refine tt ?_;cases h;exact finM;refine nd h F fun h F=>?_;refine tt ?_
 repeat (first|(with_reducible intro _)|((with_reducible refine zlr ?_ ?_);first|((with_reducible refine sq_i ?_);exact sq_)|exact ss))
 refine iF (.agg [.sl (I.Memory.Cells.map (eL eI)),.sl (I.Memory.Blocks.map (eA4 eI)),.sl (I.Left.map eI),.sl (I.Latches.map eI),.msl 6 0 0 I.Events.length,.int .i64 I.Now]) ([.cells 0 6 [(eP_ p)],.cells 0 6 [[.sl (I.Memory.Cells.map (eL eI)),.sl (I.Memory.Blocks.map (eA4 eI)),.sl (I.Left.map eI),.sl (I.Latches.map eI),.sl (I.Events.map xtu),.int .i64 I.Now]],.cells 0 5 [[.int .i64 e.Op,.int .i64 e.N,.int .i64 e.Kind,.str e.Name,.sl (e.Args.map xto)]],.cells 0 6 [[.slf [],.slf [],.slf [],.slf [],.slf [],.int .i64 0]],.cells 0 6 [[.sl (I.Memory.Cells.map (eL eI)),.sl (I.Memory.Blocks.map (eA4 eI)),.sl (I.Left.map eI),.sl (I.Latches.map eI),.msl 6 0 0 I.Events.length,.int .i64 I.Now]],.cells 0 6 [[.sl (I.Memory.Cells.map (eL eI)),.sl (I.Memory.Blocks.map (eA4 eI)),.sl (I.Left.map eI),.sl (I.Latches.map eI),.msl 6 0 0 I.Events.length,.int .i64 I.Now]],.cells 0 2 (I.Events.map xtu)]) func35 ?_ ?_
 ·simp only[f35]
  refine tt ?_
  repeat (first|(with_reducible intro _)|((with_reducible refine zlr ?_ ?_);first|((with_reducible refine sq_i ?_);exact sq_)|exact ss))
  exact finE
 refine tt ?_
 repeat (first|(with_reducible intro _)|((with_reducible refine zlr ?_ ?_);first|((with_reducible refine sq_i ?_);exact sq_)|exact ss))
 refine bi h fun aa h ad=>?_;refine cL8 [6] (.tup [.one (.int .i64 aa.1),.agg [.sl (aa.2.Memory.Cells.map (eL eI)),.sl (aa.2.Memory.Blocks.map (eA4 eI)),.sl (aa.2.Left.map eI),.sl (aa.2.Latches.map eI),.msl 6 (0+(aa.2.Events.length-I.Events.length)) 0 aa.2.Events.length,.int .i64 aa.2.Now]]) [.cells 0 6 [(eP_ p)],.cells 0 6 [[.sl (I.Memory.Cells.map (eL eI)),.sl (I.Memory.Blocks.map (eA4 eI)),.sl (I.Left.map eI),.sl (I.Latches.map eI),.sl (I.Events.map xtu),.int .i64 I.Now]],.cells 0 5 [[.int .i64 e.Op,.int .i64 e.N,.int .i64 e.Kind,.str e.Name,.sl (e.Args.map xto)]],.cells 0 6 [[.slf [],.slf [],.slf [],.slf [],.slf [],.int .i64 0]],.cells 0 6 [[.sl (I.Memory.Cells.map (eL eI)),.sl (I.Memory.Blocks.map (eA4 eI)),.sl (I.Left.map eI),.sl (I.Latches.map eI),.msl 6 0 0 I.Events.length,.int .i64 I.Now]],.cells 0 6 [[.sl (I.Memory.Cells.map (eL eI)),.sl (I.Memory.Blocks.map (eA4 eI)),.sl (I.Left.map eI),.sl (I.Latches.map eI),.msl 6 0 0 I.Events.length,.int .i64 I.Now]],.cells (0+(aa.2.Events.length-I.Events.length)) 2 (aa.2.Events.map xtu)] (zmq (w0:=0) ad) ?_
 refine tt ?_;cases h;exact finM
end Go.Lz

end
section
namespace Go.Lz
open Go.Proofs
attribute [-go_sem] zl6 g_b gd_b
set_option maxRecDepth 100000
set_option maxHeartbeats 4000000
noncomputable section
def zc2 (p:xtm) (r_:xtt) (e:xtn):Nat->Option ((Nat)⊕(Bool⊕Unit))
 |I=>if(I:Int)<(p.Lattice.Names.length:Int)then((zvj p r_ e (I:Int)).bind fun U=>(zhi p r_ e (I:Int)).bind fun aa=>if U.1=aa.1 then((zhh U.2 aa.2).bind fun ab=>if ab=true then(some (.inl (I+1)))else(some (.inr (.inl (false)))))else(some (.inr (.inl (false)))))else(some (.inr (.inr (()))))
def zf3 (p:xtm) (r_:xtt) (e:xtn):Option Bool:=
 (zhy p r_).bind fun ab=>if ab=0 then((zgp).bind fun ad=>some ad)else((zgo p e).bind fun ae=>if ae=true then((loop (zc2 p r_ e) 0).bind (fun af=>match af with|(.inl I)=>some I|(.inr ())=>(zgp).bind fun U=>some U))else((zgp).bind fun aa=>some aa))
end
theorem zph {p:xtm} {U:xtt} {e:xtn} {r:Bool} (h:zf3 p U e=some r):
  Pu prog 3 [.agg (xtr p),.agg (xt9 U),.agg (xto e)] (.one (.bool r)):=by
 have F:=trivial;have R:=trivial
 refine pA func3 ?_;simp only[f3];unfold zf3 at h;refine bi h fun aA h ai=>?_;refine tr ?_;intros;refine cS (zuf ai) ?_;refine fi h F ?_ ?_<;>intro h _ F;refine bi h fun aB h aj=>?_;refine tr ?_;intros;refine cS (zj0 aj) ?_;cases h;exact fin;refine bi h fun aC h ak=>?_;refine tr ?_;intros;refine cS (zs3 ak) ?_;refine fv h F ?_ ?_<;>intro h _ F;refine bi h fun ar h al=>?_;refine tt ?_
 refine lX al (fun|aa,_=>⟨[(3,.one (.ref 0 0 0 0)),(4,.one (.ref 1 0 0 0)),(5,.one (.ref 2 0 0 0)),(7,.one (.int .i64 (aa:Int)))],[.cells 0 6 [(eP_ p)],.cells 0 6 [[.sl (U.Memory.Cells.map (eL eI)),.sl (U.Memory.Blocks.map (eA4 eI)),.sl (U.Left.map eI),.sl (U.Latches.map eI),.sl (U.Events.map xtu),.int .i64 U.Now]],.cells 0 5 [[.int .i64 e.Op,.int .i64 e.N,.int .i64 e.Kind,.str e.Name,.sl (e.Args.map xto)]]]⟩) (fun|(.inl ax),_=>⟨[],[]⟩|(.inr ()),_=>⟨[],[.cells 0 6 [(eP_ p)],.cells 0 6 [[.sl (U.Memory.Cells.map (eL eI)),.sl (U.Memory.Blocks.map (eA4 eI)),.sl (U.Left.map eI),.sl (U.Latches.map eI),.sl (U.Events.map xtu),.int .i64 U.Now]],.cells 0 5 [[.int .i64 e.Op,.int .i64 e.N,.int .i64 e.Kind,.str e.Name,.sl (e.Args.map xto)]]]⟩) (fun|(.inl _)=>none|(.inr _)=>some 0) ?_ ?_
 intro i6 b6 af
 rcases ar with au|⟨⟩
 cases af;obtain rfl:=Wab af;obtain⟨⟩:=b6;dsimp only at h|-;refine bi h fun ay h ad=>?_;refine tr ?_;intros;refine cS (zj0 ad) ?_;cases h;exact fin;intro av m6 aa a6 o6 I ab aw;obtain⟨⟩:=a6;dsimp only[zc2]at I|-;refine tr ?_;intros;refine fl I F ?_ ?_<;>intro I _ F;refine bi I fun aD I an=>?_;refine tr ?_;intros;refine cS (z45 an) ?_;refine bi I fun aE I ao=>?_;refine tr ?_;intros
 refine cS (ztq ao) ?_;refine tt ?_;refine fi I F ?_ ?_<;>intro I _ F;refine bi I fun aF I aq=>?_;refine tr ?_;intros;refine cS (ztp aq) ?_;refine fv I F ?_ ?_<;>intro I _ F;cases I;refine tt ?_;refine wn aa F fun F=>?_;exact bk aw ab ();cases I;obtain rfl:=sr ab
 try dsimp only at h
 cases h;exact fin;cases I;obtain rfl:=sr ab
 try dsimp only at h
 cases h;exact fin;cases I;refine tt ?_;exact xt ab av ();refine bi h fun az h ae=>?_;refine tr ?_;intros;refine cS (zj0 ae) ?_;cases h;exact fin
end Go.Lz

end
