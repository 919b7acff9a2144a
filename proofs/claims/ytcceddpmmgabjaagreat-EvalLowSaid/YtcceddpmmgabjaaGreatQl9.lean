/- The parts of a proof: P15c, P14, P14b, P14c, LzT, Lw9, V15s, P15d, VF, LzC, LzX, VC, VA, V15L, V15e, V15v, P15f, P15e, P15w, P15x -/
import Derived.Test.YtcceddpmmgabjaaGreatQl8
set_option linter.unusedVariables false
set_option linter.unusedSimpArgs false
open Go.Proofs.Tryz
section
namespace Go.Lz
section
variable {R:List (List Int)->List (A4 Int)->List Int->List Int->List xsx->Int->xsj->List Int->xsk->Int->Option (Int×List Int×List xsx)}
variable {C:List (List Int)} {B:List (A4 Int)} {left la:List Int} {ev:List xsx} {now:Int} {p:xsj} {labels:List Int} {e x y:xsk} {pc:Int}
theorem zxg (h:e.Args=[]):loop (zbv R C B left now p labels e pc) (la,ev,0,0,0)=some (la,ev,0,0):=by
 rw[zb8 (r:=(la,ev,0,0)) (by simp[zbv,h])]
theorem zxf (h:e.Args=[x]) {v:Int} {I:List Int} {U:List xsx} (hx:R C B left la ev now p labels x pc=some (v,I,U)):
  loop (zbv R C B left now p labels e pc) (la,ev,0,0,0)=some (I,U,v,0):=by
 rw[zid (s':=(I,U,v,0,1)) (by simp[zbv,h,hx]),zb8 (r:=(I,U,v,0)) (by simp[zbv,h])]
theorem z7k (h:e.Args=[x,y]) {v w:Int} {l1 I:List Int} {e1 U:List xsx} (hx:R C B left la ev now p labels x pc=some (v,l1,e1)) (hy:R C B left l1 e1 now p labels y pc=some (w,I,U)):
  loop (zbv R C B left now p labels e pc) (la,ev,0,0,0)=some (I,U,v,w):=by
 rw[zid (s':=(l1,e1,v,0,1)) (by simp[zbv,h,hx]),zid (s':=(I,U,v,w,2)) (by simp[zbv,h,hy]),zb8 (r:=(I,U,v,w)) (by simp[zbv,h])]
end
theorem zvy {p:xsj} {labels:List Int} {pc:Int} {e:xsk} {v:Int×Int} {s:RS} (h:¬e.Op=21):rO p labels pc e v s=(if v.2=0 then s.1 else zz1 s.1 (znf p.Lattice pc (labN p labels e)) v.2,s.2):=by
 unfold rO;rw[if_neg h]
 by_cases z:v.2=0
 ·rw[if_pos z,if_pos z]
 ·rw[if_neg z,if_neg z]
theorem yew {p:xsj} (P:zkk p) {C:List (List Int)} {B:List (A4 Int)} (hC:C.length=p.Vars.length) (hB:B.length=p.Blocks.length) {left labels:List Int} {now pc:Int}:
  ∀(n:Nat) (e:xsk),depE e<=n->GoodE e->zga p e≠0->∀s:RS,s.2.length+szE e<=1000000000->
   zg0 n C B left s.1 s.2 now p labels e pc=some ((vE p C B e).1,(rE p C B labels pc e s).1,(rE p C B labels pc e s).2)/\(rE p C B labels pc e s).2.length<=s.2.length+szE e
 |0,e,h,_,_,_,_=>by rw[zdn]at h;omega
 |n+1,e,h,g,h0,s,hs=>by
  have K:=z6v P g h0
  have hsz:=ztq e
  rw[zdn]at h
  have U:∀x∈e.Args,zga p x≠0->∀s:RS,s.2.length+szE x<=1000000000->zg0 n C B left s.1 s.2 now p labels x pc=some ((vE p C B x).1,(rE p C B labels pc x s).1,(rE p C B labels pc x s).2)/\(rE p C B labels pc x s).2.length<=s.2.length+szE x:=
   fun x I k s hs=>yew P hC hB n x (by have:=zfm I;omega) (g.arg I) k s hs
  show zix (zg0 n) C B left s.1 s.2 now p labels e pc=_/\_
  rw[ypx];unfold zix
  have cell:∀{v:xsq} {x:Int},0<=varN p e.Name->p.Vars[(varN p e.Name).toNat]? =some v->(e.Op=2\/e.Op=3)->(vEs p C B e.Args).getD 0 0=x->∃c,idx C (varN p e.Name)=some c/\vE p C B e=getN v.Type_ c x:=fun{v x} i0 hv o I=>by
   have hi:(varN p e.Name).toNat<C.length:=by
    have:=(Wag.1 hv).1;omega
   refine⟨_,zv8 i0 (Wac hi),?_⟩;rw[zss];unfold vO;rw[if_neg (by omega),if_pos o,hv,Wac hi,I]
  cases K with
  |num o a k=>
   rw[zxg a,Waa];simp only;rw[if_pos o,zvy (by omega)]
   have e1:vE p C B e=(e.N,0):=by rw[zss];unfold vO;rw[if_pos o]
   rw[e1,a,rEs];exact⟨rfl,by simp⟩
  |var v o a i0 hv l k=>
   rw[zxg a,Waa];simp only;rw[if_neg (by omega),if_pos o,zvy (by omega)];obtain⟨c,h1,h2⟩:=cell (x:=0) i0 hv (.inl o) (by rw[a,vEs];rfl);rw[zu2,Waa,zv8 i0 hv,Waa,h1,Waa,z7f,Waa,z2e P g,Waa,<-h2,a,rEs];exact⟨rfl,by simp⟩
  |index v x o a i0 hv l kx k=>
   have I:x∈e.Args:=by rw[a];simp
   have es:szEs e.Args=szE x:=by rw[a];simp[szEs]
   obtain⟨r1,r2⟩:=U x I (by omega) s (by omega);rw[zxf a r1,Waa];simp only;rw[if_neg (by omega),if_neg (by omega),if_pos o,zvy (by omega)];obtain⟨c,h1,h2⟩:=cell (x:=(vE p C B x).1) i0 hv (.inr o) (by rw[a,vEs];rfl);rw[zu2,Waa,zv8 i0 hv,Waa,h1,Waa,z7f,Waa,z2e P g,Waa,<-h2,a,rEs,rEs];exact⟨rfl,by simp only;omega⟩
  |out b l o a i0 hb hl n0 n1 k=>
   rw[zxg a,Waa];simp only;rw[if_neg (by omega),if_neg (by omega),if_neg (by omega),if_pos o,zvy (by omega)]
   have hi:(zgy p e.Name).toNat<B.length:=by
    have:=(Wag.1 hb).1;omega
   obtain⟨v,w1,_⟩:=yqh B[(zgy p e.Name).toNat] hl n0 n1
   have e1:vE p C B e=(v,0):=by
    rw[zss];unfold vO;rw[if_neg (by omega),if_neg (by omega),if_pos o,hb,Wac hi];simp only[w1];rfl
   rw[zxo,Waa,zv8 i0 hb,Waa,zv8 i0 (Wac hi),Waa,w1,Waa,e1,a,rEs];exact⟨rfl,by simp⟩
  |site x o a i0 k=>
   have I:x∈e.Args:=by rw[a];simp
   have es:szEs e.Args=szE x:=by rw[a];simp[szEs]
   obtain⟨r1,r2⟩:=U x I (by omega) s (by omega);rw[zxf a r1,Waa];simp only;rw[if_neg (by omega),if_neg (by omega),if_neg (by omega),if_neg (by omega),if_pos o]
   have e1:vE p C B e=((vE p C B x).1,0):=by
    rw[zss];unfold vO;rw[if_neg (by omega),if_neg (by omega),if_neg (by omega),if_pos o,a,vEs];rfl
   have e2:rO p labels pc e (vE p C B e) (rEs p C B labels pc e.Args s)=((rE p C B labels pc x s).1,(rE p C B labels pc x s).2++[⟨zof p e.Name,(vE p C B x).1⟩]):=by
    unfold rO;rw[if_pos o,e1,a,rEs,rEs]
   rw[zzs,Waa,zc3 (by omega),e2,e1];refine⟨rfl,?_⟩;simp only[Wai,Waj,Wam];omega
  |un x o a k=>
   have I:x∈e.Args:=by rw[a];simp
   have es:szEs e.Args=szE x:=by rw[a];simp[szEs]
   have g1:=g.arg I
   have kx:zga p x≠0:=by
    have:=(zmp k h0).1
    unfold isK at this;omega
   obtain⟨r1,r2⟩:=U x I kx s (by omega);rw[zxf a r1,Waa];simp only;obtain⟨v,w1,_⟩:=unOk (a:=(vE p C B x).1) o k h0
   have e1:vE p C B e=(v,0):=by
    rw[zss];unfold vO;rw[if_neg (by omega),if_neg (by omega),if_neg (by omega),if_neg (by omega),if_pos o,a,vEs,kArg];simp only[List.getD_cons_zero,w1];rfl
   have ht:=z0s P g1.ok (by have:=g1.dep;omega)
   have fin:((e.Args[0]?).bind fun aa=>(zkb p aa).bind fun ab=>(zlq e.Op ab.1 (vE p C B x).1).bind fun ad=>some (ad,(rE p C B labels pc x s).1,(rE p C B labels pc x s).2))=some ((v,0).1,(rO p labels pc e (v,0) (rEs p C B labels pc e.Args s)).1,(rO p labels pc e (v,0) (rEs p C B labels pc e.Args s)).2):=by
    rw[a,Wau,Waa,ht,Waa,w1,Waa,zvy (by omega),rEs,rEs];rfl
   have len:(rO p labels pc e (v,0) (rEs p C B labels pc e.Args s)).2.length<=s.2.length+szE e:=by
    rw[zvy (by omega),a,rEs,rEs];simp only;omega
   rw[e1,if_neg (by omega),if_neg (by omega),if_neg (by omega),if_neg (by omega),if_neg (by omega)];refine⟨?_,len⟩
   rcases o with o|o
   ·rw[if_pos o];exact fin
   ·rw[if_neg (by omega),if_pos o];exact fin
  |bin x y o a kk k=>
   have I:x∈e.Args:=by rw[a];simp
   have hy:y∈e.Args:=by rw[a];simp
   have es:szEs e.Args=szE x+szE y:=by rw[a];simp[szEs]
   have g1:=g.arg I
   have kx:zga p x≠0:=by
    have:=(zmp k h0).1
    unfold isK at this;omega
   obtain⟨r1,r2⟩:=U x I kx s (by omega);obtain⟨q1,q2⟩:=U y hy (by omega) (rE p C B labels pc x s) (by omega);rw[z7k a r1 q1,Waa];simp only;obtain⟨v,c,w1,_⟩:=yrm (a:=(vE p C B x).1) (b:=(vE p C B y).1) o k h0
   have e1:vE p C B e=(v,c):=by
    rw[zss];unfold vO;rw[if_neg (by omega),if_neg (by omega),if_neg (by omega),if_neg (by omega),if_neg (by omega),a,vEs,vEs,vEs,kArg];simp only[List.getD_cons_zero,List.getD_cons_succ,w1];rfl
   have ht:=z0s P g1.ok (by have:=g1.dep;omega)
   rw[e1,zvy (by omega),if_neg (by omega),if_neg (by omega),if_neg (by omega),if_neg (by omega),if_neg (by omega),if_neg (by omega),if_neg (by omega)];rw[a,Wau,Waa,ht,Waa,w1,Waa,z2e P g,Waa,rEs,rEs,rEs];exact⟨rfl,by simp only;omega⟩
end Go.Lz

end
section
namespace Go.Lz
theorem ygk (l:List Int):Tot (zie l) fun _=>True:=by
 unfold zie;refine Tot.bind (Tot.loop (fun s:Int×Nat=>s.2<=l.length) (R:=fun _=>True) (fun s=>l.length-s.2) (Waf _) fun⟨n,i⟩ hi=>?_) fun r _=>Tot.mk trivial;simp only at hi;unfold zkf;exact Tot.ite (fun I=>(Tot.get (by omega)).bind fun x U=>Tot.mk ⟨by simp only;omega,by simp only;omega⟩) fun _=>Tot.mk trivial
theorem zt0:∀(n:Nat) (l:List xsl),zgb l+1<=n->Tot (zem n l) fun _=>True
 |0,l,h=>by omega
 |n+1,l,h=>by
  show Tot (zen (zem n) l) _
  unfold zen;refine Tot.bind (Tot.loop (fun s:Int×Nat=>s.2<=l.length) (R:=fun _=>True) (fun s=>l.length-s.2) (Waf _) fun⟨m,i⟩ hi=>?_) fun r _=>Tot.mk trivial;simp only at hi;unfold zi3;refine Tot.ite (fun h'=>(Tot.get (by omega)).bind fun x I=>?_) fun _=>Tot.mk trivial
  have U:=znk I.1
  rw[zup]at U;exact Tot.ite (fun _=>(zt0 n x.Body (by omega)).bind fun _ _=>(zt0 n x.Else (by omega)).bind fun _ _=>Tot.mk ⟨by simp only;omega,by simp only;omega⟩) fun _=>(zt0 n x.Body (by omega)).bind fun _ _=>(zt0 n x.Else (by omega)).bind fun _ _=>Tot.mk ⟨by simp only;omega,by simp only;omega⟩
theorem yel (p:xsj) (I:∀t∈p.Tasks,zgb t.Body<=1000):Tot (zg3 p) fun b=>b=true->zoz p:=by
 unfold zg3
 refine(ybu p I).bind fun b hb=>Tot.ite (fun h=>?_) fun _=>Tot.mk fun h=>by cases h
 have G:zoz p:=⟨(hb h).1,(hb h).2,I⟩
 refine Tot.ite (fun _=>Tot.mk fun _=>G) fun _=>?_
 refine Tot.bind (Tot.loop (fun s:Int×Nat=>s.2<=p.Tasks.length) (R:=fun _=>True) (fun s=>p.Tasks.length-s.2) (Waf _) fun⟨m,i⟩ hi=>?_) fun r _=>by cases r<;>exact Tot.mk fun _=>G
 simp only at hi;unfold zjt;exact Tot.ite (fun h'=>(Tot.get (by omega)).bind fun x U=>(zt0 1000000 x.Body (by have:=I x U.1;omega)).bind fun _ _=>(ygk _).bind fun _ _=>Tot.ite (fun _=>Tot.mk trivial) fun _=>Tot.mk ⟨by simp only;omega,by simp only;omega⟩) fun _=>Tot.mk trivial
end Go.Lz

end
section
namespace Go.Lz
theorem zlw {α:Type} {a b:List α} (hl:a.length=b.length) {f:Nat->Option (Nat⊕(Bool⊕Unit))} (step:∀i (h1:i<a.length) (h2:i<b.length),Tot (f i) fun r=>(r=.inl (i+1)/\a[i]=b[i])\/r=.inr (.inl false)) (last:f a.length=some (.inr (.inr ()))):
  Tot (loop f 0) fun r=>(r=.inr ()/\a=b)\/r=.inl false:=by
 refine Tot.loop (fun i=>i<=a.length/\∀j (h1:j<a.length) (h2:j<b.length),j<i->a[j]=b[j]) (fun i=>a.length-i) ⟨Waf _,fun j _ _ U=>by omega⟩ fun i ⟨hi,hI⟩=>?_
 by_cases I:i<a.length
 ·refine(step i I (by omega)).imp fun r hr=>?_
  rcases hr with⟨rfl,he⟩|rfl
  ·refine⟨⟨I,fun j h1 h2 U=>?_⟩,by simp only;omega⟩
   by_cases e:j=i
   ·subst e;exact he
   ·exact hI j h1 h2 (by omega)
  ·exact .inr rfl
 ·have e:i=a.length:=by omega
  subst e;refine⟨_,last,.inl ⟨rfl,?_⟩⟩;exact List.ext_getElem hl fun j h1 h2=>hI j h1 h2 h1
theorem no_t {Q:Prop}:Tot (some false) fun b=>b=true->Q:=Tot.mk fun h=>by cases h
theorem zwa {g:Prop} {i:Nat}:Tot (some (.inr (.inl false)):Option (Nat⊕(Bool⊕Unit))) fun r=>(r=.inl (i+1)/\g)\/r=.inr (.inl false):=Tot.mk (.inr rfl)
theorem zsl {Q:Prop} {a:Prop} {x:Option (Bool⊕Unit)} (h:Tot x fun r=>(r=.inr ()/\a)\/r=.inl false) {k:Bool⊕Unit->Option Bool} (I:a->Tot (k (.inr ())) fun b=>b=true->Q) (k0:k (.inl false)=some false):Tot (x.bind k) fun b=>b=true->Q:=by
 refine h.bind fun r hr=>?_
 rcases hr with⟨rfl,ha⟩|rfl
 ·exact I ha
 ·rw[k0];exact no_t
theorem ye0:∀(n:Nat) (a b:xsk),depE a<=n->Tot (zdv n a b) fun r=>r=true->a=b
 |0,a,b,h=>by rw[zdn]at h;omega
 |n+1,a,b,h=>by
  rw[zdn]at h
  show Tot (zcu (zdv n) a b) _
  unfold zcu;refine Tot.ite (fun h1=>Tot.ite (fun h2=>Tot.ite (fun h3=>Tot.ite (fun h4=>Tot.ite (fun h5=>?_) fun _=>no_t) fun _=>no_t) fun _=>no_t) fun _=>no_t) fun _=>no_t;refine zsl (zlw (a:=a.Args) (b:=b.Args) (by omega) (fun i q1 q2=>?_) (by simp[zev])) (fun e=>Tot.mk fun _=>?_) rfl
  ·unfold zev
   refine Tot.ite (fun _=>(Tot.get q1).bind fun x ⟨U,ex⟩=>(Tot.get q2).bind fun y ⟨_,ey⟩=>(ye0 n x y (by have:=zfm U;omega)).bind fun r hr=>Tot.ite (fun I=>Tot.mk (.inl ⟨rfl,?_⟩)) fun _=>zwa) fun h=>by omega
   rw[<-ex,<-ey];exact hr I
  ·cases a;cases b;simp only at h1 h2 h3 h4 e;simp[h1,h2,h3,h4,e]
theorem z4p {a b:xsk} (h:depE a<=1000000):Tot (zdr a b) fun r=>r=true->a=b:=ye0 1000000 a b h
theorem z9d:∀(n:Nat) (a b:List xsl),zgb a+1<=n->zgb a<=1000->Tot (zfg n a b) fun r=>r=true->a=b
 |0,a,b,h,_=>by omega
 |n+1,a,b,h,hd=>by
  show Tot (zfh (zfg n) a b) _
  unfold zfh;refine Tot.ite (fun hl=>?_) fun _=>no_t;refine zsl (zlw (a:=a) (b:=b) (by omega) (fun i q1 q2=>?_) (by simp[zh0])) (fun e=>Tot.mk fun _=>e) rfl;unfold zh0
  refine Tot.ite (fun _=>(Tot.get q1).bind fun x ⟨hx,ex⟩=>(Tot.get q2).bind fun y ⟨_,ey⟩=>?_) fun h=>by omega
  rw[<-ex,<-ey]
  have dx:=znk hx
  rw[zup]at dx;refine Tot.ite (fun h1=>Tot.ite (fun h2=>(z4p (by omega)).bind fun _ h3=>Tot.ite (fun t3=>(z4p (by omega)).bind fun _ h4=>Tot.ite (fun t4=>(z4p (by rw[zdn];simp only;omega)).bind fun _ h5=>Tot.ite (fun t5=>(z9d n x.Body y.Body (by omega) (by omega)).bind fun _ h6=>Tot.ite (fun t6=>(z9d n x.Else y.Else (by omega) (by omega)).bind fun _ h7=>Tot.ite (fun t7=>Tot.mk (.inl ⟨rfl,?_⟩)) fun _=>zwa) fun _=>zwa) fun _=>zwa) fun _=>zwa) fun _=>zwa) fun _=>zwa) fun _=>zwa
  have I:=h3 t3;have U:=h4 t4;have e5:=h5 t5;have e6:=h6 t6;have e7:=h7 t7
  cases x;cases y;simp only[xsk.mk.injEq,true_and]at h1 h2 I U e5 e6 e7;simp[h1,h2,I,U,e5,e6,e7]
theorem ylv (a b:List Int):Tot (ze1 a b) fun r=>r=true->a=b:=by
 unfold ze1;refine Tot.ite (fun hl=>?_) fun _=>no_t;refine zsl (zlw (a:=a) (b:=b) (by omega) (fun i q1 q2=>?_) (by simp[zh2])) (fun e=>Tot.mk fun _=>e) rfl;unfold zh2
 exact Tot.ite (fun _=>(Tot.get q1).bind fun x ⟨_,ex⟩=>(Tot.get q2).bind fun y ⟨_,I⟩=>Tot.ite (fun e=>Tot.mk (.inl ⟨rfl,by rw[<-ex,<-I];exact e⟩)) fun _=>zwa) fun h=>by omega
theorem ykq (a b:xsn):Tot (zhi a b) fun r=>r=true->a=b:=by
 unfold zhi;refine Tot.ite (fun l1=>Tot.ite (fun l2=>?_) fun _=>no_t) fun _=>no_t;refine zsl (zlw (a:=a.Names) (b:=b.Names) (by omega) (fun i q1 q2=>?_) (by simp[zh4])) (fun U=>?_) rfl
 ·unfold zh4
  exact Tot.ite (fun _=>(Tot.get q1).bind fun x ⟨_,ex⟩=>(Tot.get q2).bind fun y ⟨_,I⟩=>Tot.ite (fun e=>Tot.mk (.inl ⟨rfl,by rw[<-ex,<-I];exact e⟩)) fun _=>zwa) fun h=>by omega
 refine zsl (zlw (a:=a.Below) (b:=b.Below) (by omega) (fun i q1 q2=>?_) (by simp[zh3])) (fun e2=>Tot.mk fun _=>?_) rfl
 ·unfold zh3
  refine Tot.ite (fun _=>(Tot.get q1).bind fun x ⟨_,ex⟩=>(Tot.get q2).bind fun y ⟨_,I⟩=>Tot.ite (fun e=>Tot.mk (.inl ⟨rfl,?_⟩)) fun _=>zwa) fun h=>by omega
  rw[<-ex,<-I];cases x;cases y;simp only at e;simp[e]
 ·cases a;cases b;simp only at U e2;simp[U,e2]
theorem ykp {a b:xsj} (hd:∀t∈a.Tasks,zgb t.Body<=1000):Tot (zhb a b) fun r=>r=true->a=b:=by
 unfold zhb;refine(ykq _ _).bind fun r hr=>Tot.ite (fun t0=>Tot.ite (fun l1=>Tot.ite (fun l2=>Tot.ite (fun l3=>Tot.ite (fun l4=>?_) fun _=>no_t) fun _=>no_t) fun _=>no_t) fun _=>no_t) fun _=>no_t;refine zsl (zlw (a:=a.Sites) (b:=b.Sites) (by omega) (fun i q1 q2=>?_) (by simp[zhy])) (fun e1=>?_) rfl
 ·unfold zhy
  refine Tot.ite (fun _=>(Tot.get q1).bind fun x ⟨_,ex⟩=>(Tot.get q2).bind fun y ⟨_,I⟩=>Tot.ite (fun e=>Tot.mk (.inl ⟨rfl,?_⟩)) fun _=>zwa) fun h=>by omega
  rw[<-ex,<-I];cases x;cases y;simp only at e;simp[e]
 refine zsl (zlw (a:=a.Vars) (b:=b.Vars) (by omega) (fun i q1 q2=>?_) (by simp[zhx])) (fun e2=>?_) rfl
 ·unfold zhx
  refine Tot.ite (fun _=>(Tot.get q1).bind fun x ⟨_,ex⟩=>(Tot.get q2).bind fun y ⟨_,I⟩=>Tot.ite (fun e=>Tot.mk (.inl ⟨rfl,?_⟩)) fun _=>zwa) fun h=>by omega
  rw[<-ex,<-I];obtain⟨n1,t1,m1,b1,s1⟩:=x;obtain⟨n2,t2,m2,b2,s2⟩:=y;cases t1;cases t2;simp only at e;simp[e]
 refine zsl (zlw (a:=a.Blocks) (b:=b.Blocks) (by omega) (fun i q1 q2=>?_) (by simp[zhw])) (fun U=>?_) rfl
 ·unfold zhw
  refine Tot.ite (fun _=>(Tot.get q1).bind fun x ⟨_,ex⟩=>(Tot.get q2).bind fun y ⟨_,I⟩=>Tot.ite (fun e=>Tot.mk (.inl ⟨rfl,?_⟩)) fun _=>zwa) fun h=>by omega
  rw[<-ex,<-I];cases x;cases y;simp only at e;simp[e]
 refine zsl (zlw (a:=a.Tasks) (b:=b.Tasks) (by omega) (fun i q1 q2=>?_) (by simp[zhv])) (fun e4=>Tot.mk fun _=>?_) rfl
 ·unfold zhv zgo
  refine Tot.ite (fun _=>(Tot.get q1).bind fun x ⟨hx,ex⟩=>(Tot.get q2).bind fun y ⟨_,I⟩=>?_) fun h=>by omega
  have:Tot (if x.Every=y.Every then(if x.Priority=y.Priority then((ze1 x.Budget y.Budget).bind fun aa=>if aa=true then((zla x.Body y.Body).bind fun ab=>some ab)else(some false))else(some false))else(some false)) fun r=>r=true->x=y:=by
   refine Tot.ite (fun h1=>Tot.ite (fun h2=>(ylv _ _).bind fun r3 h3=>Tot.ite (fun t3=>(z9d 1000000 x.Body y.Body (by have:=hd x hx;omega) (hd x hx)).bind fun r4 h4=>Tot.mk fun t4=>?_) fun _=>no_t) fun _=>no_t) fun _=>no_t
   have U:=h3 t3;have e4:=h4 t4
   cases x;cases y;simp only at h1 h2 U e4;simp[h1,h2,U,e4]
  refine this.bind fun r hr=>Tot.ite (fun t=>Tot.mk (.inl ⟨rfl,?_⟩)) fun _=>zwa;rw[<-ex,<-I];exact hr t
 ·have e0:=hr t0
  cases a;cases b;simp only at e0 e1 e2 U e4;simp[e0,e1,e2,U,e4]
end Go.Lz

end
section
namespace Go.Lz
theorem z6a {α:Type} (g:α->Int->α) {labels:List Int} {off:Nat} {xs0:List α} (hl:off+xs0.length<=labels.length) {f:List α×Nat->Option ((List α×Nat)⊕List α)}
  (hf:∀(xs:List α) i,xs.length=xs0.length->i<xs.length->f (xs,i)=(labels[off+i]?).bind fun l=>(xs[i]?).bind fun x=>some (.inl (xs.set i (g x l),i+1))) (last:∀xs:List α,f (xs,xs.length)=some (.inr xs)):
  Tot (loop f (xs0,0)) fun r=>r.length=xs0.length/\∀i (h:i<r.length) (h0:i<xs0.length) (h1:off+i<labels.length),r[i]=g xs0[i] labels[off+i]:=by
 refine Tot.loop (fun s:List α×Nat=>s.2<=s.1.length/\s.1.length=xs0.length/\(∀i (h:i<s.1.length) (h0:i<xs0.length) (h1:off+i<labels.length),i<s.2->s.1[i]=g xs0[i] labels[off+i])/\∀i (h:i<s.1.length) (h0:i<xs0.length),s.2<=i->s.1[i]=xs0[i]) (fun s=>xs0.length-s.2) ⟨Waf _,rfl,fun i _ _ _ h=>by simp only at h;omega,fun i _ _ _=>rfl⟩ fun⟨xs,i⟩ ⟨hi,hn,h1,h2⟩=>?_
 simp only at hi hn h1 h2
 by_cases h':i<xs.length
 ·rw[hf xs i hn h']
  refine(Tot.get (by omega)).bind fun l ⟨_,el⟩=>(Tot.get h').bind fun x ⟨_,ex⟩=>Tot.mk ⟨⟨by simp only[Wa8];omega,by simp only[Wa8];exact hn,fun j U I aa ab=>?_,fun j U I ad=>?_⟩,by simp only;omega⟩
  ·simp only[Wa8]at U ab
   simp only[List.getElem_set];split
   ·rename_i e;subst e;rw[ex,el,h2 i h' I (Wae _)]
   ·exact h1 j U I aa (by omega)
  ·simp only[Wa8]at U ad
   simp only[List.getElem_set];split
   ·omega
   ·exact h2 j U I (by omega)
 ·have e:i=xs.length:=by omega
  subst e;exact⟨_,last xs,hn,fun j U I aa=>h1 j U I aa U⟩
def setV (v:xsq) (l:Int):xsq:=⟨v.Name,v.Type_,v.Mode,l,v.Safe⟩
def setB (b:xsw) (l:Int):xsw:=⟨b.Name,b.Kind,l⟩
def Labd (p q:xsj) (l:List Int):Prop:=q.Lattice=p.Lattice/\q.Tasks=p.Tasks/\(q.Vars.length=p.Vars.length/\∀i (h:i<q.Vars.length) (h1:i<l.length),q.Vars[i].Label=l[i])/\(q.Blocks.length=p.Blocks.length/\∀i (h:i<q.Blocks.length) (h1:p.Vars.length+i<l.length),q.Blocks[i].Label=l[p.Vars.length+i])
theorem yi7 {p:xsj} (hd:∀t∈p.Tasks,zgb t.Body<=120):Tot (zft p) fun r=>r.2=0->zoz p/\Lat p.Lattice/\(∀t∈p.Tasks,zm7 p t.Body=true)/\zbd p=some 0/\∃l,zbk p=some (l,0)/\l.length=p.Vars.length+p.Blocks.length/\Labd p r.1 l:=by
 have aa:∀t∈p.Tasks,zgb t.Body<=1000:=fun t ht=>WaF (hd t ht) (by omega)
 have no:∀{x:xsj} {e:Int} {Q:xsj×Int->Prop},e≠0->Tot (some (x,e)) fun r=>r.2=0->Q r:=fun h=>Tot.mk fun h'=>(h h').elim
 unfold zft;refine(yel p aa).bind fun b hb=>Tot.ite (fun h=>?_) fun _=>no (by decide)
 have G:=hb h
 have P:=G.P
 have p1:=P.nv;have p2:=P.nb;have p3:=P.ns
 rw[yc4,Waa];refine Tot.ite (fun hL=>?_) fun h=>no h
 have L:=yln hL
 refine(yi9 p (by omega) (by omega) (by omega) aa).bind fun r ar=>Tot.ite (fun au=>?_) fun h=>no h;obtain⟨av,ab,_⟩:=yi8 G;refine Tot.bind (Q:=fun r=>r=av) ⟨_,ab,rfl⟩ fun ax ak=>?_;subst ak;refine Tot.ite (fun aw=>?_) fun h=>no h;rw[aw]at ab;obtain⟨⟨l,z⟩,af,ai⟩:=yaz G hd L;refine Tot.bind (Q:=fun r=>r=(l,z)) ⟨_,af,rfl⟩ fun ay al=>?_;subst al;refine Tot.ite (fun aj=>?_) fun h=>no h
 simp only at aj ai;subst aj
 have hl:=ai rfl
 have fin:∀q:xsj,Labd p q l->Tot ((zbl q).bind fun an=>if an=true then(some (q,(0:Int)))else(some ((⟨(⟨[],[]⟩:xsn),[],[],[],[]⟩:xsj),3))) fun r=>r.2=0->zoz p/\Lat p.Lattice/\(∀t∈p.Tasks,zm7 p t.Body=true)/\zbd p=some 0/\∃l,zbk p=some (l,0)/\l.length=p.Vars.length+p.Blocks.length/\Labd p r.1 l:=fun q hq=>
  (ybu q (by rw[hq.2.1];exact aa)).bind fun b _=>Tot.ite (fun _=>Tot.mk fun _=>⟨G,L,ar au,ab,l,af,hl,hq⟩) fun _=>no (by decide)
 have vs:∀f:List xsq×Nat->Option ((List xsq×Nat)⊕List xsq),(∀xs i,f (xs,i)=if(i:Int)<(xs.length:Int)then((l[i]?).bind fun ao=>(xs[i]?).bind fun I=>some (.inl ((xs.set i (⟨I.Name,I.Type_,I.Mode,ao,I.Safe⟩:xsq)),(i+1))))else(some (.inr (xs))))->Tot (loop f (p.Vars,0)) fun r=>r.length=p.Vars.length/\∀i (h:i<r.length) (h1:i<l.length),r[i].Label=l[i]:=fun f hf=>
  (z6a setV (labels:=l) (off:=0) (xs0:=p.Vars) (by omega) (fun xs i _ hi=>by rw[hf,if_pos (by omega)];simp only[Wbg];rfl) (fun xs=>by rw[hf,if_neg (by omega)])).imp fun r hr=>⟨hr.1,fun i h h1=>by have:=hr.2 i h (by omega) (by omega);rw[this];simp[setV]⟩
 have bs:∀(f:List xsw×Nat->Option ((List xsw×Nat)⊕List xsw)) (m:Nat),m=p.Vars.length->(∀xs i,f (xs,i)=if(i:Int)<(xs.length:Int)then((idx l (w64 ((m:Int)+(i:Int)))).bind fun aq=>(xs[i]?).bind fun ad=>some (.inl ((xs.set i (⟨ad.Name,ad.Kind,aq⟩:xsw)),(i+1))))else(some (.inr (xs))))->Tot (loop f (p.Blocks,0)) fun r=>r.length=p.Blocks.length/\∀i (h:i<r.length) (h1:p.Vars.length+i<l.length),r[i].Label=l[p.Vars.length+i]:=fun f m hm hf=>
  (z6a setB (labels:=l) (off:=p.Vars.length) (xs0:=p.Blocks) (by omega) (fun xs i _ hi=>by
    rw[hf,if_pos (by omega),zfr (by omega) (by omega),hm,show(p.Vars.length:Int)+(i:Int)=((p.Vars.length+i:Nat):Int) by omega,znq];rfl) (fun xs=>by rw[hf,if_neg (by omega)])).imp fun r hr=>⟨hr.1,fun i h h1=>by have:=hr.2 i h (by omega) h1;rw[this];simp[setB]⟩
 refine Tot.ite (fun ev=>Tot.ite (fun eb=>?_) fun eb=>Tot.need (by omega) ?_) fun ev=>Tot.need (by omega) (Tot.ite (fun eb=>?_) fun eb=>Tot.need (by omega) ?_)
 ·have U:=WbE.1 ev;have ae:=WbE.1 eb
  rw[zb8 (r:=()) (by simp[zi8]),Waa,zb8 (r:=()) (by simp[zi7]),Waa];exact fin ⟨p.Lattice,p.Sites,[],[],p.Tasks⟩ ⟨rfl,rfl,⟨by simp[U],fun i h=>by simp at h⟩,by simp[ae],fun i h=>by simp at h⟩
 ·have U:=WbE.1 ev
  rw[zb8 (r:=()) (by simp[zi6]),Waa];exact(bs _ 0 (by simp[U]) (fun xs i=>by simp[zi5])).bind fun r hr=>fin ⟨p.Lattice,p.Sites,[],r,p.Tasks⟩ ⟨rfl,rfl,⟨by simp[U],fun i h=>by simp at h⟩,hr⟩
 ·have ae:=WbE.1 eb
  refine(vs _ (fun xs i=>rfl)).bind fun v hv=>?_;rw[zb8 (r:=()) (by simp[zi4]),Waa];exact fin ⟨p.Lattice,p.Sites,v,[],p.Tasks⟩ ⟨rfl,rfl,hv,by simp[ae],fun i h=>by simp at h⟩
 ·exact(vs _ (fun xs i=>rfl)).bind fun v hv=>(bs _ v.length hv.1 (fun xs i=>rfl)).bind fun r hr=>fin ⟨p.Lattice,p.Sites,v,r,p.Tasks⟩ ⟨rfl,rfl,hv,hr⟩
theorem ylg {p:xsj} (I:∀t∈p.Tasks,zgb t.Body<=120):Tot (zfo p) fun b=>b=true->zoz p/\Lat p.Lattice/\(∀t∈p.Tasks,zm7 p t.Body=true)/\zbd p=some 0/\∃l,zbk p=some (l,0)/\l.length=p.Vars.length+p.Blocks.length/\Labd p p l:=by
 have U:∀t∈p.Tasks,zgb t.Body<=1000:=fun t ht=>WaF (I t ht) (by omega)
 unfold zfo
 refine(yi7 I).bind fun r hr=>Tot.ite (fun h=>?_) fun _=>Tot.mk fun h=>by cases h
 obtain⟨h1,h2,h3,h4,l,h5,h6,h7⟩:=hr h;refine(ykp U).bind fun b hb=>Tot.mk fun t=>⟨h1,h2,h3,h4,l,h5,h6,?_⟩
 have:=hb t
 rw[<-this]at h7;exact h7
end Go.Lz

end
section
namespace Go.Lz
theorem zyk {P:Program} {all:Array Oper} {kt:Nat} (al:kt<=all.size) {S Fl FE:List Nat} {K:St->Prop} (hg:∀(j:Nat) (o:Oper),all[j]? =some o->o.guard=none):∀(rest:List Oper) (k:Nat) (st:St),(∀m,m<rest.length->rest[m]? =all[k+m]?)->k+rest.length=kt->awpF P S Fl FE k rest st K->
  ∃(T:Nat->V) (Hs:Nat->List O) (ab:St),Hs k=st.H/\(∀(i:Nat) (o:Oper),k<=i->i<kt->all[i]? =some o->z8r P all S Fl FE (fun t=>tvF all T (look st.t) k t (i-k)) T Hs i o)/\K ab/\ab.H=Hs kt/\∀t,look ab.t t=tvF all T (look st.t) k t (kt-k)
 |[],k,st,hr,hn,h=>by
  simp at hn;refine⟨fun _=>.un,fun _=>st.H,st,rfl,fun i o hi I ho=>?_,h,rfl,fun t=>?_⟩
  ·omega
  ·rw[hn,Wbi];rfl
 |o::rest,k,st,hr,hn,h=>by
  have ho:all[k]? =some o:=by have:=hr 0 (by simp);simpa using this.symm
  have an:∀m,m<rest.length->rest[m]? =all[k+1+m]? :=fun m hm=>by have:=hr (m+1) (by simp;omega);simpa [WaB,WbM 1 m]using this
  have ao:k+1+rest.length=kt:=by simp at hn;omega
  have ad:=hg k o ho
  have aa:zch all k=effF o.op:=by simp[zch,ho]
  obtain⟨x,H1,hE,hA,hQ,hO,hF,aj⟩:∃x H1,(effF o.op=true->OpE P all st.H H1 k o (look st.t) x)/\(FE.contains k=true->znv S st.H H1)/\(effF o.op=false->H1=st.H)/\(effF o.op=false->OpE P all st.H st.H k o (look st.t) x)/\
    (effF o.op=false->Fl.contains k=true->∀H',znv S st.H H'->OpE P all H' H' k o (look st.t) x)/\awpF P S Fl FE (k+1) rest (st.put o.dst x H1) K:=by
   simp only[awpF]at h
   cases he:effF o.op with
   |true=>
    rw[he]at h;simp only at h;split at h
    ·rename_i f args av aq
     split at h
     ·rename_i g cap hf
      obtain⟨x,H1,hc,ha,hk⟩:=h;exact⟨x,H1,fun _=>z6k ho ad aq hf hc,ha,fun h=>(by cases h),fun h=>(by cases h),fun h=>(by cases h),hk⟩
     ·exact h.elim
    ·obtain⟨hp,ha,hk⟩:=h
     exact⟨_,_,fun _=>zuz ho ad hp,ha,fun h=>(by cases h),fun h=>(by cases h),fun h=>(by cases h),hk⟩
   |false=>
    rw[he]at h;simp only at h;obtain⟨hp,hh,ar,hk⟩:=h;refine⟨_,st.H,fun h=>(by cases h),fun _ _ _=>rfl,fun _=>rfl,fun _=>?_,fun _ hf H' U=>?_,hk⟩
    ·have:=zuz (st:=st) ho ad hp
     rwa[hh]at this
    ·obtain⟨q1,q2,q3⟩:=ar hf H' U
     have:=zuz (st:=st) ho ad q1
     rwa[q2,q3]at this
  obtain⟨T,Hs,ab,e1,e2,e3,e4,e5⟩:=zyk al hg rest (k+1) (st.put o.dst x H1) an ao aj
  have ae:∀t,look (st.put o.dst x H1).t t=if(all[k]?).bind (·.dst)=some t then x else look st.t t:=fun t=>by rw[zn4,ho];rfl
  have af:Hs (k+1)=H1:=by rw[e1];cases o.dst<;>rfl
  refine⟨fun i=>if i=k then x else T i,fun i=>if i=k then st.H else Hs i,ab,by simp,fun i oi hi ak ai=>?_,e3,?_,fun t=>?_⟩
  ·by_cases I:i=k
   ·subst I
    rw[ho]at ai;cases ai
    have l0:(fun t=>tvF all (fun j=>if j=i then x else T j) (look st.t) i t (i-i))=look st.t:=by funext t;rw[Wbi];rfl
    rw[l0]
    have n1:i+1≠i:=by omega
    refine⟨fun h=>?_,fun ha=>?_,fun h=>?_,fun h=>?_,fun h hf H' U=>?_⟩
    ·simp only[if_true,if_neg n1,af];exact hE (by rw[<-aa];exact h)
    ·simp only[if_true,if_neg n1,af];exact hA ha
    ·simp only[if_true,if_neg n1,af];exact hQ (by rw[<-aa];exact h)
    ·simp only[if_true];exact hO (by rw[<-aa];exact h)
    ·simp only[if_true]at U|-;exact hF (by rw[<-aa];exact h) hf H' U
   ·have au:k+1<=i:=by omega
    have F:=e2 i oi au ak ai
    have lE:(fun t=>tvF all (fun j=>if j=k then x else T j) (look st.t) k t (i-k))=fun t=>tvF all T (look (st.put o.dst x H1).t) (k+1) t (i-(k+1)):=by
     funext t
     rw[show i-k=(i-(k+1))+1 by omega,zto];simp only[if_true];rw[ztp (l':=look (st.put o.dst x H1).t) (fun t=>(ae t).symm)]
     exact zqb fun m hm=>by rw[if_neg (by omega)]
    rw[lE]
    have n1:i+1≠k:=by omega
    refine⟨fun h=>?_,fun ha=>?_,fun h=>?_,fun h=>?_,fun h hf H' U=>?_⟩
    ·simp only[if_neg I,if_neg n1];exact F.eff h
    ·simp only[if_neg I,if_neg n1];exact F.ag ha
    ·simp only[if_neg I,if_neg n1];exact F.quiet h
    ·simp only[if_neg I];exact F.one h
    ·simp only[if_neg I]at U|-;exact F.flo h hf H' U
  ·have:kt≠k:=by omega
   simp only[if_neg this];exact e4
  ·rw[e5]
   rw[show kt-k=(kt-(k+1))+1 by omega,zto];simp only[if_true];rw[ztp (l':=look (st.put o.dst x H1).t) (fun t=>(ae t).symm)];exact(zqb fun m hm=>by rw[if_neg (by omega)]).symm
theorem yd8 {kt:Nat} {P:Program} {ctx:Env} {n:Nat} {ops:Array Oper} {T l0:Nat->V} {S Fl FE:List Nat} {Hs:Nat->List O} {Q:Exit->Act->World->Prop} (hd:z1c ops) (aS:kt<ops.size) (aY:∀i j,kt<=j->j<ops.size->i<kt->Before ops i j) (aZ:floB ops=true) (aB:floL ops Fl FE=true) (a4:∀o∈ops.toList,∀d,o.dst=some d->d<n)
  (X:∀(i:Nat) (o:Oper),i<kt->ops[i]? =some o->z8r P ops S Fl FE (fun t=>tv ops T l0 (fun _=>True) t i) T Hs i o)
  (hT:∀(fuel:Nat) (listed:Array Bool) (a:Act) (E:Env),unl listed<=fuel->listed.size=ops.size->(∀(j:Nat) (o:Oper),ops[j]? =some o->listed.getD j false=true->∀e∈o.after,Region.binds .any e=true->listed.getD e.on false=true)->(∀i,listed.getD i false=true↔i<kt)->
    n<=a.tmps.size->a.defers=[]->HRel E->E.H=Hs kt->Trans ctx E->(∀t,VRel E (tv ops T l0 (fun _=>True) t kt) (a.tmps.getD t undef))->wpAny P .any ops Q fuel listed a E.w):
  ∀(fuel:Nat) (listed:Array Bool) (a:Act) (E:Env),unl listed<=fuel->listed.size=ops.size->(∀(j:Nat) (o:Oper),ops[j]? =some o->listed.getD j false=true->∀e∈o.after,Region.binds .any e=true->listed.getD e.on false=true)->(∀j,listed.getD j false=true->j<kt)->
   n<=a.tmps.size->a.defers=[]->HRel E->(∃m,m<=kt/\E.H=Hs m/\(∀e,e<m->zch ops e=true->listed.getD e false=true)/\∀e,m<=e->zch ops e=true->listed.getD e false=false)->Trans ctx E->
   (∀t,VRel E (tv ops T l0 (fun j=>listed.getD j false=true) t ops.size) (a.tmps.getD t undef))->wpAny P .any ops Q fuel listed a E.w:=by
 obtain⟨hg,aC⟩:=zwy aZ
 have ao:∀{j t:Nat},(ops[j]?).bind (·.dst)=some t->∃oj,ops[j]? =some oj/\oj.dst=some t:=by
  intro j t h
  cases hj:ops[j]? with
  |none=>simp[hj]at h
  |some oj=>simp[hj]at h;exact⟨oj,rfl,h⟩
 have pre:∀{i j:Nat},((zis ops.toList).getD j []).contains i=true->Before ops i j:=fun{i j} h=>zzm (by simpa using h)
 have ab:∀{i j:Nat},Before ops i j->i<j:=by
  intro i j h
  have one:∀{i j:Nat},zgw ops i j=true->i<j:=fun{i j} aq=>by
   obtain⟨o,ho,e,he,hb,rfl⟩:=zfl aq;exact hd.back j o ho e he hb
  induction h with
  |one h=>exact one h
  |trans h h2 ih=>exact Nat.lt_trans ih (one h2)
 have const:∀{a b:Nat},a<=b->b<=kt->(∀e,a<=e->e<b->zch ops e=false)->Hs b=Hs a:=by
  intro a b ar
  induction ar with
  |refl=>intro _ _;rfl
  | @step b ar ih=>
    intro hb hq
    have aH:b<kt:=hb
    have a5:b<ops.size:=by omega
    have:=(X b ops[b] aH (by simp[a5])).quiet (hq b ar (Wbt b))
    rw[this];exact ih (WaT hb) fun e h1 h2=>hq e h1 (Wb4 h2)
 have a6:∀e,e<ops.size->zch ops e=true->floE ops e=true->FE.contains e=true:=fun e he I hf=>by
  unfold floL at aB
  have:=Wak.1 aB e (WaC.2 he)
  rw[I,hf]at this;simpa using this
 have a7:∀i,i<ops.size->zch ops i=false->floQ ops i=true->Fl.contains i=true:=fun i hi a8 hf=>by
  unfold floL at aB
  have:=Wak.1 aB i (WaC.2 hi)
  rw[a8,hf]at this;simpa using this
 have aT:∀{a b:Nat},a<=b->b<=kt->(∀e,a<=e->e<b->zch ops e=true->floE ops e=true)->∀i∈S,(Hs b)[i]? =(Hs a)[i]? :=by
  intro a b ar
  induction ar with
  |refl=>intro _ _ i _;rfl
  | @step b ar ih=>
    intro hb hq i hi
    have a9:b<kt:=hb
    have aH:b<ops.size:=by omega
    have hX:=X b ops[b] a9 (by simp[aH])
    have:(Hs (b+1))[i]? =(Hs b)[i]? :=by
     cases I:zch ops b with
     |true=>exact hX.ag (a6 b aH I (hq b ar (Wbt b) I)) i hi
     |false=>rw[hX.quiet I]
    rw[this];exact ih (WaT hb) (fun e h1 h2=>hq e h1 (Wb4 h2)) i hi
 have fin:∀(fuel:Nat) (listed:Array Bool) (a:Act) (E:Env),unl listed<=fuel->listed.size=ops.size->(∀(j:Nat) (o:Oper),ops[j]? =some o->listed.getD j false=true->∀e∈o.after,Region.binds .any e=true->listed.getD e.on false=true)->(∀j,listed.getD j false=true->j<kt)->n<=a.tmps.size->a.defers=[]->HRel E->(∃m,m<=kt/\E.H=Hs m/\(∀e,e<m->zch ops e=true->listed.getD e false=true)/\∀e,m<=e->zch ops e=true->listed.getD e false=false)->Trans ctx E->
   (∀t,VRel E (tv ops T l0 (fun j=>listed.getD j false=true) t ops.size) (a.tmps.getD t undef))->(∀i,i<kt->listed.getD i false=true)->wpAny P .any ops Q fuel listed a E.w:=by
  rintro fuel listed a E hu ba hc au hlen aD hE ⟨m,hm,hH,h1,h2⟩ tr ax aj;refine hT fuel listed a E hu ba hc (fun i=>⟨au i,aj i⟩) hlen aD hE ?_ tr fun t=>?_
  ·rw[hH]
   refine(const hm (Wae _) fun e he U=>?_).symm
   cases ae:zch ops e with
   |false=>rfl
   |true=>have:=h2 e he ae;rw[aj e U]at this;cases this
  ·have:=ax t
   rw[zob (i:=kt) (WaT aS) (fun j hj _ _ hl=>by have:=au j hl;omega)]at this;rwa[zuu (fun j hj _=>aj j hj)]at this
 have nil:∀(listed:Array Bool),listed.size=ops.size->Region.ready .any ops listed=[]->∀i,i<ops.size->listed.getD i false=true:=by
  intro listed hs hr j
  induction j using Nat.strongRecOn with
  |_ j bb=>
   intro hj
   cases hl:listed.getD j false with
   |true=>rfl
   |false=>
    have aM:j∈Region.ready .any ops listed:=by
     rw[mem_ready];refine⟨by simp only[Wah]at hl|-;rw[WaS (by rw[hs];exact hj)]at hl|-;simpa using hl,ops[j],by simp[hj],fun e he hb=>?_⟩
     have U:=hd.back j ops[j] (by simp[hj]) e he hb
     exact bb e.on U (by omega)
    rw[hr]at aM;cases aM
 intro fuel
 induction fuel with
 |zero=>
  intro listed a E hu hs hc au hlen aD hE hm tr ax
  have:=au kt (zwd (by omega) (by rw[hs];exact aS))
  omega
 |succ fuel ih=>
  intro listed a E hu hs hc au hlen aD hE hm tr ax
  by_cases aj:∀i,i<kt->listed.getD i false=true
  ·exact fin (fuel+1) listed a E hu hs hc au hlen aD hE hm tr ax aj
  refine⟨fun hr=>(aj fun i hi=>nil listed hs hr i (by omega)).elim,fun i hi=>?_⟩;rw[mem_ready]at hi;obtain⟨aN,o,ho,af⟩:=hi
  have ak:i<ops.size:=(Wat.1 ho).1
  have av:i<kt:=by
   rcases WaI i kt with h|h
   ·exact h
   ·exact(aj fun q hq=>(aY q i h ak hq).ready hc ho af).elim
  have ai:i<listed.size:=by rw[hs];exact ak
  have ay:listed.getD i false=false:=by
   simp only[Wah,WaS ai]at aN|-;simpa using aN
  have aU:∀d,o.dst=some d->d<n:=a4 o (Wad (by simpa using ho))
  have later:∀j,zgw ops i j=true->listed.getD j false=true->False:=by
   intro j aq hl;obtain⟨oj,ad,e,he,hb,rfl⟩:=zfl aq
   have:=hc j oj ad hl e he hb
   rw[ay]at this;cases this
  have aO:∀j,zgw ops j i=true->listed.getD j false=true:=by
   intro j aq;obtain⟨oi,aV,e,he,hb,rfl⟩:=zfl aq;rw[ho]at aV;cases aV;exact af e he hb
  have aP:∀t,t∈zbp o->VRel E (tv ops T l0 (fun _=>True) t i) (a.tmps.getD t undef):=by
   intro t ht
   have h1:tv ops T l0 (fun j=>listed.getD j false=true) t ops.size=tv ops T l0 (fun j=>listed.getD j false=true) t i:=by
    refine zob (WaT ak) fun j aW hj aa hl=>?_;obtain⟨oj,ad,aa⟩:=ao aa
    rcases WbG aW with U|rfl
    ·exact later j (hd.war i j o oj t U ho ad (.inr ⟨aa,.inl ht⟩)) hl
    ·rw[ay]at hl;cases hl
   have h2:tv ops T l0 (fun j=>listed.getD j false=true) t i=tv ops T l0 (fun _=>True) t i:=by
    refine zuu fun j hj aa=>?_;obtain⟨oj,ad,aa⟩:=ao aa;exact aO j (hd.war j i oj o t hj ad ho (.inl ⟨aa,.inl ht⟩))
   have:=ax t
   rw[h1,h2]at this;exact this
  have next:∀v E',VRel E' (T i) v->(∃m,m<=kt/\E'.H=Hs m/\(∀e,e<m->zch ops e=true->(listed.setIfInBounds i true).getD e false=true)/\∀e,m<=e->zch ops e=true->(listed.setIfInBounds i true).getD e false=false)->
    HRel E'->Trans E E'->wpAny P .any ops Q fuel (listed.setIfInBounds i true) (a.put o.dst v) E'.w:=by
   intro v E' hv bc hh an;refine ih (listed.setIfInBounds i true) (a.put o.dst v) E' (by have:=zza ai aN;omega) (by simp[hs]) ?_ ?_ ?_ ?_ hh bc (tr.trans an) ?_
   ·intro j oj ad hl e he hb
    rw[zb0 ai]at hl|-;rw[WaE]at hl|-
    rcases hl with hl|hl
    ·have:i=j:=by simpa using hl
     subst this;rw[ho]at ad;cases ad;exact .inr (af e he hb)
    ·exact .inr (hc j oj ad hl e he hb)
   ·intro j hl
    rw[zb0 ai,WaE,decide_eq_true_eq]at hl
    rcases hl with hl|hl
    ·omega
    ·exact au j hl
   ·cases az:o.dst<;>simpa [Act.put,az]using hlen
   ·cases az:o.dst<;>simpa [Act.put,az]using aD
   ·intro t
    by_cases aA:o.dst=some t
    ·have bf:=aU t aA
     have U:t<a.tmps.size:=Was bf hlen
     rw[aA,zm4 U,if_pos rfl]
     have h1:tv ops T l0 (fun j=>(listed.setIfInBounds i true).getD j false=true) t ops.size=tv ops T l0 (fun j=>(listed.setIfInBounds i true).getD j false=true) t (i+1):=by
      refine zob ak fun j aW hj aa hl=>?_;obtain⟨oj,ad,aa⟩:=ao aa;rw[zb0 ai,WaE]at hl
      rcases hl with hl|hl
      ·have:i=j:=by simpa using hl
       omega
      ·exact later j (hd.war i j o oj t (by omega) ho ad (.inl ⟨aA,.inr (.inl aa)⟩)) hl
     rw[h1,tv,if_pos ⟨by rw[zb0 ai];simp,by simp[ho,aA]⟩];exact hv
    ·have h1:tv ops T l0 (fun j=>(listed.setIfInBounds i true).getD j false=true) t ops.size=tv ops T l0 (fun j=>listed.getD j false=true) t ops.size:=by
      refine z1h fun j hj aa=>?_;obtain⟨oj,ad,aa⟩:=ao aa
      have aQ:i≠j:=by rintro rfl;rw[ho]at ad;cases ad;exact aA aa
      rw[zb0 ai];simp[aQ]
     rw[h1]
     have:(a.put o.dst v).tmps.getD t undef=a.tmps.getD t undef:=by
      cases az:o.dst with
      |none=>rfl
      |some d=>rw[zm4 (Was (aU d az) hlen),if_neg (by rintro rfl;exact aA az)]
     rw[this];exact(ax t).trans an
  obtain⟨m,aw,hH,h1,h2⟩:=hm
  have Xi:=X i o av ho
  have al:∀e,zch ops e=true->e≠i->(listed.setIfInBounds i true).getD e false=listed.getD e false:=fun e _ aQ=>by rw[zb0 ai];simp[Ne.symm aQ]
  cases ae:zch ops i with
  |true=>
   have below:∀e,e<i->zch ops e=true->listed.getD e false=true:=fun e he I=>(pre (aC e i he ak I ae)).ready hc ho af
   have aI:∀e,i<e->zch ops e=true->listed.getD e false=false:=fun e he I=>by
    cases hl:listed.getD e false with
    |false=>rfl
    |true=>
     have aJ:e<ops.size:=by
      unfold zch at I
      cases aE:ops[e]? with
      |none=>rw[aE]at I;cases I
      |some oe=>exact(Wat.1 aE).1
     have:=(pre (aC i e he aJ ae I)).listed hc hl
     rw[ay]at this;cases this
   have aR:E.H=Hs i:=by
    rw[hH]
    rcases WbN m i with h|h
    ·refine(const h (WaT av) fun e he U=>?_).symm
     cases I:zch ops e with
     |false=>rfl
     |true=>have:=h2 e he I;rw[below e U I]at this;cases this
    ·refine const h aw fun e he U=>?_
     cases I:zch ops e with
     |false=>rfl
     |true=>
      have:=h1 e U I
      rcases WbG he with hx|hx
      ·rw[aI e hx I]at this;cases this
      ·rw[<-hx,ay]at this;cases this
   refine Xi.eff ae a E hE aR aP _ Q fun v E' hv aF hh an=>next v E' hv ⟨i+1,av,aF,fun e he I=>?_,fun e he I=>?_⟩ hh an
   ·by_cases aX:e=i
    ·subst aX;rw[zb0 ai];simp
    ·rw[al e I aX];exact below e (by omega) I
   ·rw[al e I (by omega)];exact aI e (by omega) I
  |false=>
   have keep:∃m,m<=kt/\Hs m=Hs m/\(∀e,e<m->zch ops e=true->(listed.setIfInBounds i true).getD e false=true)/\∀e,m<=e->zch ops e=true->(listed.setIfInBounds i true).getD e false=false:=
    ⟨m,aw,rfl,fun e he I=>by rw[al e I (by rintro rfl;rw[ae]at I;cases I)];exact h1 e he I,fun e he I=>by rw[al e I (by rintro rfl;rw[ae]at I;cases I)];exact h2 e he I⟩
   have aK:∀E':Env,E'.H=Hs m->∃m,m<=kt/\E'.H=Hs m/\(∀e,e<m->zch ops e=true->(listed.setIfInBounds i true).getD e false=true)/\∀e,m<=e->zch ops e=true->(listed.setIfInBounds i true).getD e false=false:=fun E' bg=>
    ⟨m,aw,bg,fun e he I=>by rw[al e I (by rintro rfl;rw[ae]at I;cases I)];exact h1 e he I,fun e he I=>by rw[al e I (by rintro rfl;rw[ae]at I;cases I)];exact h2 e he I⟩
   cases aL:floQ ops i with
   |true=>
    have aG:∀e,e<ops.size->zch ops e=true->¬Before ops e i->¬Before ops i e->floE ops e=true:=by
     intro e aJ I n1 n2;unfold floE;rw[Wbv];refine⟨i,WaC.2 ak,?_⟩
     have c1:((zis ops.toList).getD i []).contains e=false:=by
      cases hx:((zis ops.toList).getD i []).contains e with
      |false=>rfl
      |true=>exact(n1 (pre hx)).elim
     have c2:((zis ops.toList).getD e []).contains i=false:=by
      cases hx:((zis ops.toList).getD e []).contains i with
      |false=>rfl
      |true=>exact(n2 (pre hx)).elim
     simp only[ae,c1,c2,WbO,Bool.and_self]
    have bh:znv S (Hs i) (Hs m):=by
     intro q hq
     rcases WbN m i with h|h
     ·refine(aT h (WaT av) (fun e he U I=>aG e (by omega) I (fun hb=>?_) (fun hb=>?_)) q hq).symm
      ·have:=hb.ready hc ho af;rw[h2 e he I]at this;cases this
      ·have:=ab hb;omega
     ·refine aT h aw (fun e he U I=>aG e (by omega) I (fun hb=>?_) (fun hb=>?_)) q hq
      ·have:=ab hb;omega
      ·have:=hb.listed hc (h1 e U I);rw[ay]at this;cases this
    exact Xi.flo ae (a7 i ak ae aL) (Hs m) bh a E hE hH aP _ Q fun v E' hv aF hh an=>next v E' hv (aK E' aF) hh an
   |false=>
    have comp:∀e,zch ops e=true->Before ops e i\/Before ops i e:=by
     intro e I
     have aJ:e<ops.size:=by
      unfold zch at I
      cases aE:ops[e]? with
      |none=>rw[aE]at I;cases I
      |some oe=>exact(Wat.1 aE).1
     unfold floQ at aL;rw[Wb5]at aL
     have:=aL e (WaC.2 aJ)
     rw[I]at this
     by_cases hx:((zis ops.toList).getD i []).contains e=true
     ·exact .inl (pre hx)
     ·refine .inr (pre ?_)
      cases hy:((zis ops.toList).getD e []).contains i with
      |true=>rfl
      |false=>
       exfalso;apply this;simp only[Wb6]at hx;simp only[hx,hy,WbO,Bool.and_self]
    have aR:Hs m=Hs i:=by
     rcases WbN m i with h|h
     ·refine(const h (WaT av) fun e he U=>?_).symm
      cases I:zch ops e with
      |false=>rfl
      |true=>
       have h3:=h2 e he I
       rcases comp e I with hb|hb
       ·have:=hb.ready hc ho af;rw[h3]at this;cases this
       ·have:=ab hb;omega
     ·refine const h aw fun e he U=>?_
      cases I:zch ops e with
      |false=>rfl
      |true=>
       have h3:=h1 e U I
       rcases comp e I with hb|hb
       ·have:=ab hb;omega
       ·have:=hb.listed hc h3;rw[ay]at this;cases this
    have one:=Xi.one ae
    rw[<-aR]at one
    exact one a E hE hH aP _ Q fun v E' hv aF hh an=>next v E' hv (aK E' aF) hh an
theorem yh8 {P:Program} {ctx:Env} {n:Cf} {id kt:Nat} {ops:Array Oper} {st:St} {a:Act} {E:Env} {K:St->Prop} {S Fl FE:List Nat} {Q:Exit->Act->World->Prop} (hm:P.follows .mixedOrders=true) (hd:zvj ops=true) (hf:floB ops=true) (ad:floL ops Fl FE=true) (U:kt<ops.size) (hB:z1i ops kt=true)
  (ab:∀o∈ops.toList,∀d,o.dst=some d->d<n.n) (hw:awpF P S Fl FE 0 (ops.toList.take kt) st (fun st'=>awpOps P ops (ops.toList.drop kt) st' K)) (h:SR ctx n st a E) (hQ:∀st' a' E',K st'->SR ctx n st' a' E'->Q .normal a' E'.w):
  (Code.region id ops true).wp P Q a E.w:=by
 have hD:=zq2 hd
 obtain⟨T,Hs,ae,e1,e2,e3,e4,e5⟩:=zyk (kt:=kt) (WaT U) (zwy hf).1 (ops.toList.take kt) 0 st (fun m hm=>by
  have:m<kt:=by simp at hm;omega
  simp[WaR,this]) (by simp;omega) hw
 refine wp_region_any hm ?_
 obtain⟨t0,af⟩:=ziw h.rel {E.w with drawn:=E.w.drawn+1} (Wae _) rfl rfl rfl (fun _ _=>rfl)
 have X:∀(i:Nat) (o:Oper),i<kt->ops[i]? =some o->z8r P ops S Fl FE (fun t=>tv ops T (look st.t) (fun _=>True) t i) T Hs i o:=fun i o hi ho=>by
  have:=e2 i o (Waf _) hi ho
  have l:(fun t=>tvF ops T (look st.t) 0 t (i-0))=fun t=>tv ops T (look st.t) (fun _=>True) t i:=by funext t;rw[WaZ,zuv]
  rwa[l]at this
 have I:∀j,(Array.replicate ops.size false).getD j false=true->False:=by
  intro j hl;simp only[Wah,Wcg]at hl;split at hl<;>simp at hl
 refine yd8 (kt:=kt) (ctx:=ctx) (n:=n.n) hD U (fun i j hj aa hi=>zuw hB j hj aa i (by omega)) hf ad ab X (fun fuel listed a' E' hu ai ak hl h1 h2 h3 h4 h5 h6=>?_) ops.size (Array.replicate ops.size false) a _ ?_ (by simp) ?_ (fun j hl=>(I j hl).elim) h.len h.defers af ⟨0,Waf _,?_,fun e he=>by omega,fun e _ _=>?_⟩ (h.tr.trans t0) fun t=>?_
 ·refine z53 (P:=P) (ctx:=ctx) (n:=n) (K:=K) (k0:=kt) hD ab (fun j hj aa i aj=>zuw hB j hj aa i aj) hQ fuel kt listed a' E' ae (Wae _) (WaT U) ai hu (fun i _=>hl i) ?_ e3
  exact⟨h1,h.hm,h2,fun t=>by rw[e5 t,WaZ,zuv];exact h6 t,h4.trans e4.symm,h3,h5⟩
 ·simp[unl]
  exact WaF (List.countP_le_length) (by simp)
 ·exact fun j o _ hl=>(I j hl).elim
 ·rw[e1,<-h.H]
 ·cases hx:(Array.replicate ops.size false).getD e false with
  |false=>rfl
  |true=>exact(I e hx).elim
 ·have:tv ops T (look st.t) (fun j=>(Array.replicate ops.size false).getD j false=true) t ops.size=look st.t t:=by
   rw[zob (i:=0) (Waf _) (fun j _ _ _ hl=>(I j hl).elim)];rfl
  rw[this];exact(h.tm t).trans t0
theorem ylz {P:Program} {n:Cf} {id kt:Nat} {ops:Array Oper} {st:St} {Q:Ex->St->Prop} (S Fl FE:List Nat) (hm:P.follows .mixedOrders=true) (U:zvj ops=true) (hf:floB ops=true) (ab:floL ops Fl FE=true) (ad:kt<ops.size) (hB:z1i ops kt=true)
  (hw:awpF P S Fl FE 0 (ops.toList.take kt) st (fun st'=>awpOps P ops (ops.toList.drop kt) st' (Q .normal))):Sem' P n (.region id ops true) st Q:=by
 intro I ctx a E hs
 have aa:∀o∈ops.toList,∀d,o.dst=some d->d<n.n:=by
  intro o ho d U;simp only[okC,Wak]at I
  have:=I o ho
  simpa [U]using this
 exact yh8 hm U hf ab ad hB aa hw hs fun st' a' E' hK ae=>⟨.normal,st',E',rfl,rfl,hK,ae⟩
end Go.Lz

end
section
namespace Go.Lz
theorem z8j {P:Program} {f:FuncId} {fn:Func} {c:Code} (hf:P.funcs[f]? =some fn) (hb:fn.body=some c) (hname:(fn.name== "runtime.NumGoroutine")=false) (hok:okC fn.ntmps c=true)
  {args:List V} {H:List O} {K:V->List O->Prop} (h:Sem' P ⟨fn.ntmps,H.length⟩ c ⟨zmd 0 args,H⟩ (endK P fn.results.toList K)):Ct P f args H K:=by
 refine⟨⟨fn,hf,hname,by simp[hb]⟩,fun E vs hE hH hn hv=>?_⟩
 have hs:SR E ⟨fn.ntmps,H.length⟩ ⟨zmd 0 args,H⟩ {tmps:=vs++Array.replicate (fn.ntmps-vs.size) undef,defers:=[]} E:=by
  refine⟨by simp;omega,by rw[hH];exact Wae _,rfl,fun i=>?_,hH,hE,Trans.refl E⟩;simp only[zn8,Waf,if_true,WaZ];simp only[List.getD_eq_getElem?_getD]
  cases hx:args[i]? with
  |none=>simp only[Wb8];exact .un
  |some x=>
   have hlt:i<vs.size:=by rw[hn];exact(Wag.1 hx).1
   have:=hv i x hx
   simp only[WaH];rw[Wah]at this|-;rw[Wbh hlt];exact this
 refine calls_of_wp hf hb (wp_mono (h hok E _ E hs) ?_);rintro e a' w' ⟨x,st',E',rfl,rfl,hq,hs'⟩
 have fin:resK P fn.results.toList st' K->a'.defers=[]/\∃v,(results fn a'.tmps).run P E'.w=.ok v E'.w/\(∃v' x E'',Ending.returned v=.returned v'/\E''.w=E'.w/\K x E''.H/\VRel E'' x v'/\HRel E''/\Trans E E''):=by
  intro hk;obtain⟨v,y,h1,h2,h3⟩:=z6f hs' hk;exact⟨hs'.defers,v,h1,v,y,E',rfl,rfl,h3,h2,hs'.rel,hs'.tr⟩
 cases x with
 |normal=>exact fin hq
 |exit id=>exact hq.elim
 |ret=>exact fin hq
 |goto l=>exact hq.elim
theorem z70 {P:Program} {f:FuncId} {fn:Func} {c:Code} (hf:P.funcs[f]? =some fn) (hb:fn.body=some c) (hname:(fn.name== "runtime.NumGoroutine")=false) (hok:okC fn.ntmps c=true)
  {args:List V} {x:V} (h:Sem' P ⟨fn.ntmps,0⟩ c ⟨zmd 0 args,[]⟩ (endK P fn.results.toList fun v H=>v.view H=x/\x.lt 0=true)):Pu P f args x:=by
 have:=z8j (H:=[]) hf hb hname hok h
 refine⟨this.1,fun E vs h1 h2 h3 h4=>Calls.mono (this.2 E vs h1 h2 h3 h4) ?_⟩;rintro e w' ⟨v,y,E',rfl,rfl,⟨rfl,hl⟩,hv,hh,tr⟩;refine⟨v,_,E'.shut,rfl,rfl,⟨rfl,rfl⟩,zwb hh hv hl,zuy hh,?_⟩
 have e0:∀b,¬E.own b:=by rintro b ⟨id,o,ho,_⟩;simp[h2]at ho
 refine⟨tr.fr,tr.size,tr.os,tr.tape,tr.output,fun b hb _=>tr.keep b hb (e0 b),?_,by simp[h2],by simp[Env.shut],by simp[Env.shut]⟩;rintro b hb ⟨id,o,ho,_⟩;simp[Env.shut]at ho
theorem z9b {P:Program} {n:Cf} {c:Code} {st:St} {Q Q':Ex->St->Prop} (h:Sem' P n c st Q) (hq:∀e s,Q e s->Q' e s):Sem' P n c st Q':=
 fun hok ctx a E hs=>wp_mono (h hok ctx a E hs) (by rintro e a' w' ⟨x,st',E',h1,h2,h3,h4⟩;exact⟨x,st',E',h1,h2,hq _ _ h3,h4⟩)
theorem z1p {P:Program} {n:Cf} {x y:Code} {st:St} {Q:Ex->St->Prop} (h:Sem' P n x st (zqc (fun st'=>Sem' P n y st' Q) Q)):Sem' P n (.seq x y) st Q:=by
 intro hok ctx a E hs;simp only[okC,Wan]at hok;refine wp_seq (wp_mono (h hok.1 ctx a E hs) ?_);rintro e a' w' ⟨k,st',E',rfl,rfl,hq,hs'⟩
 cases k with
 |normal=>exact hq hok.2 ctx a' E' hs'
 |exit id=>exact⟨.exit id,st',E',rfl,rfl,hq,hs'⟩
 |ret=>exact⟨.ret,st',E',rfl,rfl,hq,hs'⟩
 |goto l=>exact⟨.goto l,st',E',rfl,rfl,hq,hs'⟩
theorem ypc {P:Program} {n:Cf} {x y z:Code} {st:St} {Q:Ex->St->Prop} (h:awpS P n [.code x,.code y] st (zqc (fun st'=>Sem' P n z st' Q) Q)):Sem' P n (.seq x (.seq y z)) st Q:=by
 refine z1p (z9b (zhk x st _ h) fun e s hq=>?_)
 cases e with
 |normal=>exact z1p (zhk y s _ hq)
 |exit id=>exact hq
 |ret=>exact hq
 |goto l=>exact hq
theorem cutF {P:Program} {n:Cf} {id:Nat} {ops:Array Oper} {y:Code} {st:St} {Q:Ex->St->Prop} (kt:Nat) (S Fl FE:List Nat) (hm:P.follows .mixedOrders=true) (hb:(zvj ops&&floB ops&&floL ops Fl FE&&decide (kt<ops.size)&&z1i ops kt)=true)
  (hw:awpS P n [.flo S Fl FE 0 (ops.toList.take kt),.ops ops (ops.toList.drop kt),.code y] st Q):Sem' P n (.seq (.region id ops true) y) st Q:=by
 simp only[Wan,decide_eq_true_eq]at hb;obtain⟨⟨⟨⟨hd,hf⟩,hl⟩,hk⟩,hB⟩:=hb;refine z1p (ylz (kt:=kt) S Fl FE hm hd hf hl hk hB ?_);refine awpF.mono (fun s hs=>?_) hw;refine awpOps.mono (fun s hs=>?_) hs;exact zhk y s Q hs
theorem finE {p:Prop} (h:p:=by
 (try simp-implicitDefEqProofs only[go_sem,simprocAttr,F,R])
 (all_goals (repeat (first|(with_reducible intro _)|(with_reducible refine zsk ?_ ?_;exact ss))))
 (all_goals (try (first|(with_reducible refine z4i (by kernel_rfl))|(with_reducible refine zp7 (by kernel_rfl))|omega|(simp[go_sem];omega)|simp[go_sem,F])))
 (all_goals (try contradiction))):p:=h
section
variable {P:Program} {n:Cf} {Fs:List Fr} {Q:Ex->St->Prop}
theorem pT {f:FuncId} {fn:Func} {c:Code} {args:List V} {x:V} (hf:P.funcs[f]? =some fn) (h:Sem' P ⟨fn.ntmps,0⟩ c ⟨zmd 0 args,[]⟩ (endK P fn.results.toList fun v H=>v.view H=x/\x.lt 0=true))
 (hb:fn.body=some c:=by rfl) (hname:(fn.name== "runtime.NumGoroutine")=false:=by kernel_rfl) (hok:okC fn.ntmps c=true:=by kernel_rfl):Pu P f args x:=z70 hf hb hname hok h
theorem iF {f:FuncId} {fn:Func} {c:Code} {args:List V} {H:List O} {d:Option Nat} {S Fl FE:List Nat} {k:Nat} {rest:List Oper} {t:List (Nat×V)} (x:V) (H1:List O) (hf:P.funcs[f]? =some fn)
  (h:awpS P ⟨fn.ntmps,H.length⟩ [.code c] ⟨zmd 0 args,H⟩ (endK P fn.results.toList fun v H'=>v=x/\H'=H1))
  (hk:flA (FE.contains k) S H H1/\awpS P n (.flo S Fl FE (k+1) rest::Fs) (St.put ⟨t,H⟩ d x H1) Q)
  (hb:fn.body=some c:=by rfl) (hname:(fn.name== "runtime.NumGoroutine")=false:=by kernel_rfl) (hok:okC fn.ntmps c=true:=by kernel_rfl):CtF P n f args H d S Fl FE k rest Fs t Q:=
 ⟨x,H1,zuq hf hb hname hok (zw9 h),hk⟩
end
end Go.Lz

end
section
namespace Go.Lz
open Go.Proofs
attribute [-go_sem] zna g_b gd_b
set_option maxRecDepth 100000
set_option maxHeartbeats 4000000
noncomputable section
def zey (r_:xs1) (aa:Nat):Nat->Option ((Nat)⊕(Int⊕Unit))
 |I=>if(I:Int)<4 then((r_.Memory.Blocks[aa]?).bind fun U=>if(I:Int)=0 then(if U.a0<(-2147483648)then(some (.inr (.inl (0))))else(if 1099511627776<U.a0 then(some (.inr (.inl (0))))else(some (.inl (I+1)))))else(if(I:Int)=1 then(if U.a1<(-2147483648)then(some (.inr (.inl (0))))else(if 1099511627776<U.a1 then(some (.inr (.inl (0))))else(some (.inl (I+1)))))else(if(I:Int)=2 then(if U.a2<(-2147483648)then(some (.inr (.inl (0))))else(if 1099511627776<U.a2 then(some (.inr (.inl (0))))else(some (.inl (I+1)))))else(if(I:Int)=3 then(if U.a3<(-2147483648)then(some (.inr (.inl (0))))else(if 1099511627776<U.a3 then(some (.inr (.inl (0))))else(some (.inl (I+1)))))else none))))else(some (.inr (.inr (()))))
def zh6 (r_:xs1):Nat->Option ((Nat)⊕(Int⊕Unit))
 |I=>if(I:Int)<(r_.Memory.Blocks.length:Int)then((loop (zey r_ I) 0).bind (fun aa=>match aa with|(.inl U)=>some (.inr (.inl (U)))|(.inr ())=>some (.inl (I+1))))else(some (.inr (.inr (()))))
def zh7 (r_:xs1):Nat->Option ((Nat)⊕(Int⊕Unit))
 |I=>if(I:Int)<(r_.Left.length:Int)then((r_.Left[I]?).bind fun U=>if U<0 then(some (.inr (.inl (0))))else(if 4096<U then(some (.inr (.inl (0))))else((r_.Latches[I]?).bind fun aa=>if aa<0 then(some (.inr (.inl (0))))else(if 3<aa then(some (.inr (.inl (0))))else(some (.inl (I+1)))))))else(some (.inr (.inr (()))))
def zez (U:List Int) (ad:xsq):Nat->Option ((Nat)⊕(Int⊕Unit))
 |I=>if(I:Int)<(U.length:Int)then((U[I]?).bind fun aa=>(zbm ad.Type_.Kind aa).bind fun ab=>if ab=true then(some (.inl (I+1)))else(some (.inr (.inl (0)))))else(some (.inr (.inr (()))))
def zh8 (p:xsj) (r_:xs1):Nat->Option ((Nat)⊕(Int⊕Unit))
 |I=>if(I:Int)<(p.Vars.length:Int)then((r_.Memory.Cells[I]?).bind fun U=>(p.Vars[I]?).bind fun aa=>(zhh aa.Type_).bind fun ad=>if(U.length:Int)=ad then((loop (zez U aa) 0).bind (fun ae=>match ae with|(.inl ab)=>some (.inr (.inl (ab)))|(.inr ())=>some (.inl (I+1))))else(some (.inr (.inl (0)))))else(some (.inr (.inr (()))))
def ze3 (p:xsj) (I:xs1):Option Int:=
 (zef p).bind fun ae=>if ae=0 then(some 0)else((zfo p).bind fun af=>if af=true then(if(I.Memory.Cells.length:Int)=(p.Vars.length:Int)then(if(I.Memory.Blocks.length:Int)=(p.Blocks.length:Int)then(if(I.Left.length:Int)=(p.Lattice.Names.length:Int)then(if(I.Latches.length:Int)=(p.Lattice.Names.length:Int)then(if 100<(I.Events.length:Int)then(some 0)else(if I.Now<0 then(some 0)else(if 1099511627776<I.Now then(some 0)else((loop (zh8 p I) 0).bind (fun U=>match U with|(.inl aa)=>some aa|(.inr ())=>(loop (zh7 I) 0).bind (fun U=>match U with|(.inl ab)=>some ab|(.inr ())=>(loop (zh6 I) 0).bind (fun U=>match U with|(.inl ad)=>some ad|(.inr ())=>some 1)))))))else(some 0))else(some 0))else(some 0))else(some 0))else(some 0))
def zf8 (p:xsj) (e:xsk):Option Bool:=
 need (0<=(p.Lattice.Names.length:Int)/\8*(p.Lattice.Names.length:Int)<=140737488355328) ((zef (⟨p.Lattice,p.Sites,p.Vars,p.Blocks,[(⟨1,0,(List.replicate p.Lattice.Names.length 0),[(⟨2,[],(⟨0,0,0,[],[]⟩:xsk),e,[],[],[]⟩:xsl)]⟩:xs2)]⟩:xsj)).bind fun I=>if I=1 then((zfo (⟨p.Lattice,p.Sites,p.Vars,p.Blocks,[(⟨1,0,(List.replicate p.Lattice.Names.length 0),[(⟨2,[],(⟨0,0,0,[],[]⟩:xsk),e,[],[],[]⟩:xsl)]⟩:xs2)]⟩:xsj)).bind fun U=>some U)else(some false))
def zcj (p:xsj):((List Int)×Nat)->Option (((List Int)×Nat)⊕(List Int))
 |(I,U)=>if(U:Int)<(p.Blocks.length:Int)then((p.Blocks[U]?).bind fun aa=>need ((I.length+1)*8<=140737488355328) (some (.inl ((I++[aa.Label]),(U+1)))))else(some (.inr (I)))
def zck (p:xsj):((List Int)×Nat)->Option (((List Int)×Nat)⊕(List Int))
 |(I,U)=>if(U:Int)<(p.Vars.length:Int)then((p.Vars[U]?).bind fun aa=>need ((I.length+1)*8<=140737488355328) (some (.inl ((I++[aa.Label]),(U+1)))))else(some (.inr (I)))
def ze7 (p:xsj):Option (List Int):=
 (loop (zck p) ([],0)).bind (fun U=>(loop (zcj p) (U,0)).bind (fun I=>some I))
def ze5 (I:xsk->Option Bool) (e:xsk):Nat->Option ((Nat)⊕(Bool⊕Unit))
 |U=>if(U:Int)<(e.Args.length:Int)then((e.Args[U]?).bind fun aa=>(I aa).bind fun ab=>if ab=true then(some (.inr (.inl (true))))else(some (.inl (U+1))))else(some (.inr (.inr (()))))
def zd0 (I:xsk->Option Bool) (e:xsk):Option Bool:=
 if e.Op=21 then(some true)else((loop (ze5 I e) 0).bind (fun U=>match U with|(.inl aa)=>some aa|(.inr ())=>some false))
def zcm:Nat->(xsk->Option Bool)
 |0=>fun _=>none
 |n+1=>zd0 (zcm n)
def zqw (n:Nat) (e:xsk):Option Bool:=(zcm n) e
def zj8 (e:xsk):Option Bool:=zqw 1000000 e
def zgc (m:xs4) (i:Int) (cells:List Int):Option xs4:=
 if m.Cells.isEmpty=true then none else(need (m.Cells.length*24<=140737488355328) ((idx m.Cells i).bind fun I=>some (⟨(m.Cells.set i.toNat cells),m.Blocks⟩:xs4)))
def zgd (m:xs4) (i:Int) (s:A4 Int):Option xs4:=
 if m.Blocks.isEmpty=true then none else(need (m.Blocks.length*32<=140737488355328) ((idx m.Blocks i).bind fun I=>some (⟨m.Cells,(m.Blocks.set i.toNat s)⟩:xs4)))
end
theorem zmm {p:xsj} {U:xs1} {r:Int} (h:ze3 p U=some r):
  Pu prog 7 [.agg (xso p),.agg (xs6 U)] (.one (.int .i64 r)):=by
 have F:=trivial;have R:=trivial
 refine pA func7 ?_;simp only[f7];unfold ze3 at h;refine bi h fun bA h aH=>?_;refine tr ?_;intros;refine cS (zne aH) ?_;refine fi h F ?_ ?_<;>intro h _ F;cases h;exact fin;refine bi h fun bB h aI=>?_;refine tr ?_;intros;refine cS (znc aI) ?_;refine fv h F ?_ ?_<;>intro h _ F;refine tr ?_;intros;refine fi h F ?_ ?_<;>intro h _ F;refine tr ?_;intros;refine fi h F ?_ ?_<;>intro h _ F;refine tr ?_
 intros;refine fi h F ?_ ?_<;>intro h _ F;refine tr ?_;intros;refine fi h F ?_ ?_<;>intro h _ F;refine tr ?_;intros;refine fi h F ?_ ?_<;>intro h _ F;cases h;exact fin;refine fi h F ?_ ?_<;>intro h _ F;cases h;exact fin;refine tt ?_;refine fi h F ?_ ?_<;>intro h _ F;cases h;exact fin;refine bi h fun aW h aJ=>?_;refine tt ?_
 refine lX aJ (fun|aq,_=>⟨[(2,.one (.ref 0 0 0 0)),(3,.one (.ref 1 0 0 0)),(5,.one (.int .i64 (aq:Int)))],[.cells 0 6 [(eP_ p)],.cells 0 6 [[.sl (U.Memory.Cells.map (eL eI)),.sl (U.Memory.Blocks.map (eA4 eI)),.sl (U.Left.map eI),.sl (U.Latches.map eI),.sl (U.Events.map xss),.int .i64 U.Now]]]⟩) (fun|(.inl bl),_=>⟨[],[]⟩|(.inr ()),_=>⟨[(3,.one (.ref 1 0 0 0))],[.cells 0 6 [(eP_ p)],.cells 0 6 [[.sl (U.Memory.Cells.map (eL eI)),.sl (U.Memory.Blocks.map (eA4 eI)),.sl (U.Left.map eI),.sl (U.Latches.map eI),.sl (U.Events.map xss),.int .i64 U.Now]]]⟩) (fun|(.inl _)=>none|(.inr _)=>some 0) ?_ ?_
 intro i5 b5 aG
 rcases aW with ak|⟨⟩
 cases aG;obtain rfl:=Wab aG;obtain⟨⟩:=b5;dsimp only at h|-;refine bi h fun aK h aB=>?_;refine tt ?_
 refine lX aB (fun|ar,_=>⟨[(3,.one (.ref 1 0 0 0)),(8,.one (.int .i64 (ar:Int)))],[.cells 0 6 [(eP_ p)],.cells 0 6 [[.sl (U.Memory.Cells.map (eL eI)),.sl (U.Memory.Blocks.map (eA4 eI)),.sl (U.Left.map eI),.sl (U.Latches.map eI),.sl (U.Events.map xss),.int .i64 U.Now]]]⟩) (fun|(.inl bm),_=>⟨[],[]⟩|(.inr ()),_=>⟨[(3,.one (.ref 1 0 0 0))],[.cells 0 6 [(eP_ p)],.cells 0 6 [[.sl (U.Memory.Cells.map (eL eI)),.sl (U.Memory.Blocks.map (eA4 eI)),.sl (U.Left.map eI),.sl (U.Latches.map eI),.sl (U.Events.map xss),.int .i64 U.Now]]]⟩) (fun|(.inl _)=>none|(.inr _)=>some 4) ?_ ?_
 intro i18 aX aw
 rcases aK with ak|⟨⟩
 cases aw;obtain rfl:=Wab aw;obtain⟨⟩:=aX;dsimp only at h|-;refine bi h fun aL h aC=>?_;refine tt ?_
 refine lX aC (fun|an,_=>⟨[(3,.one (.ref 1 0 0 0)),(9,.one (.int .i64 (an:Int)))],[.cells 0 6 [(eP_ p)],.cells 0 6 [[.sl (U.Memory.Cells.map (eL eI)),.sl (U.Memory.Blocks.map (eA4 eI)),.sl (U.Left.map eI),.sl (U.Latches.map eI),.sl (U.Events.map xss),.int .i64 U.Now]]]⟩) (fun|(.inl bn),_=>⟨[],[]⟩|(.inr ()),_=>⟨[],[.cells 0 6 [(eP_ p)],.cells 0 6 [[.sl (U.Memory.Cells.map (eL eI)),.sl (U.Memory.Blocks.map (eA4 eI)),.sl (U.Left.map eI),.sl (U.Latches.map eI),.sl (U.Events.map xss),.int .i64 U.Now]]]⟩) (fun|(.inl _)=>none|(.inr _)=>some 6) ?_ ?_
 intro i24 aY ax
 rcases aL with ak|⟨⟩
 cases ax;obtain rfl:=Wab ax;obtain⟨⟩:=aY;dsimp only at h|-;cases h;exact fin;intro aM bC an aZ bD aa ai aN;obtain⟨⟩:=aZ;dsimp only[zh6]at aa|-;refine tr ?_;intros;refine fl aa F ?_ ?_<;>intro aa _ F;refine bi aa fun aO aa aD=>?_;refine tt ?_
 refine lX aD (fun|aj,_=>⟨[(3,.one (.ref 1 0 0 0)),(9,.one (.int .i64 (an:Int))),(10,.one (.int .i64 (aj:Int)))],[.cells 0 6 [(eP_ p)],.cells 0 6 [[.sl (U.Memory.Cells.map (eL eI)),.sl (U.Memory.Blocks.map (eA4 eI)),.sl (U.Left.map eI),.sl (U.Latches.map eI),.sl (U.Events.map xss),.int .i64 U.Now]]]⟩) (fun|(.inl bo),_=>⟨[],[]⟩|(.inr ()),_=>⟨[(3,.one (.ref 1 0 0 0)),(9,.one (.int .i64 (an:Int)))],[.cells 0 6 [(eP_ p)],.cells 0 6 [[.sl (U.Memory.Cells.map (eL eI)),.sl (U.Memory.Blocks.map (eA4 eI)),.sl (U.Left.map eI),.sl (U.Latches.map eI),.sl (U.Events.map xss),.int .i64 U.Now]]]⟩) (fun|(.inl _)=>none|(.inr _)=>some 8) ?_ ?_
 intro i27 a4 ay
 rcases aO with ak|⟨⟩
 cases ay;obtain rfl:=Wab ay;obtain⟨⟩:=a4;dsimp only at aa|-;cases aa;refine tt ?_;refine wn an F fun F=>?_;exact bk aN ai ();intro aP bE aj a6 bF I ae ao;obtain⟨⟩:=a6;dsimp only[zey]at I|-;refine fi I F ?_ ?_<;>intro I _ F;refine bx I F fun bp I bf F=>?_;refine tr ?_;intros;refine fe I F ?_ ?_<;>intro I _ F
 have F:=And.intro (show aj=0 by omega) F
 refine tr ?_;intros;refine fi I F ?_ ?_<;>intro I _ F;cases I;obtain rfl:=sr ae
 try dsimp only at aa
 cases aa;obtain rfl:=sr ai
 try dsimp only at h
 cases h;exact fin;refine fi I F ?_ ?_<;>intro I _ F;cases I;obtain rfl:=sr ae
 try dsimp only at aa
 cases aa;obtain rfl:=sr ai
 try dsimp only at h
 cases h;exact fin;cases I;refine tt ?_;refine wn aj F fun F=>?_;exact bk ao ae ();refine tr ?_;intros;refine fe I F ?_ ?_<;>intro I _ F
 have F:=And.intro (show aj=1 by omega) F
 refine tr ?_;intros;refine fi I F ?_ ?_<;>intro I _ F;cases I;obtain rfl:=sr ae
 try dsimp only at aa
 cases aa;obtain rfl:=sr ai
 try dsimp only at h
 cases h;exact fin;refine fi I F ?_ ?_<;>intro I _ F;cases I;obtain rfl:=sr ae
 try dsimp only at aa
 cases aa;obtain rfl:=sr ai
 try dsimp only at h
 cases h;exact fin;cases I;refine tt ?_;refine wn aj F fun F=>?_;exact bk ao ae ();refine tr ?_;intros;refine fe I F ?_ ?_<;>intro I _ F
 have F:=And.intro (show aj=2 by omega) F
 refine tr ?_;intros;refine fi I F ?_ ?_<;>intro I _ F;cases I;obtain rfl:=sr ae
 try dsimp only at aa
 cases aa;obtain rfl:=sr ai
 try dsimp only at h
 cases h;exact fin;refine fi I F ?_ ?_<;>intro I _ F;cases I;obtain rfl:=sr ae
 try dsimp only at aa
 cases aa;obtain rfl:=sr ai
 try dsimp only at h
 cases h;exact fin;cases I;refine tt ?_;refine wn aj F fun F=>?_;exact bk ao ae ();refine tr ?_;intros;refine fe I F ?_ ?_<;>intro I _ F
 have F:=And.intro (show aj=3 by omega) F
 refine tr ?_;intros;refine fi I F ?_ ?_<;>intro I _ F;cases I;obtain rfl:=sr ae
 try dsimp only at aa
 cases aa;obtain rfl:=sr ai
 try dsimp only at h
 cases h;exact fin;refine fi I F ?_ ?_<;>intro I _ F;cases I;obtain rfl:=sr ae
 try dsimp only at aa
 cases aa;obtain rfl:=sr ai
 try dsimp only at h
 cases h;exact fin;cases I;refine tt ?_;refine wn aj F fun F=>?_;exact bk ao ae ();cases I;cases I;refine tt ?_;exact xt ae aP ();cases aa;refine tt ?_;exact xt ai aM ();intro aQ bG ar a7 bH ab al aR;obtain⟨⟩:=a7;dsimp only[zh7]at ab|-;refine tr ?_;intros;refine fl ab F ?_ ?_<;>intro ab _ F;refine bx ab F fun bq ab bg F=>?_;refine tr ?_;intros;refine fi ab F ?_ ?_<;>intro ab _ F;cases ab
 obtain rfl:=sr al
 try dsimp only at h
 cases h;exact fin;refine tr ?_;intros;refine fi ab F ?_ ?_<;>intro ab _ F;cases ab;obtain rfl:=sr al
 try dsimp only at h
 cases h;exact fin;refine bx ab F fun br ab bh F=>?_;refine tr ?_;intros;refine fi ab F ?_ ?_<;>intro ab _ F;cases ab;obtain rfl:=sr al
 try dsimp only at h
 cases h;exact fin;refine tr ?_;intros;refine fi ab F ?_ ?_<;>intro ab _ F;cases ab;obtain rfl:=sr al
 try dsimp only at h
 cases h;exact fin;cases ab;refine tt ?_;refine wn ar F fun F=>?_;exact bk aR al ();cases ab;refine tt ?_;exact xt al aQ ();intro a8 m5 aq a5 o5 ad av a9;obtain⟨⟩:=a5;dsimp only[zh8]at ad|-;refine tr ?_;intros;refine fl ad F ?_ ?_<;>intro ad _ F;refine bx ad F fun ba ad bs F=>?_;refine bx ad F fun bI ad bt F=>?_;refine bi ad fun bJ ad aS=>?_;refine tr ?_;intros;refine cS (zth aS) ?_
 refine fi ad F ?_ ?_<;>intro ad _ F;refine bi ad fun aT ad aE=>?_;refine tt ?_
 refine lX aE (fun|az,_=>⟨[(2,.one (.ref 0 0 0 0)),(3,.one (.ref 1 0 0 0)),(5,.one (.int .i64 (aq:Int))),(6,.one (.sl (ba.map eI))),(7,.one (.int .i64 (az:Int)))],[.cells 0 6 [(eP_ p)],.cells 0 6 [[.sl (U.Memory.Cells.map (eL eI)),.sl (U.Memory.Blocks.map (eA4 eI)),.sl (U.Left.map eI),.sl (U.Latches.map eI),.sl (U.Events.map xss),.int .i64 U.Now]]]⟩) (fun|(.inl bu),_=>⟨[],[]⟩|(.inr ()),_=>⟨[(2,.one (.ref 0 0 0 0)),(3,.one (.ref 1 0 0 0)),(5,.one (.int .i64 (aq:Int)))],[.cells 0 6 [(eP_ p)],.cells 0 6 [[.sl (U.Memory.Cells.map (eL eI)),.sl (U.Memory.Blocks.map (eA4 eI)),.sl (U.Left.map eI),.sl (U.Latches.map eI),.sl (U.Events.map xss),.int .i64 U.Now]]]⟩) (fun|(.inl _)=>none|(.inr _)=>some 2) ?_ ?_
 intro i11 bb aA
 rcases aT with ak|⟨⟩
 cases aA;obtain rfl:=Wab aA;obtain⟨⟩:=bb;dsimp only at ad|-;cases ad;refine tt ?_;refine wn aq F fun F=>?_;exact bk a9 av ();intro aU bK az bc bL af au aV;obtain⟨⟩:=bc;dsimp only[zez]at af|-;refine tr ?_;intros;refine fl af F ?_ ?_<;>intro af _ F;refine bx af F fun bw af bj F=>?_;refine bi af fun bz af aF=>?_;refine tr ?_;intros;refine cD (zgu aF) ?_;refine tr ?_;intros;refine fv af F ?_ ?_<;>intro af _ F
 cases af;refine tt ?_;refine wn az F fun F=>?_;exact bk aV au ();cases af;obtain rfl:=sr au
 try dsimp only at ad
 cases ad;obtain rfl:=sr av
 try dsimp only at h
 cases h;exact fin;cases af;refine tt ?_;exact xt au aU ();cases ad;obtain rfl:=sr av
 try dsimp only at h
 cases h;exact fin;cases ad;refine tt ?_;exact xt av a8 ();cases h;exact fin;cases h;exact fin;cases h;exact fin;cases h;exact fin;cases h;exact fin
theorem zr6 {p:xsj} {e:xsk} {r:Bool} (h:zf8 p e=some r):
  Pu prog 8 [.agg (xso p),.agg (xsm e)] (.one (.bool r)):=by
 have F:=trivial;have R:=trivial
 refine pA func8 ?_;simp only[f8];unfold zf8 at h;refine nd h F fun h F=>?_
 have R:=And.intro (show List.replicate p.Lattice.Names.length [.int .i64 0]=List.map eI (List.replicate p.Lattice.Names.length 0) by simp[go_sem]) R
 refine bi h fun aa h I=>?_;refine tr ?_;intros;refine cS (zne I) ?_;refine fi h F ?_ ?_<;>intro h _ F;refine bi h fun ab h U=>?_;refine tr ?_;intros;refine cS (znc U) ?_;cases h;exact fin;cases h;exact fin
theorem zqg {p:xsj} {r:List Int} (h:ze7 p=some r):
  Pu prog 23 [.agg (xso p)] (.one (.sl (r.map eI))):=by
 have F:=trivial;have R:=trivial
 refine pA func23 ?_;simp only[f23];unfold ze7 at h;refine bi h fun ai h ax=>?_;refine tt ?_;refine zwf 3 1 (by simp[go_sem]) ?_
 refine lE (fun(aj:(List Int)×Nat) (ak:Nat)=>match aj,ak with|(al,an),ab=>⟨[(1,.one (.ref 0 0 0 0)),(3,.one (.msl 1 ab 0 al.length)),(4,.one (.int .i64 (an:Int)))],[.cells 0 6 [(eP_ p)],.cells ab 1 (al.map eI)]⟩) (fun(ao:List Int) (aq:Nat)=>match ao,aq with|ai,b6=>⟨[(1,.one (.ref 0 0 0 0)),(3,.one (.msl 1 b6 0 ai.length))],[.cells 0 6 [(eP_ p)],.cells b6 1 (ai.map eI)]⟩) (fun(_:List Int)=>some 0) 0 ax ?_ ?_
 intro i6 b6 aB;obtain rfl:=Wab aB;dsimp only at h|-;refine bi h fun ad h av=>?_;refine tt ?_
 refine lE (fun(aj:(List Int)×Nat) (ak:Nat)=>match aj,ak with|(ae,af),aa=>⟨[(1,.one (.ref 0 0 0 0)),(3,.one (.msl 1 aa 0 ae.length)),(5,.one (.int .i64 (af:Int)))],[.cells 0 6 [(eP_ p)],.cells aa 1 (ae.map eI)]⟩) (fun(ao:List Int) (aq:Nat)=>match ao,aq with|ad,ar=>⟨[(3,.one (.msl 1 ar 0 ad.length))],[.cells 0 6 [(eP_ p)],.cells ar 1 (ad.map eI)]⟩) (fun(_:List Int)=>some 2) b6 av ?_ ?_
 intro i15 ar ay;obtain rfl:=Wab ay;dsimp only at h|-;cases h;exact fin;intro az aI aC aa aJ I au aA;obtain⟨ae,af⟩:=aC;dsimp only[zcj]at I|-;refine tr ?_;intros;refine fl I F ?_ ?_<;>intro I _ F;refine bx I F fun aG I aF F=>?_;refine nd I F fun I F=>?_;cases I;refine tr ?_;intros;refine wn af F fun F=>?_;exact bk aA au (aa+1);cases I;refine tt ?_;exact xt au az aa;intro aD m6 s6 ab o6 U aw aE
 obtain⟨al,an⟩:=s6;dsimp only[zck]at U|-;refine tr ?_;intros;refine fl U F ?_ ?_<;>intro U _ F;refine bx U F fun aK U aH F=>?_;refine nd U F fun U F=>?_;cases U;refine tr ?_;intros;refine wn an F fun F=>?_;exact bk aE aw (ab+1);cases U;refine tt ?_;exact xt aw aD ab
theorem zoo {I:xsk->Option Bool} {e:xsk} {r:Bool}
  (U:∀(x0:xsk) (r:Bool),I x0=some r->Pu prog 21 [.agg (xsm x0)] (.one (.bool r))) (h:zd0 I e=some r):
  Pu prog 21 [.agg (xsm e)] (.one (.bool r)):=by
 have F:=trivial;have R:=trivial
 refine pA func21 ?_;simp only[f21];unfold zd0 at h;refine fi h F ?_ ?_<;>intro h _ F;cases h;exact fin;refine bi h fun ai h ae=>?_;refine tt ?_
 refine lX ae (fun|ab,_=>⟨[(1,.one (.ref 0 0 0 0)),(3,.one (.int .i64 (ab:Int)))],[.cells 0 5 [[.int .i64 e.Op,.int .i64 e.N,.int .i64 e.Kind,.str e.Name,.sl (e.Args.map xsm)]]]⟩) (fun|(.inl al),_=>⟨[],[]⟩|(.inr ()),_=>⟨[],[.cells 0 5 [[.int .i64 e.Op,.int .i64 e.N,.int .i64 e.Kind,.str e.Name,.sl (e.Args.map xsm)]]]⟩) (fun|(.inl _)=>none|(.inr _)=>some 0) ?_ ?_
 intro i3 b3 ad
 rcases ai with aj|⟨⟩
 cases ad;obtain rfl:=Wab ad;obtain⟨⟩:=b3;dsimp only at h|-;cases h;exact fin;intro af3 m3 ab a3 o3 aa ho3 ih3;obtain⟨⟩:=a3;dsimp only[ze5]at aa|-;refine tr ?_;intros;refine fl aa F ?_ ?_<;>intro aa _ F;refine bx aa F fun an aa ak F=>?_;refine bi aa fun ao aa af=>?_;refine tr ?_;intros;refine cS (U _ _ af) ?_;refine fv aa F ?_ ?_<;>intro aa _ F;cases aa;obtain rfl:=sr ho3
 try dsimp only at h
 cases h;exact fin;cases aa;refine tt ?_;refine wn ab F fun F=>?_;exact bk ih3 ho3 ();cases aa;refine tt ?_;exact xt ho3 af3 ()
theorem zon (n:Nat):(∀(I:xsk) (r:Bool),(zcm n) I=some r->Pu prog 21 [.agg (xsm I)] (.one (.bool r))):=by
 induction n with
 |zero=>exact fun _ r h=>(by cases h)
 |succ n ih=>
  have U:=ih
  exact fun _ r h=>zoo U h
theorem zpy {e:xsk} {r:Bool} (h:zj8 e=some r):Pu prog 21 [.agg (xsm e)] (.one (.bool r)):=(zon 1000000) _ _ h
theorem zo2 {m:xs4} {i:Int} {cells:List Int} {r:xs4} (h:zgc m i cells=some r):
  Pu prog 25 [.agg (xs9 m),.one (.int .i64 i),.one (.sl (cells.map eI))] (.agg (xs9 r)):=by
 have F:=trivial;have R:=trivial
 refine pA func25 ?_;simp only[f25];unfold zgc at h;refine tr ?_;intros;refine fv h F ?_ ?_<;>intro h _ F;cases h;refine nd h F fun h F=>?_;refine by_ h F fun U h I F=>?_
 have R:=And.intro (show(List.map (eL eI) m.Cells).set i.toNat [.sl (cells.map eI)]=List.map (eL eI) (m.Cells.set i.toNat cells) by simp[go_sem,WaL]) R
 cases h;exact finE
theorem zo3 {m:xs4} {i:Int} {s:A4 Int} {r:xs4} (h:zgd m i s=some r):
  Pu prog 26 [.agg (xs9 m),.one (.int .i64 i),.agg ((eA4 eI) s)] (.agg (xs9 r)):=by
 have F:=trivial;have R:=trivial
 refine pA func26 ?_;simp only[f26];unfold zgd at h;refine tr ?_;intros;refine fv h F ?_ ?_<;>intro h _ F;cases h;refine nd h F fun h F=>?_;refine by_ h F fun U h I F=>?_
 have R:=And.intro (show(List.map (eA4 eI) m.Blocks).set i.toNat [.int .i64 s.a0,.int .i64 s.a1,.int .i64 s.a2,.int .i64 s.a3]=List.map (eA4 eI) (m.Blocks.set i.toNat s) by simp[go_sem,WaL]) R
 cases h;exact finE
end Go.Lz

end
section
namespace Go.Lz
theorem zuo {n:Nat} {g:Nat->Prop} {c:Int} {f:Nat->Option (Nat⊕(Int⊕Unit))} (step:∀i,i<n->Tot (f i) fun r=>r=.inl (i+1)/\g i\/r=.inr (.inl c)) (last:f n=some (.inr (.inr ()))):
  Tot (loop f 0) fun r=>r=.inl c\/r=.inr ()/\∀i,i<n->g i:=by
 refine Tot.loop (fun i=>i<=n/\∀j,j<i->g j) (fun i=>n-i) ⟨Waf _,fun _ h=>by omega⟩ fun i ⟨hi,hI⟩=>?_
 by_cases h:i<n
 ·obtain⟨r,h1,h2⟩:=step i h
  refine⟨r,h1,?_⟩
  rcases h2 with⟨rfl,h2⟩|rfl
  ·exact⟨⟨h,fun j I=>by by_cases e:j=i;exact e▸h2;exact hI j (by omega)⟩,by simp only;omega⟩
  ·exact .inl rfl
 ·have:i=n:=by omega
  subst this;exact⟨_,last,.inr ⟨rfl,hI⟩⟩
structure FitR (p:xsj) (r:xs1):Prop where
 G:zoz p
 L:Lat p.Lattice
 nc:r.Memory.Cells.length=p.Vars.length
 nb:r.Memory.Blocks.length=p.Blocks.length
 nl:r.Left.length=p.Lattice.Names.length
 nt:r.Latches.length=p.Lattice.Names.length
 ne:r.Events.length<=100
 now:0<=r.Now/\r.Now<=1099511627776
 cells:∀(i:Nat) v c,p.Vars[i]? =some v->r.Memory.Cells[i]? =some c->c.length=zxi v.Type_/\∀x∈c,okV v.Type_.Kind x
 lab:∀v∈p.Vars,inN p.Lattice v.Label
 left:∀(i:Nat) a b,r.Left[i]? =some a->r.Latches[i]? =some b->(0<=a/\a<=4096)/\0<=b/\b<=3
theorem zo6 {g:Prop} {i:Nat} {c:Int}:Tot (some (.inr (.inl c)):Option (Nat⊕(Int⊕Unit))) fun r=>r=.inl (i+1)/\g\/r=.inr (.inl c):=Tot.mk (.inr rfl)
theorem go_i {g:Prop} {i:Nat} {c:Int} (h:g):Tot (some (.inl (i+1)):Option (Nat⊕(Int⊕Unit))) fun r=>r=.inl (i+1)/\g\/r=.inr (.inl c):=Tot.mk (.inl ⟨rfl,h⟩)
theorem zx4 {c:Int} {a:Prop} {x:Option (Int⊕Unit)} (h:Tot x fun r=>r=.inl c\/r=.inr ()/\a) {k:Int⊕Unit->Option Int} {S:Int->Prop} (k0:Tot (k (.inl c)) S) (I:a->Tot (k (.inr ())) S):Tot (x.bind k) S:=by
 obtain⟨r,rfl,h⟩:=h
 rcases h with rfl|⟨rfl,h⟩
 ·exact k0
 ·exact I h
theorem yfh (p:xsj) (r:xs1):Tot (ze3 p r) fun n=>n=0\/FitR p r/\n=1:=by
 unfold ze3
 rcases yl4 p with e|⟨e,hd⟩
 ·rw[e];exact Tot.mk (.inl rfl)
 rw[e,Waa,if_neg (by decide)]
 have no:Tot (some (0:Int)) fun n=>n=0\/FitR p r/\n=1:=Tot.mk (.inl rfl)
 refine(ylg hd).bind fun b hb=>Tot.ite (fun U=>?_) fun _=>no;obtain⟨G,L,_,_,l,i1,i2,_,_,⟨_,i3⟩,_⟩:=hb U
 have lab:∀v∈p.Vars,inN p.Lattice v.Label:=fun v hv=>by
  obtain⟨i,hi,rfl⟩:=Wbd hv
  have h1:i<l.length:=by omega
  rw[i3 i hi h1];exact yd2 G hd L i1 _ (Wap h1)
 refine Tot.ite (fun nc=>Tot.ite (fun nb=>Tot.ite (fun nl=>Tot.ite (fun nt=>Tot.ite (fun _=>no) fun ne=>Tot.ite (fun _=>no) fun n0=>Tot.ite (fun _=>no) fun n1=>?_) fun _=>no) fun _=>no) fun _=>no) fun _=>no;refine zx4 (zuo (n:=p.Vars.length) (g:=fun i=>∀v c,p.Vars[i]? =some v->r.Memory.Cells[i]? =some c->c.length=zxi v.Type_/\∀x∈c,okV v.Type_.Kind x) (fun i hi=>?_) (by simp[zh8])) no fun hc=>?_
 ·unfold zh8
  have h1:i<r.Memory.Cells.length:=by omega
  rw[if_pos (by omega),Wac h1,Waa,Wac hi,Waa,yg0,Waa];refine Tot.ite (fun hs=>?_) fun _=>zo6
  have L2:=zuo (n:=r.Memory.Cells[i].length) (c:=0) (g:=fun k=>∀x,r.Memory.Cells[i][k]? =some x->okV p.Vars[i].Type_.Kind x) (f:=zez r.Memory.Cells[i] p.Vars[i]) (fun k hk=>by
   unfold zez;rw[if_pos (by omega),Wac hk,Waa];obtain⟨b,hb,_⟩:=zxh p.Vars[i].Type_.Kind r.Memory.Cells[i][k];rw[hb,Waa];refine Tot.ite (fun U=>go_i fun x hx=>?_) fun _=>zo6;cases hx
   exact z8v (by rw[hb,U])) (by simp[zez])
  obtain⟨q,e1,I⟩:=L2;rw[e1,Waa]
  rcases I with rfl|⟨rfl,I⟩
  ·exact zo6
  ·refine go_i fun v c hv hc=>?_
   cases hv;cases hc;refine⟨by omega,fun x hx=>?_⟩;obtain⟨k,hk,rfl⟩:=Wbd hx;exact I k hk _ (Wac hk)
 refine zx4 (zuo (n:=r.Left.length) (g:=fun i=>∀a b,r.Left[i]? =some a->r.Latches[i]? =some b->(0<=a/\a<=4096)/\0<=b/\b<=3) (fun i hi=>?_) (by simp[zh7])) no fun hl=>?_
 ·unfold zh7
  have h1:i<r.Latches.length:=by omega
  rw[if_pos (by omega),Wac hi,Waa,Wac h1]
  exact Tot.ite (fun _=>zo6) fun a0=>Tot.ite (fun _=>zo6) fun a1=>Tot.ite (fun _=>zo6) fun b0=>Tot.ite (fun _=>zo6) fun b1=>go_i fun a b ha hb=>by
   cases ha;cases hb;omega
 refine zx4 (zuo (n:=r.Memory.Blocks.length) (g:=fun i=>True) (fun i hi=>?_) (by simp[zh6])) no fun _=>Tot.mk (.inr ⟨⟨G,L,by omega,by omega,by omega,by omega,by omega,by omega,fun i v c hv aa=>hc i (Wag.1 hv).1 v c hv aa,lab,fun i a b ha hb=>hl i (Wag.1 ha).1 a b ha hb⟩,rfl⟩);unfold zh6;rw[if_pos (by omega)]
 have L5:=zuo (n:=4) (c:=0) (g:=fun k=>True) (f:=zey r i) (fun k hk=>by
  unfold zey;rw[if_pos (by omega),Wac hi,Waa]
  exact Tot.ite (fun _=>Tot.ite (fun _=>zo6) fun _=>Tot.ite (fun _=>zo6) fun _=>go_i trivial) fun k0=>Tot.ite (fun _=>Tot.ite (fun _=>zo6) fun _=>Tot.ite (fun _=>zo6) fun _=>go_i trivial) fun k1=>Tot.ite (fun _=>Tot.ite (fun _=>zo6) fun _=>Tot.ite (fun _=>zo6) fun _=>go_i trivial) fun k2=>Tot.ite (fun _=>Tot.ite (fun _=>zo6) fun _=>Tot.ite (fun _=>zo6) fun _=>go_i trivial) fun k3=>by omega) (by simp[zey])
 obtain⟨q,e1,I⟩:=L5;rw[e1,Waa]
 rcases I with rfl|⟨rfl,I⟩
 ·exact zo6
 ·exact go_i trivial
theorem z5n {p:xsj} (G:zoz p) (h:zbd p=some 0):∀t∈p.Tasks,zc5 p t.Body=some true:=by
 have P:=G.P
 have key:Tot (zbd p) fun r=>r=6\/∀t∈p.Tasks,zc5 p t.Body=some true:=by
  unfold zbd
  have I:Tot (some (6:Int)) fun r=>r=6\/∀t∈p.Tasks,zc5 p t.Body=some true:=Tot.mk (.inl rfl)
  refine zx4 (zuo (n:=p.Vars.length) (g:=fun i=>True) (fun i hi=>?_) (by simp[zd6])) I fun _=>?_
  ·unfold zd6
   rw[if_pos (by omega),Wac hi,Waa];exact(z8w _).bind fun _ _=>Tot.ite (fun _=>Tot.ite (fun _=>(zxh _ _).bind fun _ _=>Tot.ite (fun _=>go_i trivial) fun _=>zo6) fun _=>Tot.ite (fun _=>(zxh _ _).bind fun _ _=>Tot.ite (fun _=>go_i trivial) fun _=>zo6) fun _=>zo6) fun _=>zo6
  refine zx4 (zuo (n:=p.Blocks.length) (g:=fun i=>True) (fun i hi=>?_) (by simp[zd5])) I fun _=>?_
  ·unfold zd5
   rw[if_pos (by omega),Wac hi,Waa];exact(yhz _).bind fun _ _=>Tot.ite (fun _=>zo6) fun _=>go_i trivial
  refine zx4 (zuo (n:=p.Tasks.length) (g:=fun i=>∀t,p.Tasks[i]? =some t->zc5 p t.Body=some true) (fun i hi=>?_) (by simp[zd4])) I fun ht=>Tot.mk (.inr fun t aa=>?_)
  ·unfold zd4
   rw[if_pos (by omega),Wac hi,Waa]
   have hm:=Wap hi
   obtain⟨b,hb,_⟩:=z1l P 1000000 p.Tasks[i].Body (G.T _ hm).ok (G.d _ hm) (by have:=G.d _ hm;omega)
   have U:zc5 p p.Tasks[i].Body=some b:=hb
   rw[U,Waa];refine Tot.ite (fun h=>go_i fun t ht=>?_) fun _=>zo6;cases ht;rw[U,h]
  ·obtain⟨i,hi,rfl⟩:=Wbd aa
   exact ht i hi _ (Wac hi)
 obtain⟨r,h1,h2⟩:=key;rw[h]at h1;cases h1
 rcases h2 with h2|h2
 ·omega
 ·exact h2
abbrev zx7 (p:xsj) (e:xsk):xsj:=⟨p.Lattice,p.Sites,p.Vars,p.Blocks,[(⟨1,0,(List.replicate p.Lattice.Names.length 0),[(⟨2,[],(⟨0,0,0,[],[]⟩:xsk),e,[],[],[]⟩:xsl)]⟩:xs2)]⟩
theorem z00 {p:xsj} {e:xsk}:∀(n:Nat) (x:xsk),zao n (zx7 p e) x=zao n p x
 |0,x=>rfl
 |n+1,x=>by
  show zas (zao n) (zx7 p e) x=zas (zao n) p x
  unfold zas;simp only[zoi,zly,ztt,z00 n];rfl
theorem yge {p:xsj} (h:p.Lattice.Names.length<=1000) (e:xsk):Tot (zf8 p e) fun b=>b=true->GoodE e/\zga p e=1:=by
 unfold zf8;rw[zc3 (by omega)]
 have no:Tot (some false) fun b=>b=true->GoodE e/\zga p e=1:=Tot.mk fun h=>by cases h
 rcases yl4 (zx7 p e)with q|⟨q,hd⟩
 ·rw[q];exact no
 rw[q,Waa,if_pos rfl];refine(ylg hd).bind fun b hb=>Tot.mk fun U=>?_;obtain⟨G,_,_,hc,_⟩:=hb U
 have ht:(⟨1,0,(List.replicate p.Lattice.Names.length 0),[(⟨2,[],(⟨0,0,0,[],[]⟩:xsk),e,[],[],[]⟩:xsl)]⟩:xs2)∈(zx7 p e).Tasks:=by simp
 have F:=zy3 (zwv (G.T _ ht).ok (⟨2,[],(⟨0,0,0,[],[]⟩:xsk),e,[],[],[]⟩:xsl) (by simp))
 have K:=F.kinds
 have g:GoodE e:=by
  rcases K with h|h|h|h
  ·exact absurd h.1 (by simp)
  ·exact h.2.2.2
  ·exact absurd h.1 (by simp)
  ·exact absurd h.1 (by simp)
 refine⟨g,?_⟩
 have hs:=z5n G hc _ ht
 have hk:zam (zx7 p e) e=some (zga p e):=by
  have e1:zam (zx7 p e) e=zam p e:=z00 1000000 e
  have e2:zga (zx7 p e) e=zga p e:=by unfold zga;rw[e1]
  have e3:=(zum G.P g).1
  rw[e2]at e3;exact e3
 have I:zce (zdb 999999) (zx7 p e) [(⟨2,[],(⟨0,0,0,[],[]⟩:xsk),e,[],[],[]⟩:xsl)]=some true:=hs
 unfold zce at I
 by_cases k1:zga p e=1
 ·exact k1
 ·exfalso
  rw[zb8 (r:=.inl false) (by
   simp only[zge];rw[if_pos (by simp),Wau,Waa];unfold zfp;rw[if_neg (by simp),if_pos (by simp),hk]
   simp[k1])]at I
  cases I
end Go.Lz

end
section
namespace Go.Lz
open Go.Proofs Go.RowKit
attribute [-go_sem] zna g_b gd_b
set_option maxRecDepth 100000
set_option maxHeartbeats 1000000
theorem yh3 {p:xsj} {e:xsk} {b:Bool} (I:Pu prog 194 [.agg (xso p),.agg (xsm e),.un] (.one (.bool b))):Pu prog 193 [.un,.one (.iptr (xso p) 0),.one (.iptr (xsm e) 0)] (.tup []):=by
 have F:=trivial;have R:=trivial
 refine pA func193 ?_;simp only[f193];refine tt ?_;refine cS I ?_;exact fin
theorem yaq {p:xsj} {labels:List Int} {e:xsk} {lr:List Int} {r:Int} (ak:Pu prog 175 [.agg (xso p),.one (.sl (labels.map eI))] (.one (.sl (lr.map eI))))
  (ab:Pu prog 194 [.agg (xso p),.agg (xsm e),.un] (.one (.bool true))) (al:Pu prog 177 [.agg (xs3 p.Lattice),.one (.sl [])] (.one (.int .i64 r))):
  Pu prog 149 [.agg (xso p),.one (.sl (labels.map eI)),.agg (xsm e)] (.one (.int .i64 r)):=by
 have F:=trivial;have R:=trivial
 refine zyg (.inl ⟨_,_,rfl⟩) (z7d 4 func149 fun E a hH hs=>?_);simp only[f149]
 have hs:SR E ⟨39,0⟩ ⟨zmd 0 [.agg (xso p),.one (.sl (labels.map eI)),.agg (xsm e)],[]⟩ a E:=hs
 refine zm0 hs (st':= ?s1) ?h1 ?r1
 case h1=>
  intro K k;refine tt ?_;exact k
 case r1=>
 intro a1 E1 ao;refine zm0 ao (st':= ?s2) ?h2 ?r2
 case h2=>
  intro K k;refine tt ?_;exact k
 case r2=>
 intro a2 E2 aq;refine zm0 aq (st':= ?s3) ?h3 ?r3
 case h3=>
  intro K k;refine tt ?_;refine cS ak ?_;refine tt ?_;exact k
 case r3=>
 intro a3 E3 ar;refine zm0 ar (st':= ?s4) ?h4 ?r4
 case h4=>
  intro K k;refine tt ?_;exact k
 case r4=>
 intro a4 E4 au;refine wp_seq ?_;refine zm0 au (st':= ?s5) ?h5 ?r5
 case h5=>
  intro K k;refine tt ?_;refine iS func176 ?_;simp only[f176];refine tt ?_;exact k
 case r5=>
 intro a5 U I;refine wp_block ((wpIn_wide (n:=4)).1 ?_);obtain⟨vs,an,av,ae⟩:=z3v (I.ρ (.tmp 18));obtain⟨v6,af⟩:∃v,v=vs.getD 0 undef:=⟨_,rfl⟩;obtain⟨v7,ai⟩:∃v,v=vs.getD 1 undef:=⟨_,rfl⟩
 have c6:=z1e I.rel (ae 0 _ rfl)
 have c7:=z1e I.rel (ae 1 _ rfl)
 rw[I.H,<-af]at c6;rw[I.H,<-ai]at c7;simp-implicitDefEqProofs only[go_sem,Nat.reduceAdd,Nat.reduceMul,Nat.reduceLeDiff,Nat.reduceEqDiff,Nat.reduceLT,Int.reduceLE,Int.reduceLT,Int.reduceNeg,Int.reduceEq,Int.reduceAdd,Int.reduceSub,Int.reduceToNat,reduceCtorEq,↓reduceIte]at c6 c7
 refine wpIn_rangeFunc_ownF (α:=Empty) rfl (by omega) an trivial (zye ⟨f193,func193,by kernel_rfl,by kernel_rfl⟩) (encs:=fun x=>x.elim) (Kp:=fun _ _=>True) (S:=fun _=>True) (Sp:=fun _=>False) (N:=0) (w0:=U.w) ?_ (fun _ _=>trivial) (fun _ _ _ _ _ _ _ _=>trivial) (Below.refl _ _) (fun x=>x.elim)
  (fun _ W=>Below U.w.heap.size U.w W) (fun _ _ _=>False) (ownFrom_below (Wae _) (Wae _)) (fun _ _ _ _ _ h=>h.elim) (Below.refl _ _) (fun x=>x.elim) (fun _ x=>x.elim) (fun _ _ x=>x.elim) ?_ (fun _ _ _ _ _ h=>h.elim)
 ·intro l J Jx W hb hJ aD aw ax
  refine callsIn_wide.2 ?_;obtain⟨t,hh⟩:=ziw (zuy I.rel) W hb.size hb.os hb.tape hb.output (fun b h=>hb.block b h)
  have ad:∀(j:Nat) (x:V),[V.un,V.one (.iptr (xso p) 0),V.one (.iptr (xsm e) 0)][j]? =some x->VRel ({U.shut with w:=W}:Env) x ((#[Value.func (.yield l) #[] #[]]++vs).getD j undef):=by
   intro j x hx
   match j with
   |0=>simp at hx;subst hx;exact .un
   |1=>simp at hx;subst hx;exact .one (by rw[xta,show(#[Value.func (.yield l) #[] #[]]++vs).getD 1 undef=v6 by rw[af];simp[Wb0]];exact c6.trans t)
   |2=>simp at hx;subst hx;exact .one (by rw[xtg,show(#[Value.func (.yield l) #[] #[]]++vs).getD 2 undef=v7 by rw[ai];simp[Wb0]];exact c7.trans t)
   |j+3=>simp at hx
  have hc:=(yh3 ab).2 ({U.shut with w:=W}:Env) (#[Value.func (.yield l) #[] #[]]++vs) hh rfl (by simp[av]) ad
  refine Calls.mono hc ?_;rintro e' w' ⟨v,x,E',rfl,rfl,_,hv,aE,ay⟩;exact⟨⟨v,rfl⟩,.inl ⟨[],trivial,hJ _ W _ none ax (z18 ay rfl) (fun r e=>by cases e)⟩⟩
 ·intro D xs W hle _ hI hD
  have az:({a5 with defers:={target:=Target.collected D,args:= #[]}::a5.defers}:Act)=addD [{target:=Target.collected D,args:= #[]}] a5:=by simp[addD,I.defers]
  rw[az]
  show Code.wp prog _ _ (addD [{target:=.collected D,args:= #[]}] a5) W
  obtain⟨t6,aj⟩:=ziw I.rel W hI.size hI.os hI.tape hI.output (fun b h=>hI.block b h)
  have aA:SR ⟨W,U.Fr,U.bd,U.H⟩ ⟨39,8⟩ _ a5 ⟨W,U.Fr,U.bd,U.H⟩:=⟨I.len,by rw[I.H];exact Wae _,I.defers,fun i=>(I.tm i).trans t6,I.H,aj,Trans.refl _⟩
  refine wp_seq (wp_region (ztl (Q:=fun e a' w'=>e=.normal/\∃E',E'.w=w'/\SR ⟨W,U.Fr,U.bd,U.H⟩ ⟨39,8⟩ ?s7 a' E') ?hq _ a5 W (z9i (id:=9) aA (st':= ?s7) ?h7 ?hQ)))
  case h7=>
   intro K k;refine tt ?_;refine cS al ?_;refine tt ?_;exact k
  case hQ=>exact fun a' E' h=>⟨rfl,E',rfl,h⟩
  case hq=>
   rintro e' a' w' ⟨rfl,E7,rfl,aa⟩;refine wp_ret ?_
   have aB:E7.w.heap[D]? =some (.deferred (some [])):=by
    rw[aa.tr.keep D (Wat.1 hD).1 (zno aj hD)];exact hD
   have aC:SR E ⟨39,0⟩ _ a' E7:=⟨aa.len,by rw[hH];exact Wae _,aa.defers,aa.tm,aa.H,aa.rel,(I.tr.trans t6).trans aa.tr⟩
   have h9:=zxq (P:=prog) (n:=4) (fn:=f149) (K:=fun v _=>v=.one (.int .i64 r)) aC aB (WaF I.tr.size hle) (by simp[go_sem,Nat.reduceAdd,Nat.reduceMul,Nat.reduceLeDiff,Nat.reduceEqDiff,Nat.reduceLT,Int.reduceLE,Int.reduceLT,Int.reduceNeg,Int.reduceEq,Int.reduceAdd,Int.reduceSub,Int.reduceToNat,reduceCtorEq,↓reduceIte,resK,zkd,f149])
   show LeavesInM _ _ _ _ a'.tmps _ (a'.defers++_) _ _
   rw[aa.defers];exact h9
end Go.Lz

end
section
namespace Go.Lz
theorem ybp {P:Program} {f:FuncId} {fn:Func} {c:Code} (hf:P.funcs[f]? =some fn) (hb:fn.body=some c) (aa:(fn.name== "runtime.NumGoroutine")=false) (ad:okC fn.ntmps c=true)
  {args:List V} {H:List O} {K:V->List O->Prop} (h:∀(E:Env) (a:Act),E.H=H->(∀(j:Nat) (x:V),args[j]? =some x->VRel E x (a.tmps.getD j undef))->SR E ⟨fn.ntmps,H.length⟩ ⟨zmd 0 args,H⟩ a E->c.wp P (z0e P ⟨fn.ntmps,H.length⟩ (endK P fn.results.toList K) E) a E.w):Ct P f args H K:=by
 refine⟨⟨fn,hf,aa,by simp[hb]⟩,fun E vs hE hH hn hv=>?_⟩
 have hs:SR E ⟨fn.ntmps,H.length⟩ ⟨zmd 0 args,H⟩ {tmps:=vs++Array.replicate (fn.ntmps-vs.size) undef,defers:=[]} E:=by
  refine⟨by simp;omega,by rw[hH];exact Wae _,rfl,fun i=>?_,hH,hE,Trans.refl E⟩;simp only[zn8,Waf,if_true,WaZ];simp only[List.getD_eq_getElem?_getD]
  cases hx:args[i]? with
  |none=>simp only[Wb8];exact .un
  |some x=>
   have ab:i<vs.size:=by rw[hn];exact(Wag.1 hx).1
   have:=hv i x hx
   simp only[WaH];rw[Wah]at this|-;rw[Wbh ab];exact this
 refine calls_of_wp hf hb (wp_mono (h E _ hH (fun j x hx=>by
  have:=hs.tm j
  rw[zn8]at this
  simpa [List.getD_eq_getElem?_getD,hx]using this) hs) ?_)
 rintro e a' w' ⟨x,st',E',rfl,rfl,hq,U⟩
 have fin:resK P fn.results.toList st' K->a'.defers=[]/\∃v,(results fn a'.tmps).run P E'.w=.ok v E'.w/\(∃v' x I,Ending.returned v=.returned v'/\I.w=E'.w/\K x I.H/\VRel I x v'/\HRel I/\Trans E I):=by
  intro hk;obtain⟨v,y,h1,h2,h3⟩:=z6f U hk;exact⟨U.defers,v,h1,v,y,E',rfl,rfl,h3,h2,U.rel,U.tr⟩
 cases x with
 |normal=>exact fin hq
 |exit id=>exact hq.elim
 |ret=>exact fin hq
 |goto l=>exact hq.elim
theorem yh4 {P:Program} {E:Env} (hE:HRel E) {t e s b:Nat} (ht:tSl P t=some (e,s,b)):Good P E (Instr.buildSlice t 0 #[]) ⟨True,True,.one (.slf []),E.H⟩:=by
 intro _;obtain⟨ie,hu,U,hs,hb⟩:=zio ht
 have I:(Instr.buildSlice t 0 #[]).run P E.w=.ok (.slice (some ⟨E.w.heap.size,0,none⟩) 0 0) (E.w.alloc (.cells ((Array.range 0).map fun _=>(default:Value)) e)):=by
  simp[Instr.buildSlice,run_underlying hu,sizeOf,typeInfo,U,newRow,Instr.fill]
 obtain⟨tr,hh⟩:=ziw hE (E.w.alloc (.cells ((Array.range 0).map fun _=>(default:Value)) e)) (by simp) rfl rfl rfl (fun b hb=>by first|exact heap_alloc_old E.w _ b hb|exact heap_alloc_old E.w _ hb)
 exact⟨trivial,_,⟨E.w.alloc (.cells ((Array.range 0).map fun _=>(default:Value)) e),E.Fr,E.bd,E.H⟩,I,rfl,.one (.slf (.sl (fun _ _=>undef) 0 rfl (Waf _) (Waf _) (by simp) (fun h=>(h rfl).elim) (by simp[at2])) ⟨_,rfl⟩),hh,tr⟩
theorem ygt {P:Program} {t e s b:Nat} (ht:tSl P t=some (e,s,b)) {I:Option Addr} {n cap:Nat} (w:World):(binOp .eql t (.slice I n cap) (.slice none 0 0)).run P w=.ok (.bool I.isNone) w:=by
 obtain⟨ie,hu,U,hs,hb⟩:=zio ht
 rw[show binOp .eql t (.slice I n cap) (.slice none 0 0)=(do pure (.bool (<-Op.equal t (.slice I n cap) (.slice none 0 0))))from rfl,Op.equal,Op.maxDepth]
 rw[show(10000:Nat)=9999+1 from rfl,Op.equalIn];cases I<;>simp[run_underlying hu]
theorem yey {E:Env} {rows:List (List C)} {v:Value} (h:VRel E (.one (.sl rows)) v):∃I n cap,v=.slice I n cap/\(I=none->rows=[]):=by
 cases (one_inv h)with
 |sl vals sz hn hcap hlim hsz hb hv=>
  refine⟨_,_,_,rfl,fun h=>?_⟩;subst h
  by_cases e:rows=[]
  ·exact e
  ·obtain⟨_,_,h1,_⟩:=hb e;cases h1
def ybs (t:TypeId):Code:=.region 0 #[{dst:=some 2,op:=.assign (.const (.slice none 0 0)),type:=t,pos:= "slices.go:355",after:= #[],guard:=none}] false
def zse (t:TypeId):Oper:={dst:=some 3,op:=.move (.tmp 0),type:=t,pos:= "slices.go:357",after:= #[],guard:=none}
def zp8 (t b:TypeId):Oper:={dst:=some 4,op:=.binOp .eql t (.tmp 3) (.const (.slice none 0 0)) t,type:=b,pos:= "slices.go:357",after:= #[{on:=0,ground:=.data}],guard:=none}
def yi6 (t b:TypeId):Code:=.region 1 #[zse t,zp8 t b] false
def z5m (t:TypeId):Code:=.region 2 #[{dst:=some 2,op:=.assign (.const (.slice none 0 0)),type:=t,pos:= "slices.go:358",after:= #[],guard:=none}] false
def zur (t:TypeId):Oper:={dst:=some 5,op:=.buildSlice t 0 #[],type:=t,pos:= "slices.go:362",after:= #[],guard:=none}
def zw7 (t:TypeId):Array Oper:= #[zur t,
 {dst:=some 6,op:=.move (.tmp 0),type:=t,pos:= "slices.go:362",after:= #[],guard:=none},
 {dst:=some 7,op:=.call {callee:=.builtin .append,args:= #[.tmp 5,.tmp 6],argTypes:= #[t,t]},type:=t,pos:= "slices.go:362",after:= #[{on:=0,ground:=.data},{on:=1,ground:=.data}],guard:=none},
 {dst:=some 2,op:=.assign (.tmp 7),type:=t,pos:= "slices.go:362",after:= #[{on:=2,ground:=.data},{on:=2,ground:=.chain},{on:=0,ground:=.phase},{on:=1,ground:=.phase},{on:=2,ground:=.phase}],guard:=none}]
def ybr (t:TypeId):Code:=.region 3 (zw7 t) false
def yfm (t b:TypeId):Code:=(ybs t).seq (((yi6 t b).seq (.cond (.tmp 4) ((z5m t).seq .ret) .skip)).seq ((ybr t).seq .ret))
theorem zxd {P:Program} {ops:Array Oper} {Q:Exit->Act->World->Prop} {i:Nat} {l:List Nat} {a:Act} {w:World} {o:Oper} (I:ops[i]? =some o) (U:o.guard=none) (h:o.wp P a w (wpOps P ops Q l) Q):wpOps P ops Q (i::l) a w:=by
 simp only[wpOps,I,Region.wanted,U,if_true];exact .inl h
theorem zvt {P:Program} {o:Oper} {a:Act} {w w':World} {v:Value} {next:Act->World->Prop} {Q:Exit->Act->World->Prop} (h:(execOp a.eval o).run P w=.ok (.value v) w') (hn:next (a.put o.dst v) w'):o.wp P a w next Q:=by
 unfold Oper.wp;rw[h];exact hn
def zsq (H:List O) (rows:List (List C)):V:=.one (.msl H.length 0 0 rows.length)
def zsr (H:List O) (s:Nat) (rows:List (List C)):List O:=H++[.cells 0 s rows]
theorem yek {P:Program} {f:FuncId} {fn:Func} {t b e s by_:Nat} {z:V} {zs:List C} {rows:List (List C)} {H:List O} (hf:P.funcs[f]? =some fn) (hb:fn.body=some (yfm t b)) (aj:(fn.name== "runtime.NumGoroutine")=false) (ak:fn.ntmps=8) (au:fn.results= #[.tmp 2])
  (ht:tSl P t=some (e,s,by_)) (hz:tZ P e=some z) (al:z.cs=some zs) (hl:zs.length=s) (an:0<s) (hr:∀r∈rows,r.length=s) (hlim:rows.length*by_<=140737488355328) (ae:rows.length<=lim):
  Ct P f [.one (.sl rows)] H fun v H'=>v=zsq H rows/\H'=zsr H s rows:=by
 refine ybp hf hb aj (by rw[ak];rfl) fun E a aG av hs=>?_;rw[ak,au]at*
 have ax:=av 0 _ rfl
 obtain⟨U,n,cap,e0,ai⟩:=yey ax
 have fin:∀(st:St) (a':Act) (E':Env),SR E ⟨8,H.length⟩ st a' E'->(st.H=H/\rows=[]/\look st.t 2=.one (.slf [])\/st.H=zsr H s rows/\look st.t 2=zsq H rows)->
   z0e P ⟨8,H.length⟩ (endK P #[ResultVar.tmp 2].toList fun v H'=>v=zsq H rows/\H'=zsr H s rows) E .ret a' E'.w:=by
  rintro st a' E' af (⟨h1,h2,h3⟩|⟨h1,h2⟩)
  ·obtain⟨E2,hw,aa⟩:=SR.seed (n:=⟨8,H.length⟩) af 2 s h3
   refine⟨.ret,_,E2,rfl,hw,?_,aa⟩;subst h2;simp[endK,resK,zkd,look,zsq,zsr,h1]
  ·refine⟨.ret,st,E',rfl,rfl,?_,af⟩
   simp[endK,resK,zkd,h1,h2]
 refine wp_seq (wp_mono (zhk (ybs t) _ (fun e st'=>e=.normal/\st'=⟨(2,.one (.slf []))::zmd 0 [.one (.sl rows)],H⟩) ⟨trivial,fun _=>⟨rfl,rfl⟩⟩ rfl E a E hs) ?_);rintro _ a1 _ ⟨_,_,E1,rfl,rfl,⟨rfl,rfl⟩,I⟩;refine wp_seq (wp_seq ?_)
 have ay:VRel E1 (.one (.sl rows)) (a1.tmps.getD 0 undef):=I.tm 0
 refine wp_region ?_
 show wpOps P #[zse t,zp8 t b] _ [0,1] a1 E1.w
 have aa:=I.put (o:=zse t) (by simp[zse]) (x:=.one (.sl rows)) (v:=a1.tmps.getD 0 undef) ay I.H I.rel (Trans.refl E1)
 refine zxd (o:=zse t) rfl rfl (zvt (v:=a1.tmps.getD 0 undef) (w':=E1.w) (by simp[zse,execOp,Act.eval,Wah]) ?_)
 generalize a1.put (zse t).dst (a1.tmps.getD 0 undef)=a2 at aa|-
 obtain⟨U,n,cap,e2,ai⟩:=yey (show VRel E1 (.one (.sl rows)) (a2.eval (.tmp 3))from aa.ρ (.tmp 3));refine zxd (o:=zp8 t b) rfl rfl (zvt (v:=.bool U.isNone) (w':=E1.w) ?_ ?_)
 ·have h6:(execOp a2.eval (zp8 t b))=(do pure (.value (<-binOp .eql t (.slice U n cap) (.slice none 0 0)))):=by
   simp[zp8,execOp,e2,eqGuard];rfl
  rw[h6];simp[ygt ht]
 have ab:=aa.put (o:=zp8 t b) (by simp[zp8]) (x:=.one (.bool U.isNone)) (v:=.bool U.isNone) (.one .bool) I.H I.rel (Trans.refl E1)
 generalize a2.put (zp8 t b).dst (.bool U.isNone)=a3 at ab|-
 show(Code.cond (.tmp 4) ((z5m t).seq .ret) .skip).wp P _ a3 E1.w
 have hc:a3.eval (.tmp 4)=.bool U.isNone:=by
  have:=ab.ρ (.tmp 4)
  exact bool_inv (one_inv this)
 refine wp_cond hc ?_
 cases az:U with
 |none=>
  simp only[Option.isNone_none,if_true];refine wp_seq (wp_mono (zhk (z5m t) _ (fun e st'=>e=.normal/\st'.H=H/\look st'.t 2=.one (.slf [])) ⟨trivial,fun _=>⟨rfl,rfl,rfl⟩⟩ rfl E a3 E1 ab) ?_);rintro _ a4 _ ⟨_,_,E4,rfl,rfl,⟨rfl,h1,h2⟩,aA⟩;exact wp_ret (fin _ _ _ aA (.inl ⟨h1,ai az,h2⟩))
 |some aH=>
  simp only[Option.isNone_some,WaD,if_false];refine wp_skip ?_
  show((ybr t).seq .ret).wp P _ a3 E1.w
  refine wp_seq (wp_region ?_);obtain⟨_,v5,E5,aw,aB,aC,aD,aE⟩:=yh4 (P:=P) ab.rel ht trivial
  show wpOps P (zw7 t) _ [0,1,2,3] a3 E1.w
  refine zxd (o:=zur t) rfl rfl (zvt (v:=v5) (w':=E5.w) (by simp[zur,execOp,aw]) ?_)
  have aF:=ab.put (o:=zur t) (by simp[zur]) aC aB aD aE
  refine zxa (K:=fun st'=>st'.H=H/\rows=[]/\look st'.t 2=.one (.slf [])\/st'.H=zsr H s rows/\look st'.t 2=zsq H rows) _ (fun st' a' E' hK af=>wp_ret (fin _ _ _ af hK)) (by simp[zw7,zur]) [1,2,3] ((zw7 t).toList.drop 1) rfl (fun k i hk=>by
   match k with
   |0=>simp at hk;subst hk;rfl
   |1=>simp at hk;subst hk;rfl
   |2=>simp at hk;subst hk;rfl
   |k+3=>simp at hk) _ _ E5 aF ?_
  have ao:E1.H=H:=I.H
  have e3:∀x y:V,(zw7 t).toList.drop 1=[{dst:=some 6,op:=.move (.tmp 0),type:=t,pos:= "slices.go:362",after:= #[],guard:=none},
   {dst:=some 7,op:=.call {callee:=.builtin .append,args:= #[.tmp 5,.tmp 6],argTypes:= #[t,t]},type:=t,pos:= "slices.go:362",after:= #[{on:=0,ground:=.data},{on:=1,ground:=.data}],guard:=none},
   {dst:=some 2,op:=.assign (.tmp 7),type:=t,pos:= "slices.go:362",after:= #[{on:=2,ground:=.data},{on:=2,ground:=.chain},{on:=0,ground:=.phase},{on:=1,ground:=.phase},{on:=2,ground:=.phase}],guard:=none}]:=fun _ _=>rfl
  rw[e3 .un .un]
  have aq:z5c "slices.go:362" =false:=by decide
  cases rows with
  |nil=>simp[awpOps,guarded2,awpOp,yb1,zdo,biZ,biF,aq,zsj,ht,hz,al,hl,an,zme,St.ρ,St.put,look,zur,zp8,zse,zmd,R.ok,ao]
  |cons r rs=>
   have ar:r.length=s/\∀x∈rs,x.length=s:=by simpa using hr
   simp at hlim ae;simp[awpOps,guarded2,awpOp,yb1,zdo,biZ,biF,aq,zsj,ht,hz,al,hl,an,zme,St.ρ,St.put,look,zur,zp8,zse,zmd,R.ok,zsq,zsr,hlim,ae,ar.1,ao];exact ar.2
end Go.Lz

end
section
namespace Go.Lz
instance dMk {p f:Prop} {v:V} {h:List O} [d:Decidable p]:Decidable (R.mk p f v h).pre:=d
instance dOk {v:V} {h:List O}:Decidable (R.ok v h).pre:=.isTrue trivial
instance dBad:Decidable R.bad.pre:=.isFalse id
def rowB (H:List O):C->Bool
 |.iptr _ _=>true
 |.ref id ver r _=>match H[id]? with
  |some (.cells cur _ rows)=>decide (ver=cur/\r<rows.length)
  |_=>false
 |_=>false
theorem z6c {H:List O} {c:C} {row:List C} {off:Nat} {p:Prop} (h:zvc H c=some (row,off,p)):rowB H c=true↔p:=by
 cases c<;>simp only[zvc,reduceCtorEq]at h
 case iptr=>simp only[WaQ,WbR]at h;obtain⟨_,_,rfl⟩:=h;simp[rowB]
 case ref=>
  split at h
  ·rename_i ho;simp only[WaQ,WbR]at h;obtain⟨_,_,rfl⟩:=h;simp[rowB,ho]
  ·cases h
def ygv (H:List O):C->Bool
 |.msl id ver _ _=>match H[id]? with
  |some (.cells cur _ _)=>decide (ver=cur)
  |_=>false
 |_=>true
theorem z9e {H:List O} {c:C} {rows:List (List C)} {p:Prop} (h:zme H c=some (rows,p)):ygv H c=true↔p:=by
 cases c<;>simp only[zme,reduceCtorEq]at h
 case msl=>
  split at h
  ·rename_i ho;simp only[WaQ,WbR]at h;obtain⟨_,rfl⟩:=h;simp[ygv,ho]
  ·cases h
 all_goals (simp only[WaQ,WbR]at h;obtain⟨_,rfl⟩:=h;simp[ygv])
def dRow {H:List O} {c:C} {row:List C} {off:Nat} {p:Prop} (h:zvc H c=some (row,off,p)):Decidable p:=decidable_of_iff _ (z6c h)
def yi5 {H:List O} {c:C} {rows:List (List C)} {p:Prop} (h:zme H c=some (rows,p)):Decidable p:=decidable_of_iff _ (z9e h)
section
variable (P:Program) (H:List O)
instance dPick (c a b:V):Decidable (z1w c a b H).pre:=by unfold z1w;repeat' (first|infer_instance|split)
instance dNew (cs:List C):Decidable (newF cs H).pre:=by unfold newF;infer_instance
instance dLoad (t:TypeId) (a:V):Decidable (zt2 P t a H).pre:=by
 unfold zt2
 repeat' (first|infer_instance|(rename_i h;have:=dRow h;infer_instance)|split)
instance dStore (t:TypeId) (a x:V):Decidable (zya P t a x H).pre:=by unfold zya;repeat' (first|infer_instance|split)
instance dInt (op:BinOp) (k:IntKind) (a b:Int):Decidable (intF op k a b H).pre:=by unfold intF;repeat' (first|infer_instance|split)
instance dSh (op:BinOp) (k:IntKind) (a b:Int):Decidable (shF op k a b H).pre:=by unfold shF;repeat' (first|infer_instance|split)
instance dStr (op:BinOp) (a b:List UInt8):Decidable (strF op a b H).pre:=by unfold strF;repeat' (first|infer_instance|split)
instance dEq (op:BinOp) (t:TypeId) (a b:List C):Decidable (eqF P op t a b H).pre:=by unfold eqF;repeat' (first|infer_instance|split)
instance dNil (op:BinOp) (t:TypeId) (b:Bool):Decidable (nilF P op t b H).pre:=by unfold nilF;repeat' (first|infer_instance|split)
instance dBin (op:BinOp) (t:TypeId) (x y:V):Decidable (binF P op t x y H).pre:=by unfold binF;repeat' (first|infer_instance|split)
instance dUn (op:UnOp) (x:V):Decidable (unF op x H).pre:=by unfold unF;repeat' (first|infer_instance|split)
instance dIA (t:TypeId) (x i:V):Decidable (zkp P t x i H).pre:=by unfold zkp;repeat' (first|infer_instance|split)
instance dIx (t:TypeId) (x i:V):Decidable (zwu P t x i H).pre:=by unfold zwu;repeat' (first|infer_instance|split)
instance dFA (t:TypeId) (x:V) (f:Nat):Decidable (ze4 P t x f H).pre:=by unfold ze4;repeat' (first|infer_instance|split)
instance dF (t:TypeId) (x:V) (f:Nat):Decidable (zwz P t x f H).pre:=by unfold zwz;repeat' (first|infer_instance|split)
instance dMake (pl:Bool) (t:TypeId) (l c:V):Decidable (zmr P pl t l c H).pre:=by unfold zmr;repeat' (first|infer_instance|split)
instance dSR (t:TypeId) (rows:List (List C)) (lo hi mx:Option V):Decidable (zk1 P t rows lo hi mx H).pre:=by unfold zk1;repeat' (first|infer_instance|split)
instance dSl (t:TypeId) (x:V) (lo hi mx:Option V):Decidable (zzg P t x lo hi mx H).pre:=by unfold zzg;repeat' (first|infer_instance|split)
instance dLen (t:TypeId) (x:V):Decidable (lenF P t x H).pre:=by unfold lenF;repeat' (first|infer_instance|split)
instance dApp (ts:Array TypeId) (s x:V):Decidable (zsj P ts s x H).pre:=by
 unfold zsj
 repeat' (first|infer_instance|split)
 all_goals (have:=yi5 ‹zme H _=some (_,_)›;dsimp only;infer_instance)
instance dCopy (ts:Array TypeId) (s x:V):Decidable (z8m P ts s x H).pre:=by
 unfold z8m
 repeat' (first|infer_instance|(rename_i h;have:=yi5 h;infer_instance)|split)
instance dClear (ts:Array TypeId) (x:V):Decidable (z06 P ts x H).pre:=by unfold z06;repeat' (first|infer_instance|split)
instance dBi (b:Builtin) (ts:Array TypeId) (args:List V):Decidable (biF P b ts args H).pre:=by unfold biF;repeat' (first|infer_instance|split)
instance dBuild (t:TypeId) (parts:List (Nat×V)):Decidable (zw8 P t parts H).pre:=by unfold zw8;repeat' (first|infer_instance|split)
instance dBuildS (own:Bool) (t:TypeId) (n:Nat) (parts:List (Nat×V)):Decidable (zmz P own t n parts H).pre:=by unfold zmz;repeat' (first|infer_instance|split)
instance dStrC (s d:TypeId) (b:List UInt8):Decidable (zux P s d b H).pre:=by unfold zux;repeat' (first|infer_instance|split)
instance dByC (s d:TypeId) (c:C):Decidable (zls P s d c H).pre:=by
 unfold zls
 repeat' (first|infer_instance|(rename_i h _ _;have:=yi5 h;infer_instance)|split)
instance dMsC (s d:TypeId) (id ver lo hi:Nat):Decidable (zu3 P s d id ver lo hi H).pre:=by unfold zu3;repeat' (first|infer_instance|split)
instance dConv (s d:TypeId) (x:V):Decidable (z5k P s d x H).pre:=by unfold z5k;repeat' (first|infer_instance|split)
instance dLookR (z:C) (ok:Bool) (o:Option (Option C)):Decidable (zzz z ok H o).pre:=by unfold zzz;repeat' (first|infer_instance|split)
instance dLookup (t:TypeId) (m k:V) (ok:Bool):Decidable (zrh P t m k ok H).pre:=by unfold zrh;repeat' (first|infer_instance|split)
instance dMapPut (t:TypeId) (m k v:V):Decidable (zv3 P t m k v H).pre:=by unfold zv3;repeat' (first|infer_instance|split)
instance dMkIf (t:TypeId) (x:V):Decidable (zrf P t x H).pre:=by unfold zrf;repeat' (first|infer_instance|split)
instance dNoIf (a:TypeId) (ok:Bool):Decidable (z0i P a ok H).pre:=by unfold z0i;repeat' (first|infer_instance|split)
instance dIsIf (ok:Bool) (cs:List C):Decidable (z16 ok cs H).pre:=by unfold z16;infer_instance
instance dTA (x:V) (a:TypeId) (ok:Bool):Decidable (zi0 P x a ok H).pre:=by unfold zi0;repeat' (first|infer_instance|split)
instance dAnd {p:Prop} {r:R} [d:Decidable p] [e:Decidable r.pre]:Decidable (andR p r).pre:=by unfold andR;exact inferInstanceAs (Decidable (p/\r.pre))
instance dFzc (c:C):Decidable (fzPc H c):=by unfold fzPc;repeat' (first|infer_instance|split)
def dFzp:(l:List C)->Decidable (fzP H l)
 |[]=>.isTrue trivial
 |c::r=>have:=dFzp r;inferInstanceAs (Decidable (fzPc H c/\fzP H r))
instance (l:List C):Decidable (fzP H l):=dFzp H l
instance dAppZ (ts:Array TypeId) (s x:V):Decidable (zx1 P ts s x H).pre:=by unfold zx1;repeat' (first|infer_instance|split)
instance dBiZ (z:Bool) (b:Builtin) (ts:Array TypeId) (args:List V):Decidable (biZ P z b ts args H).pre:=by unfold biZ;repeat' (first|infer_instance|split)
instance dConvZ (z:Bool) (s d:TypeId) (x:V):Decidable (z5j P z s d x H).pre:=by unfold z5j;repeat' (first|infer_instance|split)
instance dStep (pos:String) (op:Op) (ρ:Operand->V):Decidable (zdo P pos op ρ H).pre:=by unfold zdo;repeat' (first|infer_instance|split)
end
mutual
def eqC:C->C->Bool
 |.int k a,.int k' b=>decide (k=k')&&decide (a=b)
 |.bool a,.bool b=>decide (a=b)
 |.str a,.str b=>decide (a=b)
 |.sl r,.sl r'=>zym r r'
 |.slf r,.slf r'=>zym r r'
 |.iptr r o,.iptr r' o'=>z2g r r'&&decide (o=o')
 |.fn f c,.fn f' c'=>decide (f=f')&&z2g c c'
 |.nilfn,.nilfn=>true
 |.nilif,.nilif=>true
 |.nilp,.nilp=>true
 |.nilm,.nilm=>true
 |.ref a b c d,.ref a' b' c' d'=>decide (a=a'/\b=b'/\c=c'/\d=d')
 |.msl a b c d,.msl a' b' c' d'=>decide (a=a'/\b=b'/\c=c'/\d=d')
 |.mp a,.mp a'=>decide (a=a')
 |_,_=>false
def z2g:List C->List C->Bool
 |[],[]=>true
 |c::r,c'::r'=>eqC c c'&&z2g r r'
 |_,_=>false
def zym:List (List C)->List (List C)->Bool
 |[],[]=>true
 |c::r,c'::r'=>z2g c c'&&zym r r'
 |_,_=>false
end
mutual
theorem yfk:∀{a b:C},eqC a b=true->a=b
 |.int k a,b,h=>by cases b<;>simp[eqC]at h;obtain⟨rfl,rfl⟩:=h;rfl
 |.bool a,b,h=>by cases b<;>simp[eqC]at h;subst h;rfl
 |.str a,b,h=>by cases b<;>simp[eqC]at h;subst h;rfl
 |.sl r,b,h=>by cases b<;>simp[eqC]at h;rw[zw2 h]
 |.slf r,b,h=>by cases b<;>simp[eqC]at h;rw[zw2 h]
 |.iptr r o,b,h=>by cases b<;>simp[eqC]at h;rw[zw3 h.1,h.2]
 |.fn f c,b,h=>by cases b<;>simp[eqC]at h;rw[zw3 h.2,h.1]
 |.ifc t c,b,h=>by cases b<;>simp[eqC]at h
 |.nilfn,b,h=>by cases b<;>simp[eqC]at h;rfl
 |.nilif,b,h=>by cases b<;>simp[eqC]at h;rfl
 |.nilp,b,h=>by cases b<;>simp[eqC]at h;rfl
 |.nilm,b,h=>by cases b<;>simp[eqC]at h;rfl
 |.ref a1 a2 a3 a4,b,h=>by cases b<;>simp[eqC]at h;obtain⟨rfl,rfl,rfl,rfl⟩:=h;rfl
 |.msl a1 a2 a3 a4,b,h=>by cases b<;>simp[eqC]at h;obtain⟨rfl,rfl,rfl,rfl⟩:=h;rfl
 |.mp a,b,h=>by cases b<;>simp[eqC]at h;subst h;rfl
theorem zw3:∀{a b:List C},z2g a b=true->a=b
 |[],b,h=>by cases b<;>simp[z2g]at h;rfl
 |c::r,b,h=>by
  cases b with
  |nil=>simp[z2g]at h
  |cons c' r'=>simp[z2g]at h;rw[yfk h.1,zw3 h.2]
theorem zw2:∀{a b:List (List C)},zym a b=true->a=b
 |[],b,h=>by cases b<;>simp[zym]at h;rfl
 |c::r,b,h=>by
  cases b with
  |nil=>simp[zym]at h
  |cons c' r'=>simp[zym]at h;rw[zw3 h.1,zw2 h.2]
end
def eqV:V->V->Bool
 |.one a,.one b=>eqC a b
 |.agg a,.agg b=>z2g a b
 |.un,.un=>true
 |_,_=>false
theorem ybk {a b:V} (h:eqV a b=true):a=b:=by
 cases a<;>cases b<;>simp[eqV]at h
 ·rw[yfk h]
 ·rw[zw3 h]
 ·rfl
def eqVs:List V->List V->Bool
 |[],[]=>true
 |a::r,b::r'=>eqV a b&&eqVs r r'
 |_,_=>false
theorem ybj:∀{a b:List V},eqVs a b=true->a=b
 |[],b,h=>by cases b<;>simp[eqVs]at h;rfl
 |c::r,b,h=>by
  cases b with
  |nil=>simp[eqVs]at h
  |cons c' r'=>simp[eqVs]at h;rw[ybk h.1,ybj h.2]
def eqOo:Option O->Option O->Bool
 |none,none=>true
 |some (.cells v s r),some (.cells v' s' r')=>decide (v=v'/\s=s')&&zym r r'
 |some .dead,some .dead=>true
 |_,_=>false
theorem ybm {a b:Option O} (h:eqOo a b=true):a=b:=by
 cases a with
 |none=>cases b<;>simp[eqOo]at h;rfl
 |some a=>cases b with
  |none=>cases a<;>simp[eqOo]at h
  |some b=>
   cases a<;>cases b<;>simp[eqOo]at h
   ·obtain⟨⟨rfl,rfl⟩,h2⟩:=h;rw[zw2 h2]
   ·rfl
def z7i (S:List Nat) (H H':List O):Bool:=S.all fun i=>eqOo (H'[i]?) (H[i]?)
theorem z0d {S:List Nat} {H H':List O} (h:z7i S H H'=true):znv S H H':=by
 intro i hi;simp only[z7i,Wak]at h;exact ybm (h i hi)
def eqOs:List O->List O->Bool
 |[],[]=>true
 |a::r,b::r'=>eqOo (some a) (some b)&&eqOs r r'
 |_,_=>false
theorem ybl:∀{a b:List O},eqOs a b=true->a=b
 |[],b,h=>by cases b<;>simp[eqOs]at h;rfl
 |c::r,b,h=>by
  cases b with
  |nil=>simp[eqOs]at h
  |cons c' r'=>simp[eqOs]at h;rw[Wab (ybm h.1),ybl h.2]
abbrev z0f:=FuncId->List V->List O->Option (V×List O)
def zmo (P:Program) (call:z0f):Prop:=∀g args H v H',call g args H=some (v,H')->Ct P g args H fun x H2=>x=v/\H2=H'
section
variable (P:Program) (call:z0f)
def pcOf (g:FuncId) (args:List V):Option V:=match call g args []with
 |some (v,H')=>match(v.view H').lt 0 with
  |true=>some (v.view H')
  |false=>none
 |none=>none
def yq5:V->Bool
 |.one (.ref ..)=>true
 |.one (.mp _)=>true
 |_=>false
def yqg (g:FuncId):Bool:=match P.funcs[g]? with
 |some fn=>ownFnL.contains fn.name
 |none=>false
def ybi (g:FuncId) (args:List V) (H:List O):Option (V×List O):=
 match yqg P g||args.any yq5|| !ltVs 0 (args.map (V.view H))with
 |true=>call g args H
 |false=>match pcOf call g (args.map (V.view H))with
  |some x=>match args.all (fun a=> !a.own)||x.scalar with
   |true=>some (x,H)
   |false=>call g args H
  |none=>call g args H
def evOp (o:Oper) (st:St):Option St:=
 match o.op with
 |.call {callee:=.value f,args,argTypes:=_}=>match st.ρ f with
  |.one (.fn g cap)=>match ybi P call g (args.toList.map st.ρ++cap.map V.one) st.H with
   |some (v,H')=>some (st.put o.dst v H')
   |none=>none
  |_=>none
 |op=>if(zdo P o.pos op st.ρ st.H).pre then some (st.put o.dst (zdo P o.pos op st.ρ st.H).v (zdo P o.pos op st.ρ st.H).h)else none
def z6x (P:Program) (pos:String) (op:Op) (ρ:Operand->V):Bool:=match op with
 |.makeSlice _ _ _=>ydd pos
 |.move _|.assign _|.pick _ _ _|.load _ _|.nilCheck _|.binOp _ _ _ _ _|.unOp _ _ _|.makeFunc _ _ _|.makeInterface _ _|.typeAssert _ _ _ _|.lookup _ _ _ _|.fieldAddr _ _ _|.field _ _ _|.indexAddr _ _ _|.index _ _ _|.extract _ _|.build _ _=>true
 |.convert _ _ x=>match ρ x with|.one (.int _ _)=>true|_=>false
 |.slice _ x _ _ _=>match ρ x with|.one (.str _)=>true|.one (.sl _)=>true|.one (.slf _)=>true|.one (.msl _ _ _ _)=>true|_=>false
 |.call {callee:=.builtin .len,args:=_,argTypes:=_}=>true
 |.call {callee:=.builtin .max,args:=_,argTypes:=_}=>true
 |.call {callee:=.builtin .min,args:=_,argTypes:=_}=>true
 |_=>false
def isBs:Op->Bool
 |.buildSlice _ _ _=>true
 |_=>false
def yhu (pos:String) (op:Op) (st:St):Bool:=match isBs op with
 |true=>eqOs (zdo P pos op st.ρ st.H).h st.H
 |false=>z6x P pos op st.ρ
def evQ (o:Oper) (st:St):Option St:=
 match o.op with
 |.call {callee:=.value f,args,argTypes:=_}=>match st.ρ f with
  |.one (.fn g cap)=>match ltVs 0 ((args.toList.map st.ρ++cap.map V.one).map (V.view st.H))with
   |true=>match pcOf call g ((args.toList.map st.ρ++cap.map V.one).map (V.view st.H))with
    |some x=>match(args.toList.map st.ρ++cap.map V.one).all (fun a=> !a.own)||x.scalar with
     |true=>some (st.put o.dst x st.H)
     |false=>none
    |none=>none
   |false=>none
  |_=>none
 |op=>if(zdo P o.pos op st.ρ st.H).pre/\z5c o.pos=false/\z8i o.pos=false/\yhu P o.pos op st=true then some (st.put o.dst (zdo P o.pos op st.ρ st.H).v st.H)else none
def z2f (all:Array Oper) (o:Oper) (st:St):Option (Bool×St):=
 match o.guard with
 |none=>some (true,st)
 |some (j,want)=>match(all[j]?).bind (·.dst)with
  |some d=>match look st.t d with
   |.one (.bool b)=>some (b==want,⟨(d,.one (.bool b))::st.t,st.H⟩)
   |.tup []=>some (false,st)
   |_=>none
  |none=>none
def z8h (all:Array Oper):List Oper->St->Option St
 |[],st=>some st
 |o::rest,st=>match z2f all o st with
  |some (true,st1)=>match evOp P call o st1 with
   |some st2=>z8h all rest st2
   |none=>none
  |some (false,st1)=>z8h all rest (st1.put o.dst (.tup []) st1.H)
  |none=>none
def ya9:Option (Prop×V×List Fo)->Prop
 |some (p,_,_)=>p
 |none=>False
instance dFresh (o:Oper) (st:St) (N:List Fo):Decidable (ya9 (zun P o st N)):=by
 unfold zun;repeat' (first|(unfold ya9;infer_instance)|split)
def yak (all:Array Oper) (t:List (Nat×V)) (i:Nat):Bool:=match all[i]? with
 |some o=>match o.op,o.dst with
  |.move x,some d=>eqV (St.ρ ⟨t,[]⟩ x) (look t d)
  |.assign x,some d=>eqV (St.ρ ⟨t,[]⟩ x) (look t d)
  |_,_=>false
 |none=>false
def ygi (all:Array Oper) (k:Nat) (t:List (Nat×V)):Bool:=z1i all k||(z3m all k&&(zdm all k).all (yak all t))
def z05 (all:Array Oper):List Oper->List Fo->St->Option St
 |[],N,st=>some ⟨st.t,st.H++N.map Fo.o⟩
 |o::rest,N,st=>match zun P o st N with
  |some (_,v,N')=>if ya9 (zun P o st N)then z05 all rest N' (st.put o.dst v st.H)else none
  |none=>match effT o.pos o.op with
   |true=>match ygi all (all.size-(rest.length+1)) st.t with
    |true=>z8h P call all (o::rest) ⟨st.t,st.H++N.map Fo.o⟩
    |false=>none
   |false=>match z7l o N with
    |true=>match z2f all o st with
     |some (true,st1)=>match evQ P call o st1 with
      |some st2=>z05 all rest N st2
      |none=>none
     |some (false,st1)=>z05 all rest N (st1.put o.dst (.tup []) st1.H)
     |none=>none
    |false=>none
def z7x (S:List Nat):V->Bool
 |.one (.ref id _ _ _)=>S.contains id
 |.one (.iptr _ _)=>true
 |_=>false
def z4k (op:Op) (ρ:Operand->V) (S:List Nat):Bool:=match op with
 |.move _|.assign _=>true
 |.fieldAddr _ x _=>z7x S (ρ x)
 |.load _ x=>z7x S (ρ x)
 |.nilCheck x=>z7x S (ρ x)
 |_=>false
def evF (S Fl FE:List Nat):Nat->List Oper->St->Option St
 |_,[],st=>some st
 |k,o::rest,st=>match effF o.op with
  |true=>match o.op with
   |.call {callee:=.value f,args,argTypes:=_}=>match st.ρ f with
    |.one (.fn g cap)=>match call g (args.toList.map st.ρ++cap.map V.one) st.H with
     |some (x,H1)=>match !FE.contains k||z7i S st.H H1 with
      |true=>evF S Fl FE (k+1) rest (st.put o.dst x H1)
      |false=>none
     |none=>none
    |_=>none
   |op=>if(zdo P o.pos op st.ρ st.H).pre/\(FE.contains k=false\/z7i S st.H (zdo P o.pos op st.ρ st.H).h=true)then evF S Fl FE (k+1) rest (st.put o.dst (zdo P o.pos op st.ρ st.H).v (zdo P o.pos op st.ρ st.H).h)else none
  |false=>if(zdo P o.pos o.op st.ρ st.H).pre/\z5c o.pos=false/\z8i o.pos=false/\z6x P o.pos o.op st.ρ=true/\(Fl.contains k=false\/z4k o.op st.ρ S=true)then evF S Fl FE (k+1) rest (st.put o.dst (zdo P o.pos o.op st.ρ st.H).v st.H)else none
def flOf (all:Array Oper):List Nat:=(List.range all.size).filter fun i=> !zch all i&&floQ all i
def feOf (all:Array Oper):List Nat:=(List.range all.size).filter fun i=>zch all i&&floE all i
def yiv (ops:Array Oper) (st:St):Option St:=match floB ops&&floL ops (flOf ops) (feOf ops)with
 |true=>evF P call (List.range st.H.length) (flOf ops) (feOf ops) 0 ops.toList st
 |false=>none
def z4l:List (Nat×V)->List Nat->List (Nat×V)
 |[],_=>[]
 |(k,v)::r,seen=>match seen.contains k with
  |true=>z4l r seen
  |false=>(k,v)::z4l r (k::seen)
def St.slim (st:St):St:=⟨z4l st.t [],st.H⟩
def evC:Nat->Cf->Code->Option Nat->St->Option (Ex×St)
 |0,_,_,_,_=>none
 |k+1,n,c,some l,st=>match findLabel c l with
  |some rest=>match okC n.n rest with
   |true=>match evC k n rest none st with
    |some (.goto l',st1)=>evC k n c (some l') st1
    |r=>r
   |false=>none
  |none=>none
 |k+1,n,c,none,st=>match c with
  |.skip=>some (.normal,st)
  |.label _=>some (.normal,st)
  |.region _ ops draw=>match draw with
   |true=>match zxx ops with
    |true=>match P.follows .mixedOrders&&zvj ops with
     |true=>match yiv P call ops st with
      |some st1=>some (.normal,st1)
      |none=>none
     |false=>none
    |false=>match P.follows .mixedOrders&&zvj ops with
     |true=>match z05 P call ops ops.toList [] st with
      |some st1=>some (.normal,st1)
      |none=>none
     |false=>none
   |false=>match z8h P call ops ops.toList st with
    |some st1=>some (.normal,st1)
    |none=>none
  |.seq a b=>match evC k n a none st with
   |some (.normal,st1)=>evC k n b none st1
   |r=>r
  |.cond c x y=>match st.ρ c with
   |.one (.bool true)=>evC k n x none st
   |.one (.bool false)=>evC k n y none st
   |_=>none
  |.block id c=>match evC k n c none st with
   |some (.exit i,st1)=>if i=id then some (.normal,st1)else some (.exit i,st1)
   |r=>r
  |.loop c=>match evC k n c none st.slim with
   |some (.normal,st1)=>evC k n (.loop c) none st1
   |r=>r
  |.scope c=>match evC k n c none st with
   |some (.goto l,st1)=>evC k n c (some l) st1
   |r=>r
  |.goto l=>some (.goto l,st)
  |.exit id=>some (.exit id,st)
  |.ret=>some (.ret,st)
  |_=>none
def resB (st:St):ResultVar->Option V
 |.tmp i=>some (look st.t i)
 |.cell i ty=>match look st.t i with
  |.one c=>match tAg P ty,zvc st.H c with
   |some (g,n),some (row,off,_)=>match rowB st.H c&&decide (off+wd g n<=row.length)with
    |true=>some (ldV g n row off)
    |false=>none
   |_,_=>none
  |_=>none
def resL (st:St):List ResultVar->Option (List V)
 |[]=>some []
 |r::rs=>match resB P st r,resL st rs with
  |some x,some xs=>some (x::xs)
  |_,_=>none
def endB (rs:List ResultVar) (st:St):Option V:=match rs with
 |[r]=>resB P st r
 |rs=>match resL P st rs with
  |some xs=>some (.tup xs)
  |none=>none
def z68 (f:FuncId) (args:List V) (H:List O):Option (V×List O):=
 match P.funcs[f]? with
 |some fn=>match fn.body with
  |some c=>match !(fn.name== "runtime.NumGoroutine")&&okC fn.ntmps c with
   |true=>match evC P call 1000000 ⟨fn.ntmps,H.length⟩ c none ⟨zmd 0 args,H⟩with
    |some (.normal,st)=>match endB P fn.results.toList st with
     |some x=>some (x,st.H)
     |none=>none
    |some (.ret,st)=>match endB P fn.results.toList st with
     |some x=>some (x,st.H)
     |none=>none
    |_=>none
   |false=>none
  |none=>none
 |none=>none
end
def evK (P:Program):Nat->z0f
 |0=>fun _ _ _=>none
 |k+1=>z68 P (evK P k)
section
variable {P:Program} {call:z0f}
theorem z6j {f:FuncId} {args:List V} {v:V} {H':List O} (h:Ct P f args [] fun x H2=>x=v/\H2=H') (hl:(v.view H').lt 0=true):Pu P f args (v.view H'):=by
 refine⟨h.1,fun E vs hE hH hn hv=>Calls.mono (h.2 E vs hE hH hn hv) ?_⟩;rintro e w' ⟨u,y,E',rfl,rfl,⟨rfl,rfl⟩,hyv,hh,tr⟩;refine⟨u,_,E'.shut,rfl,rfl,⟨rfl,rfl⟩,zwb hh hyv hl,zuy hh,?_⟩
 have e0:∀b,¬E.own b:=by rintro b ⟨id,o,ho,_⟩;simp[hH]at ho
 refine⟨tr.fr,tr.size,tr.os,tr.tape,tr.output,fun b hb _=>tr.keep b hb (e0 b),?_,by simp[hH],by simp[Env.shut],by simp[Env.shut]⟩;rintro b hb ⟨id,o,ho,_⟩;simp[Env.shut]at ho
theorem z1x (hc:zmo P call) {g:FuncId} {args:List V} {x:V} (h:pcOf call g args=some x):Pu P g args x/\x.lt 0=true:=by
 unfold pcOf at h;split at h
 ·rename_i v H' hv
  split at h
  ·rename_i hl
   obtain rfl:=Wab h;exact⟨z6j (hc _ _ _ _ _ hv) hl,hl⟩
  ·cases h
 ·cases h
theorem ybh (hc:zmo P call):zmo P (ybi P call):=by
 intro g args H v H' h;unfold ybi at h;split at h
 ·exact hc _ _ _ _ _ h
 ·rename_i h0
  simp only[Wbw,Bool.not_eq_false']at h0;split at h
  ·rename_i x hx
   split at h
   ·rename_i hb
    obtain⟨rfl,rfl⟩:=WaP (Wab h);obtain⟨hp,hl⟩:=z1x hc hx;exact zus hp rfl h0.2 hl (by simpa using hb) ⟨rfl,rfl⟩
   ·exact hc _ _ _ _ _ h
  ·exact hc _ _ _ _ _ h
theorem yiu (hc:zmo P call) {o:Oper} {st st':St} {K:St->Prop} (h:evOp P call o st=some st') (hk:K st'):awpOp P o st K:=by
 obtain⟨dst,op,ty,pos,after,guard⟩:=o
 cases op with
 |call c=>
  obtain⟨callee,args,ats⟩:=c
  cases callee with
  |value f=>
   simp only[evOp]at h;simp only[awpOp];split at h
   ·rename_i g cap hf
    split at h
    ·rename_i v H' hv
     obtain rfl:=Wab h;rw[hf]
     exact(ybh hc _ _ _ _ _ hv).mono fun x H2 ⟨e1,e2⟩=>by subst e1;subst e2;exact hk
    ·cases h
   ·cases h
  |_=>
   simp only[evOp]at h;split at h
   ·rename_i hp
    obtain rfl:=Wab h;exact⟨hp,fun _=>hk⟩
   ·cases h
 |_=>
  simp only[evOp]at h;split at h
  ·rename_i hp
   obtain rfl:=Wab h;exact⟨hp,fun _=>hk⟩
  ·cases h
theorem zy2 {all:Array Oper} {o:Oper} {st st1:St} {b:Bool} {X Y:St->Prop} (h:z2f all o st=some (b,st1)) (hx:b=true->X st1) (hy:b=false->Y st1):guarded2 all o st X Y:=by
 unfold z2f at h;unfold guarded2;split at h
 ·rename_i hg
  obtain⟨rfl,rfl⟩:=WaP (Wab h);simp only[hg];exact hx rfl
 ·rename_i j want hg
  simp only[hg];split at h
  ·rename_i d hd
   simp only[hd];split at h
   ·rename_i c hl
    obtain⟨rfl,rfl⟩:=WaP (Wab h);simp only[hl];refine⟨fun e=>?_,fun e=>?_⟩
    ·subst e;exact hx (by simp)
    ·subst e;exact hy (by cases want<;>rfl)
   ·rename_i hl
    obtain⟨rfl,rfl⟩:=WaP (Wab h);simp only[hl];exact hy rfl
   ·cases h
  ·cases h
theorem zy4 (hc:zmo P call) {all:Array Oper} {K:St->Prop}:∀{l:List Oper} {st st':St},z8h P call all l st=some st'->K st'->awpOps P all l st K
 |[],st,st',h,hk=>by
  obtain rfl:=Wab h;exact hk
 |o::rest,st,st',h,hk=>by
  unfold z8h at h;unfold awpOps;split at h
  ·rename_i st1 hg
   split at h
   ·rename_i st2 ho
    exact zy2 hg (fun _=>yiu hc ho (zy4 hc h hk)) (fun e=>by cases e)
   ·cases h
  ·rename_i st1 hg
   exact zy2 hg (fun e=>by cases e) (fun _=>zy4 hc h hk)
  ·cases h
end
section
variable (P:Program) (H:List O)
theorem kMk {p f:Prop} {v:V}:(R.mk p f v H).pre->(R.mk p f v H).h=H:=fun _=>rfl
theorem kOk {v:V}:(R.ok v H).pre->(R.ok v H).h=H:=fun _=>rfl
theorem kBad:R.bad.pre->R.bad.h=H:=fun h=>h.elim
theorem yqx (t:TypeId) (a:V):(zt2 P t a H).pre->(zt2 P t a H).h=H:=by
 unfold zt2;repeat' (first|exact kMk H|exact kOk H|exact kBad H|split)
theorem yqu (c a b:V):(z1w c a b H).pre->(z1w c a b H).h=H:=by
 unfold z1w;repeat' (first|exact kMk H|exact kOk H|exact kBad H|split)
theorem kInt (op:BinOp) (k:IntKind) (a b:Int):(intF op k a b H).pre->(intF op k a b H).h=H:=by
 unfold intF;repeat' (first|exact kMk H|exact kOk H|exact kBad H|split)
theorem kSh (op:BinOp) (k:IntKind) (a b:Int):(shF op k a b H).pre->(shF op k a b H).h=H:=by
 unfold shF;repeat' (first|exact kMk H|exact kOk H|exact kBad H|split)
theorem kStr (op:BinOp) (a b:List UInt8):(strF op a b H).pre->(strF op a b H).h=H:=by
 unfold strF;repeat' (first|exact kMk H|exact kOk H|exact kBad H|split)
theorem kEq (op:BinOp) (t:TypeId) (a b:List C):(eqF P op t a b H).pre->(eqF P op t a b H).h=H:=by
 unfold eqF;repeat' (first|exact kMk H|exact kOk H|exact kBad H|split)
theorem kNil (op:BinOp) (t:TypeId) (b:Bool):(nilF P op t b H).pre->(nilF P op t b H).h=H:=by
 unfold nilF;repeat' (first|exact kMk H|exact kOk H|exact kBad H|split)
theorem kUn (op:UnOp) (x:V):(unF op x H).pre->(unF op x H).h=H:=by
 unfold unF;repeat' (first|exact kMk H|exact kOk H|exact kBad H|split)
theorem kIA (t:TypeId) (x i:V):(zkp P t x i H).pre->(zkp P t x i H).h=H:=by
 unfold zkp;repeat' (first|exact kMk H|exact kOk H|exact kBad H|split)
theorem kIx (t:TypeId) (x i:V):(zwu P t x i H).pre->(zwu P t x i H).h=H:=by
 unfold zwu;repeat' (first|exact kMk H|exact kOk H|exact kBad H|split)
theorem kFA (t:TypeId) (x:V) (f:Nat):(ze4 P t x f H).pre->(ze4 P t x f H).h=H:=by
 unfold ze4;repeat' (first|exact kMk H|exact kOk H|exact kBad H|split)
theorem kF (t:TypeId) (x:V) (f:Nat):(zwz P t x f H).pre->(zwz P t x f H).h=H:=by
 unfold zwz;repeat' (first|exact kMk H|exact kOk H|exact kBad H|split)
theorem kSR (t:TypeId) (rows:List (List C)) (lo hi mx:Option V):(zk1 P t rows lo hi mx H).pre->(zk1 P t rows lo hi mx H).h=H:=by
 unfold zk1;repeat' (first|exact kMk H|exact kOk H|exact kBad H|split)
theorem kLen (t:TypeId) (x:V):(lenF P t x H).pre->(lenF P t x H).h=H:=by
 unfold lenF;repeat' (first|exact kMk H|exact kOk H|exact kBad H|split)
theorem ylr (t:TypeId) (parts:List (Nat×V)):(zw8 P t parts H).pre->(zw8 P t parts H).h=H:=by
 unfold zw8;repeat' (first|exact kMk H|exact kOk H|exact kBad H|split)
theorem ylq (z:C) (ok:Bool) (o:Option (Option C)):(zzz z ok H o).pre->(zzz z ok H o).h=H:=by
 unfold zzz;repeat' (first|exact kMk H|exact kOk H|exact kBad H|split)
theorem yqw (t:TypeId) (x:V):(zrf P t x H).pre->(zrf P t x H).h=H:=by
 unfold zrf;repeat' (first|exact kMk H|exact kOk H|exact kBad H|split)
theorem yqv (a:TypeId) (ok:Bool):(z0i P a ok H).pre->(z0i P a ok H).h=H:=by
 unfold z0i;repeat' (first|exact kMk H|exact kOk H|exact kBad H|split)
theorem yqy (ok:Bool) (cs:List C):(z16 ok cs H).pre->(z16 ok cs H).h=H:=by
 unfold z16;repeat' (first|exact kMk H|exact kOk H|exact kBad H|split)
theorem kBin (op:BinOp) (t:TypeId) (x y:V):(binF P op t x y H).pre->(binF P op t x y H).h=H:=by
 unfold binF;repeat' (first|exact kMk H|exact kOk H|exact kBad H|exact kEq P H _ _ _ _|exact kNil P H _ _ _|exact kSh H _ _ _ _|exact kInt H _ _ _ _|exact kStr H _ _ _|split)
theorem yhv (t:TypeId) (m k:V) (ok:Bool):(zrh P t m k ok H).pre->(zrh P t m k ok H).h=H:=by
 unfold zrh;repeat' (first|exact kBad H|exact ylq H _ _ _|split)
theorem kTA (x:V) (a:TypeId) (ok:Bool):(zi0 P x a ok H).pre->(zi0 P x a ok H).h=H:=by
 unfold zi0;repeat' (first|exact kBad H|exact yqv P H _ _|exact yqy H _ _|split)
theorem z3o {pos:String} {op:Op} {ρ:Operand->V} (hz:z5c pos=false) (hv:z8i pos=false) (hp:(zdo P pos op ρ H).pre) (hk:z6x P pos op ρ=true):(zdo P pos op ρ H).h=H:=by
 cases op<;>simp only[z6x,WaD]at hk
 case makeSlice t l c=>
  revert hp;simp only[zdo,hk,zmr]
  repeat' (first|exact kMk H|exact kOk H|exact kBad H|split)
 case move=>rfl
 case assign=>rfl
 case pick=>exact yqu H _ _ _ hp
 case load=>exact yqx P H _ _ hp
 case nilCheck x=>
  revert hp;simp only[zdo]
  repeat' (first|exact kMk H|exact kOk H|exact kBad H|split)
 case binOp=>exact kBin P H _ _ _ _ hp
 case unOp=>exact kUn H _ _ hp
 case makeFunc fn first cap=>
  revert hp;cases fn<;>simp only[zdo]
  all_goals (repeat' (first|exact kMk H|exact kOk H|exact kBad H|split))
 case makeInterface=>exact yqw P H _ _ hp
 case typeAssert=>exact kTA P H _ _ _ hp
 case lookup=>exact yhv P H _ _ _ _ hp
 case fieldAddr=>exact kFA P H _ _ _ hp
 case field=>exact kF P H _ _ _ hp
 case indexAddr=>exact kIA P H _ _ _ hp
 case index=>exact kIx P H _ _ _ hp
 case extract x i=>
  revert hp;simp only[zdo]
  repeat' (first|exact kMk H|exact kOk H|exact kBad H|split)
 case build=>exact ylr P H _ _ hp
 case convert s d x=>
  revert hp hk;simp only[zdo,hv,z5j]
  cases ρ x with
  |one c=>
   cases c with
   |int k n=>intro hp _;revert hp;simp only[z5k];repeat' (first|exact kMk H|exact kOk H|exact kBad H|split)
   |_=>simp
  |_=>simp
 case slice t x lo hi mx=>
  revert hp hk;simp only[zdo];split
  ·intro h;exact h.elim
  cases ρ x with
  |one c=>
   cases c<;>intro hp hk<;>revert hp<;>simp only[WaD]at hk<;>simp only[zzg]
   all_goals (repeat' (first|exact kMk H|exact kOk H|exact kBad H|exact kSR P H _ _ _ _ _|split))
  |_=>intro hp hk;simp at hk
 case call c=>
  obtain⟨callee,args,ats⟩:=c
  cases callee with
  |builtin b=>
   revert hp;simp only[zdo,hz,biZ];cases b<;>simp only[WaD]at hk
   case len=>unfold biF;repeat' (first|contradiction|exact kMk H|exact kOk H|exact kBad H|exact kLen P H _ _|split)
   case max=>unfold biF;repeat' (first|contradiction|exact kMk H|exact kOk H|exact kBad H|split)
   case min=>unfold biF;repeat' (first|contradiction|exact kMk H|exact kOk H|exact kBad H|split)
  |value f=>simp at hk
  |invoke r m=>simp at hk
end
section
variable {P:Program} {call:z0f}
theorem z6w {pos:String} {op:Op} {st:St} (hz:z5c pos=false) (hv:z8i pos=false) (hp:(zdo P pos op st.ρ st.H).pre) (hk:yhu P pos op st=true):(zdo P pos op st.ρ st.H).h=st.H:=by
 unfold yhu at hk;split at hk
 ·exact ybl hk
 ·exact z3o P _ hz hv hp hk
theorem ync (hc:zmo P call) {o:Oper} {st st':St} {K:St->Prop} (h:evQ P call o st=some st') (hk:K st'):awpQ P o st K:=by
 obtain⟨dst,op,ty,pos,after,guard⟩:=o
 cases op with
 |call c=>
  obtain⟨callee,args,ats⟩:=c
  cases callee with
  |value f=>
   simp only[evQ]at h;simp only[awpQ];split at h
   ·rename_i g cap hf
    rw[hf];split at h
    ·rename_i hl
     split at h
     ·rename_i x hx
      split at h
      ·rename_i hb
       obtain rfl:=Wab h;obtain⟨hp,hx0⟩:=z1x hc hx;exact⟨x,zus hp rfl hl hx0 (by simpa using hb) ⟨rfl,rfl⟩,hk⟩
      ·cases h
     ·cases h
    ·cases h
   ·cases h
  |_=>
   simp only[evQ]at h;split at h
   ·rename_i hp
    obtain⟨hp,hz,hv,hq⟩:=hp;obtain rfl:=Wab h
    have e:=z6w hz hv hp hq
    exact⟨hp,fun _=>⟨e,by rw[e];exact hk⟩⟩
   ·cases h
 |_=>
  simp only[evQ]at h;split at h
  ·rename_i hp
   obtain⟨hp,hz,hv,hq⟩:=hp;obtain rfl:=Wab h
   have e:=z6w hz hv hp hq
   exact⟨hp,fun _=>⟨e,by rw[e];exact hk⟩⟩
  ·cases h
theorem ycq {all:Array Oper} {k:Nat} {t:List (Nat×V)} (h:ygi all k t=true):zys P all k t:=by
 simp only[ygi,WaE,Wan]at h
 rcases h with h|⟨h1,h2⟩
 ·exact .inl h
 ·refine .inr ⟨h1,?_⟩
  generalize zdm all k=L at h2
  induction L with
  |nil=>trivial
  |cons i L ih=>
   simp only[Wbz,Wan]at h2;refine⟨?_,ih h2.2⟩
   have hi:=h2.1
   unfold yak at hi;unfold z3n;split at hi
   ·rename_i o ho
    have eρ:∀(H:List O) x,St.ρ ⟨t,H⟩ x=St.ρ ⟨t,[]⟩ x:=fun H x=>by cases x<;>rfl
    rw[ho];simp only;split at hi
    ·rename_i x d e1 e2
     rw[e1,e2];exact fun H=>⟨trivial,rfl,by show St.ρ ⟨t,H⟩ x=_;rw[eρ];exact ybk hi⟩
    ·rename_i x d e1 e2
     rw[e1,e2];exact fun H=>⟨trivial,rfl,by show St.ρ ⟨t,H⟩ x=_;rw[eρ];exact ybk hi⟩
    ·cases hi
   ·cases hi
theorem zw1 (hc:zmo P call) {all:Array Oper} {K:St->Prop}:∀{l:List Oper} {N:List Fo} {st st':St},z05 P call all l N st=some st'->K st'->awpDraw P all l N st K
 |[],N,st,st',h,hk=>by
  obtain rfl:=Wab h;exact hk
 |o::rest,N,st,st',h,hk=>by
  unfold z05 at h;unfold awpDraw;split at h
  ·rename_i p v N' hf
   rw[hf];split at h
   ·rename_i hp
    rw[hf]at hp;exact⟨hp,zw1 hc h hk⟩
   ·cases h
  ·rename_i hf
   rw[hf];simp only;split at h
   ·rename_i he
    rw[he];split at h
    ·rename_i ht
     exact⟨ycq ht,zy4 hc h hk⟩
    ·cases h
   ·rename_i he
    rw[he];split at h
    ·rename_i hu
     refine⟨hu,?_⟩;split at h
     ·rename_i st1 hg
      split at h
      ·rename_i st2 ho
       exact zy2 hg (fun _=>ync hc ho (zw1 hc h hk)) (fun e=>by cases e)
      ·cases h
     ·rename_i st1 hg
      exact zy2 hg (fun e=>by cases e) (fun _=>zw1 hc h hk)
     ·cases h
    ·cases h
theorem ydq {t:TypeId} {c:C} {H H':List O} (e:zvc H' c=zvc H c):(zt2 P t (.one c) H).pre->(zt2 P t (.one c) H').pre/\(zt2 P t (.one c) H').h=H'/\(zt2 P t (.one c) H').v=(zt2 P t (.one c) H).v:=by
 simp only[zt2];rw[e]
 cases tAg P t with
 |none=>exact fun h=>h.elim
 |some q=>cases zvc H c with
  |none=>exact fun h=>h.elim
  |some r=>exact fun h=>⟨h,rfl,rfl⟩
theorem z2c {t:TypeId} {c:C} {f:Nat} {H H':List O} (e:∀id ver r off,c=.ref id ver r off->H'[id]? =H[id]?):(ze4 P t (.one c) f H).pre->(ze4 P t (.one c) f H').pre/\(ze4 P t (.one c) f H').h=H'/\(ze4 P t (.one c) f H').v=(ze4 P t (.one c) f H).v:=by
 unfold ze4
 cases tFd P t f with
 |none=>exact fun h=>h.elim
 |some q=>
  cases c with
  |ref id ver r off=>
   simp only;rw[e id ver r off rfl]
   cases H[id]? with
   |none=>exact fun h=>h.elim
   |some o=>cases o with
    |cells cur sz rows=>exact fun h=>⟨h,rfl,rfl⟩
    |_=>exact fun h=>h.elim
  |iptr row off=>exact fun h=>⟨h,rfl,rfl⟩
  |_=>exact fun h=>h.elim
theorem z7p {pos:String} {op:Op} {ρ:Operand->V} {H:List O} {S:List Nat} (hp:(zdo P pos op ρ H).pre) (h:z4k op ρ S=true):zvv P pos op ρ H S:=by
 intro H' hag
 have key:∀{x:V},z7x S x=true->∃c,x=.one c/\(∀id ver r off,c=.ref id ver r off->H'[id]? =H[id]?)/\zvc H' c=zvc H c:=by
  intro x hx
  cases x with
  |one c=>
   refine⟨c,rfl,?_⟩;cases c<;>simp only[z7x,WaD]at hx
   case iptr row off=>exact⟨fun _ _ _ _ e=>(by cases e),rfl⟩
   case ref id ver r off=>
    have:=hag id (by simpa using hx)
    exact⟨fun _ _ _ _ e=>(by cases e;exact this),by simp only[zvc,this]⟩
  |_=>simp[z7x]at hx
 cases op<;>simp only[z4k,WaD]at h
 case move=>exact⟨trivial,rfl,rfl⟩
 case assign=>exact⟨trivial,rfl,rfl⟩
 case fieldAddr t x f=>
  obtain⟨c,e1,e2,_⟩:=key h;simp only[zdo,e1]at hp|-;exact z2c e2 hp
 case load t x=>
  obtain⟨c,e1,_,e2⟩:=key h;simp only[zdo,e1]at hp|-;exact ydq e2 hp
 case nilCheck x=>
  obtain⟨c,e1,e2,_⟩:=key h;simp only[zdo,e1]at hp|-
  cases c with
  |ref id ver r off=>
   simp only at hp|-;rw[e2 id ver r off rfl]
   cases ho:H[id]? with
   |none=>rw[ho]at hp;exact hp.elim
   |some o=>cases o with
    |cells cur sz rows=>rw[ho]at hp;exact⟨hp,rfl,rfl⟩
    |_=>rw[ho]at hp;exact hp.elim
  |iptr row off=>exact⟨trivial,rfl,rfl⟩
  |_=>exact hp.elim
theorem z3z (hc:zmo P call) {S Fl FE:List Nat} {K:St->Prop}:∀{l:List Oper} {k:Nat} {st st':St},evF P call S Fl FE k l st=some st'->K st'->awpF P S Fl FE k l st K
 |[],k,st,st',h,hk=>by simp only[evF]at h;obtain rfl:=Wab h;exact hk
 |o::rest,k,st,st',h,hk=>by
  obtain⟨dst,op,ty,pos,after,guard⟩:=o;simp only[evF]at h;simp only[awpF];split at h
  ·rename_i he
   rw[he];simp only
   cases op with
   |call c=>
    obtain⟨callee,args,ats⟩:=c
    cases callee with
    |value f=>
     (try simp only at h);(try simp only)
     split at h
     ·rename_i g cap hf
      rw[hf];split at h
      ·rename_i x H1 hv
       split at h
       ·rename_i hb
        refine⟨x,H1,hc _ _ _ _ _ hv,fun hfe=>?_,z3z hc h hk⟩;rw[hfe]at hb;exact z0d (by simpa using hb)
       ·cases h
      ·cases h
     ·cases h
    |_=>
     (try simp only at h);(try simp only)
     split at h
     ·rename_i hb
      exact⟨hb.1,fun hfe=>z0d (by rcases hb.2 with e|e<;>simp_all),z3z hc h hk⟩
     ·cases h
   |_=>
    (try simp only at h);(try simp only)
    split at h
    ·rename_i hb
     exact⟨hb.1,fun hfe=>z0d (by rcases hb.2 with e|e<;>simp_all),z3z hc h hk⟩
    ·cases h
  ·rename_i he
   rw[he];simp only;split at h
   ·rename_i hb
    obtain⟨hp,hz,hv,hq,hs⟩:=hb
    exact⟨hp,z3o P _ hz hv hp hq,fun hfl=>z7p hp (by rcases hs with e|e<;>simp_all),z3z hc h hk⟩
   ·cases h
theorem yec (hc:zmo P call) {ops:Array Oper} {st st':St} {K:St->Prop} (h:yiv P call ops st=some st') (hk:K st'):floB ops=true/\∃S Fl FE,floL ops Fl FE=true/\awpF P S Fl FE 0 ops.toList st K:=by
 unfold yiv at h;split at h
 ·rename_i hb
  simp only[Wan]at hb;exact⟨hb.1,_,_,_,hb.2,z3z hc h hk⟩
 ·cases h
theorem zzy:∀(t:List (Nat×V)) (seen:List Nat) (i:Nat),look (z4l t seen) i=if seen.contains i then .un else look t i
 |[],seen,i=>by simp[z4l,look]
 |(k,v)::r,seen,i=>by
  unfold z4l;split
  ·rename_i hs
   rw[zzy r seen i];split
   ·rfl
   ·rename_i hi
    rw[ze6];split
    ·rename_i e;subst e;exact absurd hs hi
    ·rfl
  ·rename_i hs
   rw[ze6,zzy r (k::seen) i,ze6]
   by_cases e:k=i
   ·subst e;have hs':k∉seen:=by simpa using hs
    simp[hs,hs']
   ·have e':(i==k)=false:=by simp;exact fun h=>e h.symm
    simp only[Wcc,e',Bool.false_or,if_neg e]
theorem LoopSem.slim {n:Cf} {c:Code} {st:St} {Q:Ex->St->Prop} (h:LoopSem P n c st.slim Q):LoopSem P n c st Q:=by
 intro hok ctx a E hs
 exact h hok ctx a E ⟨hs.len,hs.hm,hs.defers,fun i=>by
  show VRel E (look (z4l st.t []) i) _
  rw[zzy];exact hs.tm i,hs.H,hs.rel,hs.tr⟩
theorem zmn (hc:zmo P call):∀(k:Nat) (n:Cf) (c:Code) (lab:Option Nat) (st:St) (e:Ex) (st':St),evC P call k n c lab st=some (e,st')->∀Q:Ex->St->Prop,Q e st'->match lab with
  |none=>awp P n c st Q
  |some l=>z8e P n c Q (.goto l) st
 |0,_,_,_,_,_,_,h,_,_=>by cases h
 |k+1,n,c,some l,st,e,st',h,Q,hq=>by
  simp only[evC]at h;split at h
  ·rename_i rest hf
   split at h
   ·rename_i hok
    refine⟨rest,hf,hok,zyd hok ?_⟩;split at h
    ·rename_i l' st1 h1
     exact zmn hc k n rest none st _ st1 h1 _ (zmn hc k n c (some l') st1 e st' h Q hq)
    ·rename_i h1
     refine zmn hc k n rest none st e st' h _ ?_
     cases e with
     |goto l'=>exact absurd h (h1 l' st')
     |_=>exact hq
   ·cases h
  ·cases h
 |k+1,n,c,none,st,e,st',h,Q,hq=>by
  show awp P n c st Q
  cases c with
  |skip=>simp only[evC]at h;obtain⟨rfl,rfl⟩:=WaP (Wab h);exact hq
  |label _=>simp only[evC]at h;obtain⟨rfl,rfl⟩:=WaP (Wab h);exact hq
  |region _ ops draw=>
   simp only[evC]at h
   cases draw with
   |true=>
    dsimp only at h;simp only[awp];split at h
    ·rename_i hf
     rw[hf];split at h
     ·rename_i hd
      simp only[Wan]at hd;split at h
      ·rename_i st1 h1
       obtain⟨rfl,rfl⟩:=WaP (Wab h);obtain⟨q1,S,Fl,FE,q2,q3⟩:=yec hc h1 hq;exact⟨hd.1,hd.2,q1,S,Fl,FE,q2,q3⟩
      ·cases h
     ·cases h
    ·rename_i hf
     rw[hf];split at h
     ·rename_i hd
      simp only[Wan]at hd;split at h
      ·rename_i st1 h1
       obtain⟨rfl,rfl⟩:=WaP (Wab h);exact⟨hd.1,hd.2,zw1 hc h1 hq⟩
      ·cases h
     ·cases h
   |false=>
    dsimp only at h;simp only[awp];split at h
    ·rename_i st1 h1
     obtain⟨rfl,rfl⟩:=WaP (Wab h);exact zy4 hc h1 hq
    ·cases h
  |seq a b=>
   simp only[evC]at h;simp only[awp];split at h
   ·rename_i st1 h1
    exact zmn hc k n a none st _ st1 h1 _ (zmn hc k n b none st1 e st' h Q hq)
   ·rename_i h1
    refine zmn hc k n a none st e st' h _ ?_
    cases e with
    |normal=>exact absurd h (h1 st')
    |_=>exact hq
  |cond x a b=>
   simp only[evC]at h;simp only[awp,z2j];split at h
   ·rename_i hx;rw[hx];exact⟨fun _=>zmn hc k n a none st e st' h Q hq,fun e=>by cases e⟩
   ·rename_i hx;rw[hx];exact⟨fun e=>(by cases e),fun _=>zmn hc k n b none st e st' h Q hq⟩
   ·cases h
  |block id b=>
   simp only[evC]at h;simp only[awp];split at h
   ·rename_i i st1 h1
    refine zmn hc k n b none st _ st1 h1 _ ?_;simp only[z09];split at h
    ·rename_i hi
     obtain⟨rfl,rfl⟩:=WaP (Wab h);rw[if_pos hi];exact hq
    ·rename_i hi
     obtain⟨rfl,rfl⟩:=WaP (Wab h);rw[if_neg hi];exact hq
   ·rename_i h1
    refine zmn hc k n b none st e st' h _ ?_
    cases e with
    |exit i=>exact absurd h (h1 i st')
    |_=>exact hq
  |loop b=>
   simp only[evC]at h;simp only[awp];refine LoopSem.slim (zzw ?_);split at h
   ·rename_i st1 h1
    exact zmn hc k n b none _ _ st1 h1 _ (zmn hc k n (.loop b) none st1 e st' h Q hq)
   ·rename_i h1
    refine zmn hc k n b none _ e st' h _ ?_
    cases e with
    |normal=>exact absurd h (h1 st')
    |_=>exact hq
  |scope b=>
   simp only[evC]at h;simp only[awp];split at h
   ·rename_i l st1 h1
    exact zmn hc k n b none st _ st1 h1 _ (zmn hc k n b (some l) st1 e st' h Q hq)
   ·rename_i h1
    refine zmn hc k n b none st e st' h _ ?_
    cases e with
    |goto l=>exact absurd h (h1 l st')
    |_=>exact hq
  |goto l=>simp only[evC]at h;obtain⟨rfl,rfl⟩:=WaP (Wab h);exact hq
  |exit id=>simp only[evC]at h;obtain⟨rfl,rfl⟩:=WaP (Wab h);exact hq
  |ret=>simp only[evC]at h;obtain⟨rfl,rfl⟩:=WaP (Wab h);exact hq
  |_=>simp only[evC]at h;cases h
theorem z9h {st:St} {r:ResultVar} {x:V} (h:resB P st r=some x):∃p,zkd P st.H st.t r=some (x,p)/\p:=by
 cases r with
 |tmp i=>simp only[resB]at h;obtain rfl:=Wab h;exact⟨True,rfl,trivial⟩
 |cell i ty=>
  simp only[resB]at h;simp only[zkd];split at h
  ·rename_i c hl
   rw[hl];simp only;split at h
   ·rename_i g n row off p h1 h2
    rw[h1,h2];simp only;split at h
    ·rename_i hb
     obtain rfl:=Wab h;simp only[Wan,decide_eq_true_eq]at hb;exact⟨_,rfl,(z6c h2).1 hb.1,hb.2⟩
    ·cases h
   ·cases h
  ·cases h
theorem z9g {st:St}:∀{rs:List ResultVar} {xs:List V},resL P st rs=some xs->∃ys,rs.mapM (zkd P st.H st.t)=some ys/\(∀y∈ys,y.2)/\ys.map (·.1)=xs
 |[],xs,h=>by obtain rfl:=Wab h;exact⟨[],rfl,by simp,rfl⟩
 |r::rs,xs,h=>by
  simp only[resL]at h;split at h
  ·rename_i x ys hx hy
   obtain rfl:=Wab h;obtain⟨p,h1,h2⟩:=z9h hx;obtain⟨zs,h3,h4,h5⟩:=z9g hy;refine⟨(x,p)::zs,by simp[WbS,h1,h3],?_,by simp[h5]⟩;intro y hy
   rcases Wax.1 hy with rfl|hy
   ·exact h2
   ·exact h4 y hy
  ·cases h
theorem ybo {rs:List ResultVar} {st:St} {x:V} {K:V->List O->Prop} (h:endB P rs st=some x) (hk:K x st.H):resK P rs st K:=by
 unfold endB at h;unfold resK;split at h
 ·rename_i r
  obtain⟨p,h1,h2⟩:=z9h h;simp only[h1];exact⟨h2,hk⟩
 ·rename_i hn
  split at h
  ·rename_i xs hx
   obtain rfl:=Wab h;obtain⟨ys,h1,h2,h3⟩:=z9g hx;split
   ·rename_i r;exact absurd rfl (hn r)
   ·rw[h1]
    simp only;exact⟨h2,by rw[h3];exact hk⟩
  ·cases h
theorem z30 (hc:zmo P call):zmo P (z68 P call):=by
 intro g args H v H' h;unfold z68 at h;split at h
 ·rename_i fn hf
  split at h
  ·rename_i c hb
   split at h
   ·rename_i ho
    simp only[Wan,Wa4]at ho;refine zuq hf hb ho.1 ho.2 ?_;split at h
    ·rename_i st h1
     split at h
     ·rename_i x hx
      obtain⟨rfl,rfl⟩:=WaP (Wab h);exact zmn hc _ _ _ none _ _ _ h1 _ (by simp only[endK];exact ybo hx ⟨rfl,rfl⟩)
     ·cases h
    ·rename_i st h1
     split at h
     ·rename_i x hx
      obtain⟨rfl,rfl⟩:=WaP (Wab h);exact zmn hc _ _ _ none _ _ _ h1 _ (by simp only[endK];exact ybo hx ⟨rfl,rfl⟩)
     ·cases h
    ·cases h
   ·cases h
  ·cases h
 ·cases h
theorem yfi:∀k,zmo P (evK P k)
 |0=>fun _ _ _ _ _ h=>by cases h
 |k+1=>z30 (yfi k)
def evKO (P:Program) (orc:z0f):Nat->z0f
 |0=>orc
 |k+1=>fun g args H=>match orc g args H with
  |some r=>some r
  |none=>z68 P (evKO P orc k) g args H
theorem ybg {orc:z0f} (ho:zmo P orc):∀k,zmo P (evKO P orc k)
 |0=>ho
 |k+1=>by
  intro g args H v H' h;simp only[evKO]at h;split at h
  ·rename_i r hr
   obtain rfl:=Wab h;exact ho _ _ _ _ _ hr
  ·exact z30 (ybg ho k) _ _ _ _ _ h
theorem z9n {orc:z0f} (ho:zmo P orc) (k:Nat) {g:FuncId} {args:List V} {x:V} (h:pcOf (evKO P orc k) g args=some x):Pu P g args x:=(z1x (ybg ho k) h).1
theorem z1v (k:Nat) {g:FuncId} {args:List V} {x:V} (h:pcOf (evK P k) g args=some x):Pu P g args x:=(z1x (yfi k) h).1
end
end Go.Lz

end
section
namespace Go.Lz
open Go.Proofs
set_option maxRecDepth 100000
theorem zpc {f:FuncId} {fn:Func} {t s b:Nat} {rows:List (List C)} {H:List O} (hf:prog.funcs[f]? =some fn) (h:(∀r∈rows,r.length=s)/\rows.length*b<=140737488355328/\rows.length<=lim) (hb:fn.body=some (yfm t 4):=by rfl) (I:(tSl prog t).map (fun q=>(q.2.1,q.2.2,((tZ prog q.1).bind V.cs).map List.length))=some (s,b,some s):=by kernel_rfl) (hs:0<s:=by decide)
  (ab:(fn.name== "runtime.NumGoroutine")=false:=by kernel_rfl) (ae:fn.ntmps=8:=by rfl) (ad:fn.results= #[.tmp 2]:=by rfl):Ct prog f [.one (.sl rows)] H fun v H'=>v=zsq H rows/\H'=zsr H s rows:=by
 cases ht:tSl prog t with
 |none=>rw[ht]at I;cases I
 |some q=>
  obtain⟨e,s',b'⟩:=q;rw[ht]at I;simp only[Wbc,WaQ,WbR]at I;obtain⟨rfl,rfl,I⟩:=I
  cases U:tZ prog e with
  |none=>simp[U]at I
  |some z=>
   rw[U]at I
   cases aa:z.cs with
   |none=>simp[aa]at I
   |some zs=>exact yek hf hb ab ae ad ht U aa (by simpa [aa]using I) hs h.1 h.2.1 h.2.2
theorem zod {xs:List (List Int)} {H:List O} (h:24*xs.length<=140737488355328):Ct prog 56 [.one (.sl (xs.map (eL eI)))] H fun v H'=>v=.one (.msl H.length 0 0 xs.length)/\H'=H++[.cells 0 1 (xs.map (eL eI))]:=by
 have:=zpc (H:=H) func56 (rows:=xs.map (eL eI)) (s:=1) (b:=24) (t:=32) ⟨fun r hr=>by obtain⟨x,_,rfl⟩:=War.1 hr;simp[go_sem],by simp;omega,by simp[lim];omega⟩
 simpa [zsq,zsr]using this
theorem zoe {xs:List (A4 Int)} {H:List O} (h:32*xs.length<=140737488355328):Ct prog 57 [.one (.sl (xs.map (eA4 eI)))] H fun v H'=>v=.one (.msl H.length 0 0 xs.length)/\H'=H++[.cells 0 4 (xs.map (eA4 eI))]:=by
 have:=zpc (H:=H) func57 (rows:=xs.map (eA4 eI)) (s:=4) (b:=32) (t:=33) ⟨fun r hr=>by obtain⟨x,_,rfl⟩:=War.1 hr;simp[go_sem],by simp;omega,by simp[lim];omega⟩
 simpa [zsq,zsr]using this
def zku (s:List (Int)):Option (List (Int)):=need (8*s.length<=140737488355328) (some s)
theorem zi1 {xs:List (Int)} {H:List O} (h:8*xs.length<=140737488355328):Ct prog 58 [.one (.sl (xs.map eI))] H fun v H'=>v=.one (.msl H.length 0 0 xs.length)/\H'=H++[.cells 0 1 (xs.map eI)]:=by
 have:=zpc (H:=H) func58 (rows:=xs.map eI) (s:=1) (b:=8) (t:=36) ⟨fun r hr=>by obtain⟨x,_,rfl⟩:=War.1 hr;simp[go_sem],by simp;omega,by simp[lim];omega⟩
 simpa [zsq,zsr]using this
theorem zq7 {s:List (Int)} {r:List (Int)} (h:zku s=some r):Pu prog 58 [.one (.sl (s.map eI))] (.one (.sl (r.map eI))):=by
 obtain⟨h1,h2⟩:=z1z h;cases h2
 have e:(V.one (.msl 0 0 0 s.length)).view [O.cells 0 1 (s.map eI)]=.one (.sl (s.map eI)):=by simp[go_sem]
 have:=z6j (v:=.one (.msl 0 0 0 s.length)) (H':=[.cells 0 1 (s.map eI)]) (by simpa using zi1 (xs:=s) (H:=[]) h1) (by rw[e];simp[go_sem])
 rw[e]at this;exact this
theorem zk8 {xs:List (xsx)} {H:List O} (h:16*xs.length<=140737488355328):Ct prog 59 [.one (.sl (xs.map xss))] H fun v H'=>v=.one (.msl H.length 0 0 xs.length)/\H'=H++[.cells 0 2 (xs.map xss)]:=by
 have:=zpc (H:=H) func59 (rows:=xs.map xss) (s:=2) (b:=16) (t:=37) ⟨fun r hr=>by obtain⟨x,_,rfl⟩:=War.1 hr;simp[go_sem],by simp;omega,by simp[lim];omega⟩
 simpa [zsq,zsr]using this
end Go.Lz

end
section
namespace Go.Lz
open Go.Proofs
set_option maxRecDepth 100000
def cloneTab:List (Nat×Nat×Nat):=[(56,1,24),(57,4,32),(58,1,8),(59,2,16)]
def orcC:z0f:=fun g args H=>match args with
 |[.one (.sl rows)]=>match cloneTab.find? (fun p=>p.1==g)with
  |some (_,s,b)=>if(∀r∈rows,r.length=s)/\rows.length*b<=140737488355328/\rows.length<=lim then some (zsq H rows,zsr H s rows)else none
  |none=>none
 |_=>none
theorem yhj:zmo prog orcC:=by
 intro g args H v H' h;unfold orcC at h;split at h
 ·rename_i rows
  split at h
  ·rename_i U s b hf
   split at h
   ·rename_i hc
    obtain⟨rfl,rfl⟩:=WaP (Wab h)
    have hm:=List.mem_of_find?_eq_some hf
    have I:=List.find?_some hf
    simp only[beq_iff_eq]at I;subst I;simp only[cloneTab,Wax,WbR,List.not_mem_nil,or_false]at hm
    rcases hm with⟨rfl,rfl,rfl⟩|⟨rfl,rfl,rfl⟩|⟨rfl,rfl,rfl⟩|⟨rfl,rfl,rfl⟩
    ·exact zpc func56 hc
    ·exact zpc func57 hc
    ·exact zpc func58 hc
    ·exact zpc func59 hc
   ·cases h
  ·cases h
 ·cases h
def ye3:xsj:=⟨⟨[[108,111,119],[104,105,103,104]],[⟨0,1⟩]⟩,[],[⟨[104],⟨2,0,0⟩,0,1,0⟩],[],[]⟩
def yfl:xsk:=⟨8,0,0,[],[⟨1,1,2,[],[]⟩,⟨1,0,2,[],[]⟩]⟩
theorem yap:Pu prog 149 [.agg (xso ye3),.one (.sl (([1]:List Int).map eI)),.agg (xsm yfl)] (.one (.int .i64 0)):=
 yaq (lr:=[1]) (z1v 20 (by kernel_rfl)) (z1v 20 (by kernel_rfl)) (z1v 20 (by kernel_rfl))
def yqs:List V:=[.agg (xso ye3),.one (.sl (([1]:List Int).map eI)),.agg (xsm yfl)]
def orcE:z0f:=fun g args H=>match g==149&&H.isEmpty&&eqVs args yqs with
 |true=>some (.one (.int .i64 0),[])
 |false=>orcC g args H
theorem yhi:zmo prog orcE:=by
 intro g args H v H' h;unfold orcE at h;split at h
 ·rename_i hc
  simp only[Wan,beq_iff_eq,WbE]at hc;obtain⟨⟨rfl,rfl⟩,h3⟩:=hc;obtain⟨rfl,rfl⟩:=WaP (Wab h);rw[ybj h3];exact yap
 ·exact yhj _ _ _ _ _ h
def zc7:Option Bool:=some true
theorem zee {r:Bool} (h:zc7=some r):Pu prog 9 [] (.one (.bool r)):=by
 obtain rfl:=Wab h;exact z9n yhi 40 (by kernel_rfl)
end Go.Lz

end
section
namespace Go.Lz
open Go.Proofs
attribute [-go_sem] zna g_b gd_b
set_option maxRecDepth 100000
set_option maxHeartbeats 4000000
noncomputable section
end
end Go.Lz

end
section
namespace Go.Lz
open Go.Proofs
attribute [-go_sem] zna g_b gd_b
set_option maxRecDepth 100000
set_option maxHeartbeats 4000000
noncomputable section
def zlr (p:xsj):((List Int)×Nat)->Option (((List Int)×Nat)⊕(List Int))
 |(I,U)=>if(U:Int)<(p.Blocks.length:Int)then((p.Blocks[U]?).bind fun aa=>need ((I.length+1)*8<=140737488355328) (some (.inl ((I++[aa.Label]),(U+1)))))else(some (.inr (I)))
def zni (p:xsj):((List Int)×Nat)->Option (((List Int)×Nat)⊕(List Int))
 |(I,U)=>if(U:Int)<(p.Vars.length:Int)then((p.Vars[U]?).bind fun aa=>need ((I.length+1)*8<=140737488355328) (some (.inl ((I++[aa.Label]),(U+1)))))else(some (.inr (I)))
def znj (r_:xs1):((List (List Int))×Nat)->Option (((List (List Int))×Nat)⊕(List (List Int)))
 |(I,U)=>if(U:Int)<(r_.Memory.Cells.length:Int)then((I[U]?).bind fun aa=>(zku aa).bind fun ab=>some (.inl ((I.set U ab),(U+1))))else(some (.inr (I)))
def zq1 (p:xsj) (I:xs1) (e:xsk) (pc:Int):Option (Int×xs1):=
 need (24*I.Memory.Cells.length<=140737488355328) (need (32*I.Memory.Blocks.length<=140737488355328) ((loop (znj I) (I.Memory.Cells,0)).bind (fun aa=>need (8*I.Left.length<=140737488355328) (need (8*I.Latches.length<=140737488355328) (need (16*I.Events.length<=140737488355328) ((loop (zni p) ([],0)).bind (fun ab=>(loop (zlr p) (ab,0)).bind (fun ad=>(zoq aa I.Memory.Blocks I.Left I.Latches I.Events I.Now p ad e pc).bind fun U=>some (U.1,(⟨(⟨aa,I.Memory.Blocks⟩:xs4),I.Left,U.2.1,U.2.2,I.Now⟩:xs1))))))))))
end
theorem zyl {p:xsj} {I:xs1} {e:xsk} {pc:Int} {r:Int×xs1} (h:zq1 p I e pc=some r):
  Pu prog 10 [.agg (xso p),.agg (xs6 I),.agg (xsm e),.one (.int .i64 pc)] (.tup [.one (.int .i64 r.1),.agg (xs6 r.2)]):=by
 have F:=trivial;have R:=trivial
 refine pT func10 ?_;simp only[f10];unfold zq1 at h;refine ypc ?_;refine tr ?_;intros;refine iS func31 ?_;simp only[f31];refine tt ?_
 first|refine⟨by kernel_rfl,[4],[4,5,6,8,9],[3,7],by kernel_rfl,?_⟩|refine⟨mo,zp7 (by kernel_rfl),by kernel_rfl,[4],[4,5,6,8,9],[3,7],by kernel_rfl,?_⟩
 refine tt ?_
 repeat (first|(with_reducible intro _)|((with_reducible refine zsk ?_ ?_);first|((with_reducible refine sq_i ?_);exact sq_)|exact ss))
 refine nd h F fun h F=>?_;refine cC8 (zod F.1) ?_;refine tt ?_
 repeat (first|(with_reducible intro _)|((with_reducible refine zsk ?_ ?_);first|((with_reducible refine sq_i ?_);exact sq_)|exact ss))
 refine nd h F fun h F=>?_;refine cC8 (zoe F.1) ?_;refine tt ?_
 repeat (first|(with_reducible intro _)|((with_reducible refine zsk ?_ ?_);first|((with_reducible refine sq_i ?_);exact sq_)|exact ss))
 refine bi h fun U h aG=>?_;refine tr ?_;intros
 refine lX aG (fun|(aj,aq),_=>⟨[(1,.one (.ref 4 0 0 0)),(2,.one (.ref 5 0 0 0)),(19,.one (.msl 6 0 0 aj.length)),(20,.one (.int .i64 (I.Memory.Cells.length:Int))),(21,.one (.int .i64 (aq:Int)))],[.cells 0 6 [(eP_ p)],.cells 0 6 [[.sl (I.Memory.Cells.map (eL eI)),.sl (I.Memory.Blocks.map (eA4 eI)),.sl (I.Left.map eI),.sl (I.Latches.map eI),.sl (I.Events.map xss),.int .i64 I.Now]],.cells 0 5 [[.int .i64 e.Op,.int .i64 e.N,.int .i64 e.Kind,.str e.Name,.sl (e.Args.map xsm)]],.cells 0 6 [[.slf [],.slf [],.slf [],.slf [],.slf [],.int .i64 0]],.cells 0 6 [[.msl 6 0 0 aj.length,.msl 7 0 0 I.Memory.Blocks.length,.sl (I.Left.map eI),.sl (I.Latches.map eI),.sl (I.Events.map xss),.int .i64 I.Now]],.cells 0 6 [[.slf [],.slf [],.slf [],.slf [],.slf [],.int .i64 0]],.cells 0 1 (aj.map (eL eI)),.cells 0 4 (I.Memory.Blocks.map (eA4 eI))]⟩) (fun|U,_=>⟨[(1,.one (.ref 4 0 0 0)),(2,.one (.ref 5 0 0 0))],[.cells 0 6 [(eP_ p)],.cells 0 6 [[.sl (I.Memory.Cells.map (eL eI)),.sl (I.Memory.Blocks.map (eA4 eI)),.sl (I.Left.map eI),.sl (I.Latches.map eI),.sl (I.Events.map xss),.int .i64 I.Now]],.cells 0 5 [[.int .i64 e.Op,.int .i64 e.N,.int .i64 e.Kind,.str e.Name,.sl (e.Args.map xsm)]],.cells 0 6 [[.slf [],.slf [],.slf [],.slf [],.slf [],.int .i64 0]],.cells 0 6 [[.msl 6 0 0 U.length,.msl 7 0 0 I.Memory.Blocks.length,.sl (I.Left.map eI),.sl (I.Latches.map eI),.sl (I.Events.map xss),.int .i64 I.Now]],.cells 0 6 [[.slf [],.slf [],.slf [],.slf [],.slf [],.int .i64 0]],.cells 0 1 (U.map (eL eI)),.cells 0 4 (I.Memory.Blocks.map (eA4 eI))]⟩) (fun _=>some 0) ?_ ?_
 intro i6 b6 aO;obtain rfl:=Wab aO;obtain⟨⟩:=b6;dsimp only at h|-;refine tt ?_
 first|refine⟨by kernel_rfl,[4],[3,4,6,7,9],[2,5,8],by kernel_rfl,?_⟩|refine⟨mo,zp7 (by kernel_rfl),by kernel_rfl,[4],[3,4,6,7,9],[2,5,8],by kernel_rfl,?_⟩
 refine tt ?_
 repeat (first|(with_reducible intro _)|((with_reducible refine zsk ?_ ?_);first|((with_reducible refine sq_i ?_);exact sq_)|exact ss))
 refine nd h F fun h F=>?_;refine cC8 (zi1 F.1) ?_;refine tt ?_
 repeat (first|(with_reducible intro _)|((with_reducible refine zsk ?_ ?_);first|((with_reducible refine sq_i ?_);exact sq_)|exact ss))
 refine nd h F fun h F=>?_;refine cC8 (zi1 F.1) ?_;refine tt ?_
 repeat (first|(with_reducible intro _)|((with_reducible refine zsk ?_ ?_);first|((with_reducible refine sq_i ?_);exact sq_)|exact ss))
 refine nd h F fun h F=>?_;refine cC8 (zk8 F.1) ?_;refine tt ?_
 repeat (first|(with_reducible intro _)|((with_reducible refine zsk ?_ ?_);first|((with_reducible refine sq_i ?_);exact sq_)|exact ss))
 refine tt ?_
 show Sem' _ _ _ _ _
 refine bi h fun an h aB=>?_;refine bi h fun aa h aC=>?_;refine cutF 4 [2] [2,3] [1] mo (by kernel_rfl) ?_;refine tt ?_
 repeat (first|(with_reducible intro _)|((with_reducible refine zsk ?_ ?_);first|((with_reducible refine sq_i ?_);exact sq_)|exact ss))
 refine iF (.one (.ref 12 0 0 0)) ([.cells 0 6 [(eP_ p)],.cells 0 6 [[.msl 6 0 0 U.length,.msl 7 0 0 I.Memory.Blocks.length,.msl 8 0 0 I.Left.length,.msl 9 0 0 I.Latches.length,.msl 10 0 0 I.Events.length,.int .i64 I.Now]],.cells 0 5 [[.int .i64 e.Op,.int .i64 e.N,.int .i64 e.Kind,.str e.Name,.sl (e.Args.map xsm)]],.cells 0 6 [[.slf [],.slf [],.slf [],.slf [],.slf [],.int .i64 0]],.cells 0 6 [[.msl 6 0 0 U.length,.msl 7 0 0 I.Memory.Blocks.length,.msl 8 0 0 I.Left.length,.msl 9 0 0 I.Latches.length,.msl 10 0 0 I.Events.length,.int .i64 I.Now]],.cells 0 6 [[.msl 6 0 0 U.length,.msl 7 0 0 I.Memory.Blocks.length,.msl 8 0 0 I.Left.length,.msl 9 0 0 I.Latches.length,.msl 10 0 0 I.Events.length,.int .i64 I.Now]],.cells 0 1 (U.map (eL eI)),.cells 0 4 (I.Memory.Blocks.map (eA4 eI)),.cells 0 1 (I.Left.map eI),.cells 0 1 (I.Latches.map eI),.cells 0 2 (I.Events.map xss),.cells 0 6 [(eP_ p)],.cells 0 8 [[.ref 1 0 0 0,.sl (p.Lattice.Names.map eS),.sl (p.Lattice.Below.map (eA2 eI)),.sl (p.Sites.map xsr),.sl (p.Vars.map xst),.sl (p.Blocks.map xsu),.sl (p.Tasks.map xsv),.msl 13 aa.length 0 aa.length]],.cells aa.length 1 (aa.map eI)]) func32 ?_ ?_
 ·simp only[f32]
  refine tr ?_;intros;refine yko 12 7 1 (by rfl) (by rfl) ?_
  refine lE (fun(av:(List Int)×Nat) (aw:Unit)=>match av,aw with|(ae,ar),_=>⟨[(2,.one (.ref 11 0 0 0)),(5,.one (.ref 12 0 0 0)),(15,.one (.sl (p.Vars.map xst))),(16,.one (.int .i64 (p.Vars.length:Int))),(17,.one (.int .i64 (ar:Int)))],[.cells 0 6 [(eP_ p)],.cells 0 6 [[.msl 6 0 0 U.length,.msl 7 0 0 I.Memory.Blocks.length,.msl 8 0 0 I.Left.length,.msl 9 0 0 I.Latches.length,.msl 10 0 0 I.Events.length,.int .i64 I.Now]],.cells 0 5 [[.int .i64 e.Op,.int .i64 e.N,.int .i64 e.Kind,.str e.Name,.sl (e.Args.map xsm)]],.cells 0 6 [[.slf [],.slf [],.slf [],.slf [],.slf [],.int .i64 0]],.cells 0 6 [[.msl 6 0 0 U.length,.msl 7 0 0 I.Memory.Blocks.length,.msl 8 0 0 I.Left.length,.msl 9 0 0 I.Latches.length,.msl 10 0 0 I.Events.length,.int .i64 I.Now]],.cells 0 6 [[.msl 6 0 0 U.length,.msl 7 0 0 I.Memory.Blocks.length,.msl 8 0 0 I.Left.length,.msl 9 0 0 I.Latches.length,.msl 10 0 0 I.Events.length,.int .i64 I.Now]],.cells 0 1 (U.map (eL eI)),.cells 0 4 (I.Memory.Blocks.map (eA4 eI)),.cells 0 1 (I.Left.map eI),.cells 0 1 (I.Latches.map eI),.cells 0 2 (I.Events.map xss),.cells 0 6 [(eP_ p)],.cells 0 8 [[.ref 1 0 0 0,.sl (p.Lattice.Names.map eS),.sl (p.Lattice.Below.map (eA2 eI)),.sl (p.Sites.map xsr),.sl (p.Vars.map xst),.sl (p.Blocks.map xsu),.sl (p.Tasks.map xsv),.msl 13 ae.length 0 ae.length]],.cells ae.length 1 (ae.map eI)]⟩) (fun(ax:List Int) (ay:Unit)=>match ax,ay with|an,_=>⟨[(2,.one (.ref 11 0 0 0)),(5,.one (.ref 12 0 0 0))],[.cells 0 6 [(eP_ p)],.cells 0 6 [[.msl 6 0 0 U.length,.msl 7 0 0 I.Memory.Blocks.length,.msl 8 0 0 I.Left.length,.msl 9 0 0 I.Latches.length,.msl 10 0 0 I.Events.length,.int .i64 I.Now]],.cells 0 5 [[.int .i64 e.Op,.int .i64 e.N,.int .i64 e.Kind,.str e.Name,.sl (e.Args.map xsm)]],.cells 0 6 [[.slf [],.slf [],.slf [],.slf [],.slf [],.int .i64 0]],.cells 0 6 [[.msl 6 0 0 U.length,.msl 7 0 0 I.Memory.Blocks.length,.msl 8 0 0 I.Left.length,.msl 9 0 0 I.Latches.length,.msl 10 0 0 I.Events.length,.int .i64 I.Now]],.cells 0 6 [[.msl 6 0 0 U.length,.msl 7 0 0 I.Memory.Blocks.length,.msl 8 0 0 I.Left.length,.msl 9 0 0 I.Latches.length,.msl 10 0 0 I.Events.length,.int .i64 I.Now]],.cells 0 1 (U.map (eL eI)),.cells 0 4 (I.Memory.Blocks.map (eA4 eI)),.cells 0 1 (I.Left.map eI),.cells 0 1 (I.Latches.map eI),.cells 0 2 (I.Events.map xss),.cells 0 6 [(eP_ p)],.cells 0 8 [[.ref 1 0 0 0,.sl (p.Lattice.Names.map eS),.sl (p.Lattice.Below.map (eA2 eI)),.sl (p.Sites.map xsr),.sl (p.Vars.map xst),.sl (p.Blocks.map xsu),.sl (p.Tasks.map xsv),.msl 13 an.length 0 an.length]],.cells an.length 1 (an.map eI)]⟩) (fun(_:List Int)=>some 0) () aB ?_ ?_
  intro i17 a5 aH;obtain rfl:=Wab aH;dsimp only;refine tr ?_;intros
  refine lE (fun(av:(List Int)×Nat) (aw:Unit)=>match av,aw with|(af,au),_=>⟨[(5,.one (.ref 12 0 0 0)),(34,.one (.sl (p.Blocks.map xsu))),(35,.one (.int .i64 (p.Blocks.length:Int))),(36,.one (.int .i64 (au:Int)))],[.cells 0 6 [(eP_ p)],.cells 0 6 [[.msl 6 0 0 U.length,.msl 7 0 0 I.Memory.Blocks.length,.msl 8 0 0 I.Left.length,.msl 9 0 0 I.Latches.length,.msl 10 0 0 I.Events.length,.int .i64 I.Now]],.cells 0 5 [[.int .i64 e.Op,.int .i64 e.N,.int .i64 e.Kind,.str e.Name,.sl (e.Args.map xsm)]],.cells 0 6 [[.slf [],.slf [],.slf [],.slf [],.slf [],.int .i64 0]],.cells 0 6 [[.msl 6 0 0 U.length,.msl 7 0 0 I.Memory.Blocks.length,.msl 8 0 0 I.Left.length,.msl 9 0 0 I.Latches.length,.msl 10 0 0 I.Events.length,.int .i64 I.Now]],.cells 0 6 [[.msl 6 0 0 U.length,.msl 7 0 0 I.Memory.Blocks.length,.msl 8 0 0 I.Left.length,.msl 9 0 0 I.Latches.length,.msl 10 0 0 I.Events.length,.int .i64 I.Now]],.cells 0 1 (U.map (eL eI)),.cells 0 4 (I.Memory.Blocks.map (eA4 eI)),.cells 0 1 (I.Left.map eI),.cells 0 1 (I.Latches.map eI),.cells 0 2 (I.Events.map xss),.cells 0 6 [(eP_ p)],.cells 0 8 [[.ref 1 0 0 0,.sl (p.Lattice.Names.map eS),.sl (p.Lattice.Below.map (eA2 eI)),.sl (p.Sites.map xsr),.sl (p.Vars.map xst),.sl (p.Blocks.map xsu),.sl (p.Tasks.map xsv),.msl 13 af.length 0 af.length]],.cells af.length 1 (af.map eI)]⟩) (fun(ax:List Int) (ay:Unit)=>match ax,ay with|aa,_=>⟨[(5,.one (.ref 12 0 0 0))],[.cells 0 6 [(eP_ p)],.cells 0 6 [[.msl 6 0 0 U.length,.msl 7 0 0 I.Memory.Blocks.length,.msl 8 0 0 I.Left.length,.msl 9 0 0 I.Latches.length,.msl 10 0 0 I.Events.length,.int .i64 I.Now]],.cells 0 5 [[.int .i64 e.Op,.int .i64 e.N,.int .i64 e.Kind,.str e.Name,.sl (e.Args.map xsm)]],.cells 0 6 [[.slf [],.slf [],.slf [],.slf [],.slf [],.int .i64 0]],.cells 0 6 [[.msl 6 0 0 U.length,.msl 7 0 0 I.Memory.Blocks.length,.msl 8 0 0 I.Left.length,.msl 9 0 0 I.Latches.length,.msl 10 0 0 I.Events.length,.int .i64 I.Now]],.cells 0 6 [[.msl 6 0 0 U.length,.msl 7 0 0 I.Memory.Blocks.length,.msl 8 0 0 I.Left.length,.msl 9 0 0 I.Latches.length,.msl 10 0 0 I.Events.length,.int .i64 I.Now]],.cells 0 1 (U.map (eL eI)),.cells 0 4 (I.Memory.Blocks.map (eA4 eI)),.cells 0 1 (I.Left.map eI),.cells 0 1 (I.Latches.map eI),.cells 0 2 (I.Events.map xss),.cells 0 6 [(eP_ p)],.cells 0 8 [[.ref 1 0 0 0,.sl (p.Lattice.Names.map eS),.sl (p.Lattice.Below.map (eA2 eI)),.sl (p.Sites.map xsr),.sl (p.Vars.map xst),.sl (p.Blocks.map xsu),.sl (p.Tasks.map xsv),.msl 13 aa.length 0 aa.length]],.cells aa.length 1 (aa.map eI)]⟩) (fun(_:List Int)=>some 2) () aC ?_ ?_
  intro i25 a7 aI;obtain rfl:=Wab aI;dsimp only;exact fin;intro aJ a8 aP aW a9 ab az aK;obtain⟨af,au⟩:=aP;dsimp only[zlr]at ab|-;refine fl ab F ?_ ?_<;>intro ab _ F;refine bx ab F fun aX ab aU F=>?_;refine tt ?_
  repeat (first|(with_reducible intro _)|refine⟨sb,?_⟩)
  refine⟨lt_ [0],?_⟩;refine nd ab F fun ab F=>?_;cases ab;refine tr ?_;intros;refine wn au F fun F=>?_;exact bk aK az (());cases ab;refine tt ?_;exact xt az aJ ();intro aL ba aQ aY bb ad aA aM;obtain⟨ae,ar⟩:=aQ;dsimp only[zni]at ad|-;refine fl ad F ?_ ?_<;>intro ad _ F;refine bx ad F fun aZ ad aV F=>?_;refine tt ?_
  repeat (first|(with_reducible intro _)|refine⟨sb,?_⟩)
  refine⟨lt_ [0],?_⟩;refine nd ad F fun ad F=>?_;cases ad;refine tr ?_;intros;refine wn ar F fun F=>?_;exact bk aM aA (());cases ad;refine tt ?_;exact xt aA aL ()
 refine tt ?_
 repeat (first|(with_reducible intro _)|((with_reducible refine zsk ?_ ?_);first|((with_reducible refine sq_i ?_);exact sq_)|exact ss))
 refine bi h fun ao h aD=>?_
 refine cLX8 [12,1,6,7,8,9,10,13] (.one (.int .i64 ao.1)) (fun aR:Nat×Nat=>match aR with|(ak,al)=>[.cells 0 6 [(eP_ p)],.cells 0 6 [[.msl 6 0 0 U.length,.msl 7 0 0 I.Memory.Blocks.length,.msl 8 0 0 I.Left.length,.msl 9 ak 0 ao.2.1.length,.msl 10 al 0 ao.2.2.length,.int .i64 I.Now]],.cells 0 5 [[.int .i64 e.Op,.int .i64 e.N,.int .i64 e.Kind,.str e.Name,.sl (e.Args.map xsm)]],.cells 0 6 [[.slf [],.slf [],.slf [],.slf [],.slf [],.int .i64 0]],.cells 0 6 [[.msl 6 0 0 U.length,.msl 7 0 0 I.Memory.Blocks.length,.msl 8 0 0 I.Left.length,.msl 9 0 0 I.Latches.length,.msl 10 0 0 I.Events.length,.int .i64 I.Now]],.cells 0 6 [[.msl 6 0 0 U.length,.msl 7 0 0 I.Memory.Blocks.length,.msl 8 0 0 I.Left.length,.msl 9 0 0 I.Latches.length,.msl 10 0 0 I.Events.length,.int .i64 I.Now]],.cells 0 1 (U.map (eL eI)),.cells 0 4 (I.Memory.Blocks.map (eA4 eI)),.cells 0 1 (I.Left.map eI),.cells ak 1 (ao.2.1.map eI),.cells al 2 (ao.2.2.map xss),.cells 0 6 [(eP_ p)],.cells 0 8 [[.ref 1 0 0 0,.sl (p.Lattice.Names.map eS),.sl (p.Lattice.Below.map (eA2 eI)),.sl (p.Sites.map xsr),.sl (p.Vars.map xst),.sl (p.Blocks.map xsu),.sl (p.Tasks.map xsv),.msl 13 aa.length 0 aa.length]],.cells aa.length 1 (aa.map eI)]) (zw0 (w0:=0) (w1:=0) (w2:=0) (w3:=0) (w4:=0) (w5:=0) (w6:=0) (w7:=aa.length) aD) ?_
 rintro⟨ak,al⟩;dsimp only;refine tr ?_;intros;cases h;exact fin;intro aS m6 s6 a6 o6 ai aE aT;obtain⟨aj,aq⟩:=s6;obtain⟨⟩:=a6;dsimp only[znj]at ai|-;refine fl ai F ?_ ?_<;>intro ai _ F;refine bx ai F fun bc ai a4 F=>?_;refine bi ai fun aF ai aN=>?_;refine tr ?_;intros;refine cD (zq7 aN) ?_
 have R:=And.intro (show(List.map (eL eI) aj).set aq [.sl (aF.map eI)]=List.map (eL eI) (aj.set aq aF) by simp[go_sem,WaL]) R
 cases ai;refine tr ?_;intros;refine wn aq F fun F=>?_;exact bk aT aE ();cases ai;refine tt ?_;exact xt aE aS ()
end Go.Lz

end
section
namespace Go.Lz
open Go.Proofs
attribute [-go_sem] zna g_b gd_b
set_option maxRecDepth 100000
set_option maxHeartbeats 4000000
noncomputable section
def zdk (p:xsj) (l:A2 xs1) (ai:Int):((List (List Int))×(List (A4 Int))×Nat)->Option (((List (List Int))×(List (A4 Int))×Nat)⊕((List (List Int))×(List (A4 Int))))
 |(U,aa,I)=>if(I:Int)<(p.Blocks.length:Int)then((p.Blocks[I]?).bind fun ad=>(zak p.Lattice ad.Label ai).bind fun ae=>if ae=true then((l.a0.Memory.Blocks[I]?).bind fun af=>(zgd (⟨U,aa⟩:xs4) (I:Int) af).bind fun ab=>some (.inl (ab.Cells,ab.Blocks,(I+1))))else(some (.inl (U,aa,(I+1)))))else(some (.inr ((U,aa))))
def zdl (p:xsj) (l:A2 xs1) (ai:Int):((List (List Int))×(List (A4 Int))×Nat)->Option (((List (List Int))×(List (A4 Int))×Nat)⊕((List (List Int))×(List (A4 Int))))
 |(U,aa,I)=>if(I:Int)<(p.Vars.length:Int)then((p.Vars[I]?).bind fun ad=>(zak p.Lattice ad.Label ai).bind fun ae=>if ae=true then((l.a0.Memory.Cells[I]?).bind fun af=>(zgc (⟨U,aa⟩:xs4) (I:Int) af).bind fun ab=>some (.inl (ab.Cells,ab.Blocks,(I+1))))else(some (.inl (U,aa,(I+1)))))else(some (.inr ((U,aa))))
def zh9 (p:xsj) (l:A2 xs1) (e:xsk):Option Bool:=
 (ze3 p l.a0).bind fun ak=>if ak=0 then((zc7).bind fun al=>some al)else((ze3 p l.a1).bind fun an=>if an=0 then((zc7).bind fun ao=>some ao)else((zf8 p e).bind fun aq=>if aq=true then((zj8 e).bind fun ar=>if ar=true then((zc7).bind fun au=>some au)else((ze7 p).bind fun av=>(zbc p av e).bind fun I=>(loop (zdl p l I) (l.a1.Memory.Cells,l.a1.Memory.Blocks,0)).bind (fun(U,aa)=>(loop (zdk p l I) (U,aa,0)).bind (fun(ab,ad)=>(zq1 p l.a0 e 0).bind fun ae=>(zq1 p (⟨(⟨ab,ad⟩:xs4),l.a1.Left,l.a1.Latches,l.a1.Events,l.a1.Now⟩:xs1) e 0).bind fun af=>if ae.1=af.1 then((zc7).bind fun ai=>some ai)else(some false)))))else((zc7).bind fun aj=>some aj)))
end
theorem zpz {p:xsj} {l:A2 xs1} {e:xsk} {r:Bool} (h:zh9 p l e=some r):
  Pu prog 6 [.agg (xso p),.agg ((eA2 xs6) l),.agg (xsm e)] (.one (.bool r)):=by
 have F:=trivial;have R:=trivial
 refine pA func6 ?_;simp only[f6];unfold zh9 at h;refine bi h fun bp h aG=>?_;refine tr ?_;intros;refine cS (zmm aG) ?_;refine fi h F ?_ ?_<;>intro h _ F;refine bi h fun bq h aH=>?_;refine tr ?_;intros;refine cS (zee aH) ?_;cases h;exact fin;refine bi h fun br h aI=>?_;refine tr ?_;intros;refine cS (zmm aI) ?_;refine fi h F ?_ ?_<;>intro h _ F;refine bi h fun bs h aJ=>?_;refine tr ?_
 intros;refine cS (zee aJ) ?_;cases h;exact fin;refine bi h fun bt h aK=>?_;refine tr ?_;intros;refine cS (zr6 aK) ?_;refine fv h F ?_ ?_<;>intro h _ F;refine bi h fun bu h aL=>?_;refine tr ?_;intros;refine cS (zpy aL) ?_;refine fv h F ?_ ?_<;>intro h _ F;refine bi h fun bw h aM=>?_;refine tr ?_;intros;refine cS (zee aM) ?_;cases h;exact fin;refine bi h fun bz h aN=>?_;refine tr ?_;intros
 refine cD (zqg aN) ?_;refine bi h fun af h aO=>?_;refine tr ?_;intros;refine cD (zrp aO) ?_;refine bi h fun aP h aw=>?_;refine tr ?_;intros
 refine lX aw (fun|(ai,aj,aa),_=>⟨[(3,.one (.ref 0 0 0 0)),(4,.one (.ref 1 0 0 0)),(5,.one (.ref 2 0 0 0)),(7,.one (.int .i64 af)),(8,.one (.ref 3 0 0 0)),(9,.one (.int .i64 (aa:Int)))],[.cells 0 6 [(eP_ p)],.cells 0 12 [[.sl (l.a0.Memory.Cells.map (eL eI)),.sl (l.a0.Memory.Blocks.map (eA4 eI)),.sl (l.a0.Left.map eI),.sl (l.a0.Latches.map eI),.sl (l.a0.Events.map xss),.int .i64 l.a0.Now,.sl (l.a1.Memory.Cells.map (eL eI)),.sl (l.a1.Memory.Blocks.map (eA4 eI)),.sl (l.a1.Left.map eI),.sl (l.a1.Latches.map eI),.sl (l.a1.Events.map xss),.int .i64 l.a1.Now]],.cells 0 5 [[.int .i64 e.Op,.int .i64 e.N,.int .i64 e.Kind,.str e.Name,.sl (e.Args.map xsm)]],.cells 0 6 [[.sl (ai.map (eL eI)),.sl (aj.map (eA4 eI)),.sl (l.a1.Left.map eI),.sl (l.a1.Latches.map eI),.sl (l.a1.Events.map xss),.int .i64 l.a1.Now]]]⟩) (fun|(ak,al),_=>⟨[(3,.one (.ref 0 0 0 0)),(4,.one (.ref 1 0 0 0)),(5,.one (.ref 2 0 0 0)),(7,.one (.int .i64 af)),(8,.one (.ref 3 0 0 0))],[.cells 0 6 [(eP_ p)],.cells 0 12 [[.sl (l.a0.Memory.Cells.map (eL eI)),.sl (l.a0.Memory.Blocks.map (eA4 eI)),.sl (l.a0.Left.map eI),.sl (l.a0.Latches.map eI),.sl (l.a0.Events.map xss),.int .i64 l.a0.Now,.sl (l.a1.Memory.Cells.map (eL eI)),.sl (l.a1.Memory.Blocks.map (eA4 eI)),.sl (l.a1.Left.map eI),.sl (l.a1.Latches.map eI),.sl (l.a1.Events.map xss),.int .i64 l.a1.Now]],.cells 0 5 [[.int .i64 e.Op,.int .i64 e.N,.int .i64 e.Kind,.str e.Name,.sl (e.Args.map xsm)]],.cells 0 6 [[.sl (ak.map (eL eI)),.sl (al.map (eA4 eI)),.sl (l.a1.Left.map eI),.sl (l.a1.Latches.map eI),.sl (l.a1.Events.map xss),.int .i64 l.a1.Now]]]⟩) (fun _=>some 0) ?_ ?_
 intro i14 aV aQ;obtain rfl:=Wab aQ;obtain⟨ak,al⟩:=aP;obtain⟨⟩:=aV;dsimp only at h|-;refine bi h fun aR h ax=>?_;refine tt ?_
 refine lX ax (fun|(an,ao,ab),_=>⟨[(3,.one (.ref 0 0 0 0)),(4,.one (.ref 1 0 0 0)),(5,.one (.ref 2 0 0 0)),(7,.one (.int .i64 af)),(8,.one (.ref 3 0 0 0)),(10,.one (.int .i64 (ab:Int)))],[.cells 0 6 [(eP_ p)],.cells 0 12 [[.sl (l.a0.Memory.Cells.map (eL eI)),.sl (l.a0.Memory.Blocks.map (eA4 eI)),.sl (l.a0.Left.map eI),.sl (l.a0.Latches.map eI),.sl (l.a0.Events.map xss),.int .i64 l.a0.Now,.sl (l.a1.Memory.Cells.map (eL eI)),.sl (l.a1.Memory.Blocks.map (eA4 eI)),.sl (l.a1.Left.map eI),.sl (l.a1.Latches.map eI),.sl (l.a1.Events.map xss),.int .i64 l.a1.Now]],.cells 0 5 [[.int .i64 e.Op,.int .i64 e.N,.int .i64 e.Kind,.str e.Name,.sl (e.Args.map xsm)]],.cells 0 6 [[.sl (an.map (eL eI)),.sl (ao.map (eA4 eI)),.sl (l.a1.Left.map eI),.sl (l.a1.Latches.map eI),.sl (l.a1.Events.map xss),.int .i64 l.a1.Now]]]⟩) (fun|(aq,ar),_=>⟨[(3,.one (.ref 0 0 0 0)),(4,.one (.ref 1 0 0 0)),(5,.one (.ref 2 0 0 0)),(8,.one (.ref 3 0 0 0))],[.cells 0 6 [(eP_ p)],.cells 0 12 [[.sl (l.a0.Memory.Cells.map (eL eI)),.sl (l.a0.Memory.Blocks.map (eA4 eI)),.sl (l.a0.Left.map eI),.sl (l.a0.Latches.map eI),.sl (l.a0.Events.map xss),.int .i64 l.a0.Now,.sl (l.a1.Memory.Cells.map (eL eI)),.sl (l.a1.Memory.Blocks.map (eA4 eI)),.sl (l.a1.Left.map eI),.sl (l.a1.Latches.map eI),.sl (l.a1.Events.map xss),.int .i64 l.a1.Now]],.cells 0 5 [[.int .i64 e.Op,.int .i64 e.N,.int .i64 e.Kind,.str e.Name,.sl (e.Args.map xsm)]],.cells 0 6 [[.sl (aq.map (eL eI)),.sl (ar.map (eA4 eI)),.sl (l.a1.Left.map eI),.sl (l.a1.Latches.map eI),.sl (l.a1.Events.map xss),.int .i64 l.a1.Now]]]⟩) (fun _=>some 2) ?_ ?_
 intro i25 aW aS;obtain rfl:=Wab aS;obtain⟨aq,ar⟩:=aR;obtain⟨⟩:=aW;dsimp only at h|-;refine bi h fun a9 h ay=>?_;refine tr ?_;intros;refine cS (zyl ay) ?_;refine bi h fun ba h az=>?_;refine tr ?_;intros;refine cS (zyl az) ?_;refine tt ?_;refine fi h F ?_ ?_<;>intro h _ F;refine bi h fun bb h aA=>?_;refine tr ?_;intros;refine cS (zee aA) ?_;cases h;exact fin;cases h;exact fin;intro aT bA aX aY bB I ad au
 obtain⟨an,ao,ab⟩:=aX;obtain⟨⟩:=aY;dsimp only[zdk]at I|-;refine tr ?_;intros;refine fl I F ?_ ?_<;>intro I _ F;refine bx I F fun bc I a5 F=>?_;refine bi I fun bf I aB=>?_;refine tr ?_;intros;refine cD (zai aB) ?_;refine fv I F ?_ ?_<;>intro I _ F;refine bx I F fun bg I a6 F=>?_;refine bi I fun bh I aC=>?_;refine tr ?_;intros;refine cD (zo3 aC) ?_;cases I;refine tr ?_;intros;refine wn ab F fun F=>?_
 exact bk au ad ();cases I;refine tt ?_;refine wn ab F fun F=>?_;exact bk au ad ();cases I;refine tt ?_;exact xt ad aT ();intro aU bC aZ a4 bD U ae av;obtain⟨ai,aj,aa⟩:=aZ;obtain⟨⟩:=a4;dsimp only[zdl]at U|-;refine tr ?_;intros;refine fl U F ?_ ?_<;>intro U _ F;refine bx U F fun bj U a7 F=>?_;refine bi U fun bl U aD=>?_;refine tr ?_;intros;refine cD (zai aD) ?_;refine fv U F ?_ ?_<;>intro U _ F
 refine bx U F fun bm U a8 F=>?_;refine bi U fun bn U aE=>?_;refine tr ?_;intros;refine cD (zo2 aE) ?_;cases U;refine tr ?_;intros;refine wn aa F fun F=>?_;exact bk av ae ();cases U;refine tt ?_;refine wn aa F fun F=>?_;exact bk av ae ();cases U;refine tt ?_;exact xt ae aU ();refine bi h fun bo h aF=>?_;refine tr ?_;intros;refine cS (zee aF) ?_;cases h;exact fin
end Go.Lz

end
section
namespace Go.Lz
def zeroCells (vars:List xsq):List (List Int):=vars.map fun v=>List.replicate (zxi v.Type_) 0
end Go.Lz

end
section
namespace Go.Lz
def LG (s t:RS):Prop:=t.1.length=s.1.length/\(∀(i:Nat) a,s.1[i]? =some a->a≠0->t.1[i]? =some a)/\s.2.length<=t.2.length
theorem LG.rfl {s:RS}:LG s s:=⟨by rfl,fun _ _ h _=>h,Wae _⟩
theorem LG.trans {s t u:RS} (h:LG s t) (k:LG t u):LG s u:=⟨by rw[k.1,h.1],fun i a ha h0=>k.2.1 i a (h.2.1 i a ha h0) h0,WaF h.2.2 k.2.2⟩
theorem LG.latch {s:RS} {j c:Int}:LG s (zz1 s.1 j c,s.2):=by
 unfold zz1;split
 ·rename_i h
  refine⟨by simp,fun i a ha h0=>?_,Wae _⟩
  have:¬j.toNat=i:=fun e=>by rw[e,ha]at h;exact h0 (Wab h.2)
  simp only;rw[WaV this];exact ha
 ·exact LG.rfl
theorem LG.step {p:xsj} {labels:List Int} {pc:Int} {e:xsk} {v:Int×Int} {s:RS}:LG s (rO p labels pc e v s):=by
 unfold rO;split
 ·exact⟨by rfl,fun _ _ h _=>h,by simp⟩
 ·split
  ·exact LG.rfl
  ·exact LG.latch
def zim (p:xsj):List Int:=p.Vars.map (·.Label)++p.Blocks.map (·.Label)
noncomputable def ansN (p:xsj) (r:xs1) (e:xsk) (pc:Int):Int×xs1:=
 ((vE p r.Memory.Cells r.Memory.Blocks e).1,⟨r.Memory,r.Left,(rE p r.Memory.Cells r.Memory.Blocks (zim p) pc e (r.Latches,r.Events)).1,(rE p r.Memory.Cells r.Memory.Blocks (zim p) pc e (r.Latches,r.Events)).2,r.Now⟩)
structure RunP (p:xsj) (r:xs1):Prop where
 nc:r.Memory.Cells.length=p.Vars.length
 nb:r.Memory.Blocks.length=p.Blocks.length
 nl:r.Left.length<=1000
 nt:r.Latches.length<=1000
 ne:r.Events.length<=100000000
 cl:∀c∈r.Memory.Cells,c.length<=1000
theorem z67 {p:xsj} (P:zkk p) {r:xs1} (R:RunP p r) {e:xsk} (g:GoodE e) (h0:zga p e≠0) (pc:Int):zq1 p r e pc=some (ansN p r e pc):=by
 have h1:=P.nv;have h2:=P.nb;have h3:=R.nc;have h4:=R.nb;have h5:=R.nl;have h6:=R.nt;have h7:=R.ne;have h8:=g.sz;have h9:=g.dep
 unfold zq1;rw[zc3 (by omega),zc3 (by omega)]
 have e1:loop (znj r) (r.Memory.Cells,0)=some r.Memory.Cells:=zu4 (fun i=>(r.Memory.Cells,i)) r.Memory.Cells.length r.Memory.Cells (fun i hi=>by
  have I:r.Memory.Cells[i]? =some r.Memory.Cells[i]:=Wac hi
  have hc:=R.cl _ (Wap hi)
  simp only[znj];rw[if_pos (by omega),I,Waa];unfold zku
  rw[zc3 (by omega),Waa,List.set_getElem_self]) (by simp only[znj];rw[if_neg (by omega)])
 rw[e1,Waa,zc3 (by omega),zc3 (by omega),zc3 (by omega)]
 have e2:loop (zni p) ([],0)=some (p.Vars.map (·.Label)):=zu4 (fun i=>((p.Vars.take i).map (·.Label),i)) p.Vars.length (p.Vars.map (·.Label)) (fun i hi=>by
  have I:p.Vars[i]? =some p.Vars[i]:=Wac hi
  simp only[zni]
  rw[if_pos (by omega),I,Waa,zc3 (by rw[Waq,Waw];omega),zk4 hi,WbW];rfl) (by
  simp only[zni]
  rw[if_neg (by omega),WaU (Wae _)])
 have e3:=zu4 (f:=zlr p) (fun i=>(p.Vars.map (·.Label)++(p.Blocks.take i).map (·.Label),i)) p.Blocks.length (zim p) (fun i hi=>by
  have I:p.Blocks[i]? =some p.Blocks[i]:=Wac hi
  simp only[zlr]
  rw[if_pos (by omega),I,Waa,zc3 (by rw[Wai,Waq,Waq,Waw];omega),zk4 hi,WbW,Wbe];rfl) (by
  simp only[zlr]
  rw[if_neg (by omega),WaU (Wae _)];rfl)
 have U:loop (zlr p) (p.Vars.map (·.Label),0)=some (zim p):=by simpa using e3
 obtain⟨v1,_⟩:=yew P h3 h4 (left:=r.Left) (labels:=zim p) (now:=r.Now) (pc:=pc) 1000000 e (by omega) g h0 (r.Latches,r.Events) (by simp only;omega)
 have v2:zoq r.Memory.Cells r.Memory.Blocks r.Left r.Latches r.Events r.Now p (zim p) e pc=_:=v1
 rw[e2,Waa,U,Waa,v2,Waa];rfl
theorem FitR.run {p:xsj} {r:xs1} (F:FitR p r):RunP p r:=by
 have h:=F.G.P.nl
 refine⟨F.nc,F.nb,by rw[F.nl];omega,by rw[F.nt];omega,by have:=F.ne;omega,fun c hc=>?_⟩;obtain⟨i,hi,rfl⟩:=Wbd hc
 have hv:i<p.Vars.length:=by rw[<-F.nc];exact hi
 have:=(F.cells i _ _ (Wac hv) (Wac hi)).1
 have:=ycv p.Vars[i].Type_
 omega
theorem z0b:zc7=some true:=rfl
end Go.Lz

end
section
namespace Go.Lz
mutual
def ndE:xsk->Prop
 |⟨op,_,_,_,args⟩=>op≠21/\ndEs args
def ndEs:List xsk->Prop
 |[]=>True
 |e::es=>ndE e/\ndEs es
end
theorem ye5 (e:xsk):ndE e=(e.Op≠21/\ndEs e.Args):=by cases e;rw[ndE]
theorem z9z:∀{l:List xsk},(∀x∈l,ndE x)->ndEs l
 |[],_=>by rw[ndEs];trivial
 |e::es,h=>by rw[ndEs];exact⟨h e (by simp),z9z fun x I=>h x (by simp[I])⟩
theorem z6m:∀{l:List xsk},ndEs l->∀x∈l,ndE x
 |[],_,x,I=>by cases I
 |e::es,h,x,I=>by
  rw[ndEs]at h
  rcases Wax.1 I with rfl|I
  ·exact h.1
  ·exact z6m h.2 x I
theorem z4b:∀(n:Nat) (e:xsk),depE e<=n->Tot (zcm n e) fun b=>b=false->ndE e
 |0,e,h=>by rw[zdn]at h;omega
 |n+1,e,h=>by
  rw[zdn]at h
  show Tot (zd0 (zcm n) e) _
  unfold zd0;refine Tot.ite (fun _=>Tot.mk fun h=>by cases h) fun o=>?_
  have key:Tot (loop (ze5 (zcm n) e) 0) fun r=>r=.inl true\/r=.inr ()/\∀x∈e.Args,ndE x:=by
   refine Tot.loop (fun i=>i<=e.Args.length/\∀x∈e.Args.take i,ndE x) (fun i=>e.Args.length-i) ⟨Waf _,by simp⟩ fun i ⟨hi,hI⟩=>?_;unfold ze5
   by_cases hl:i<e.Args.length
   ·rw[if_pos (by omega),Wac hl,Waa]
    obtain⟨b,hb,hq⟩:=z4b n e.Args[i] (by have:=zfm (Wap hl);omega);rw[hb,Waa];refine Tot.ite (fun _=>Tot.mk (.inl rfl)) fun hf=>Tot.mk ⟨⟨hl,fun x I=>?_⟩,by simp only;omega⟩;rw[zk4 hl]at I
    rcases WaG.1 I with I|I
    ·exact hI x I
    ·rw[WaK.1 I];exact hq (by simpa using hf)
   ·rw[if_neg (by omega)]
    exact Tot.mk (.inr ⟨rfl,fun x I=>hI x (by rw[WaU (by omega)];exact I)⟩)
  obtain⟨r,e1,U⟩:=key;rw[e1,Waa]
  rcases U with rfl|⟨rfl,U⟩
  ·exact Tot.mk fun h=>by cases h
  ·exact Tot.mk fun _=>by rw[ye5];exact⟨o,z9z U⟩
section
variable {R:xsj->xsk->Option (List Int)} {p:xsj} {e x y:xsk} {acc xs ys:List Int}
theorem yd4 {f:List Int×Nat->Option ((List Int×Nat)⊕List Int)} (hf:∀l i,f (l,i)=if(i:Int)<(e.Args.length:Int)then((e.Args[i]?).bind fun x=>(R p x).bind fun r=>need ((l.length+r.length)*8<=140737488355328) (some (.inl ((l++r),(i+1)))))else(some (.inr l)))
  (h:e.Args=[]):loop f (acc,0)=some acc:=by
 rw[zb8 (r:=acc) (by rw[hf];simp[h])]
theorem z6z {f:List Int×Nat->Option ((List Int×Nat)⊕List Int)} (hf:∀l i,f (l,i)=if(i:Int)<(e.Args.length:Int)then((e.Args[i]?).bind fun x=>(R p x).bind fun r=>need ((l.length+r.length)*8<=140737488355328) (some (.inl ((l++r),(i+1)))))else(some (.inr l)))
  (h:e.Args=[x]) (I:R p x=some xs) (hn:(acc.length+xs.length)*8<=140737488355328):loop f (acc,0)=some (acc++xs):=by
 rw[zid (s':=(acc++xs,1)) (by rw[hf];simp[h,I,zc3 hn]),zb8 (r:=acc++xs) (by rw[hf];simp[h])]
theorem yd3 {f:List Int×Nat->Option ((List Int×Nat)⊕List Int)} (hf:∀l i,f (l,i)=if(i:Int)<(e.Args.length:Int)then((e.Args[i]?).bind fun x=>(R p x).bind fun r=>need ((l.length+r.length)*8<=140737488355328) (some (.inl ((l++r),(i+1)))))else(some (.inr l)))
  (h:e.Args=[x,y]) (I:R p x=some xs) (hy:R p y=some ys) (hn:(acc.length+xs.length)*8<=140737488355328) (hm:((acc++xs).length+ys.length)*8<=140737488355328):loop f (acc,0)=some (acc++xs++ys):=by
 rw[zid (s':=(acc++xs,1)) (by rw[hf];simp[h,I,zc3 hn]),zid (s':=(acc++xs++ys,2)) (by rw[hf,if_pos (by rw[h];simp),h,WaN,Wau,Waa,hy,Waa,zc3 hm]),zb8 (r:=acc++xs++ys) (by rw[hf];simp[h])]
end
def agr (p:xsj) (I U:List (List Int)) (B1 B2:List (A4 Int)) (a:Int):Prop:=
 (a<(p.Vars.length:Int)->I[a.toNat]? =U[a.toNat]?)/\((p.Vars.length:Int)<=a->B1[(a-p.Vars.length).toNat]? =B2[(a-p.Vars.length).toNat]?)
theorem lowE {p:xsj} (P:zkk p):∀(n:Nat) (e:xsk),depE e<=n->GoodE e->zga p e≠0->ndE e->∃xs,zan n p e=some xs/\xs.length<=szE e/\(∀a∈xs,0<=a/\a<(p.Vars.length:Int)+p.Blocks.length)/\
  ∀(I U:List (List Int)) (B1 B2:List (A4 Int)),(∀a∈xs,agr p I U B1 B2 a)->vE p I B1 e=vE p U B2 e
 |0,e,h,_,_,_=>by rw[zdn]at h;omega
 |n+1,e,h,g,h0,nd=>by
  have K:=z6v P g h0
  have hsz:=ztq e
  have gz:=g.sz
  have ab:=P.nv
  have ad:=P.nb
  rw[zdn]at h;rw[ye5]at nd
  have aa:∀x∈e.Args,zga p x≠0->_:=fun x hx k=>lowE P n x (by have:=zfm hx;omega) (g.arg hx) k (z6m nd.2 x hx)
  show∃xs,zbx (zan n) p e=some xs/\_
  unfold zbx
  have L1:=fun l i=>(rfl:zih (zan n) p e (l,i)=_)
  have L2:=fun l i=>(rfl:zig (zan n) p e (l,i)=_)
  have one:szEs e.Args+1<=szE e:=by omega
  cases K with
  |num o a k=>
   rw[if_neg (by omega),if_neg (by omega),if_neg (by omega),if_neg (by omega),yd4 L2 a];refine⟨[],rfl,Waf _,fun a h=>by simp at h,fun I U B1 B2 _=>?_⟩;rw[zss,zss];unfold vO;rw[if_pos o,if_pos o]
  |var v o a i0 hv l k=>
   rw[if_pos o,zoi];refine⟨[varN p e.Name],rfl,by simp;omega,fun a ha=>?_,fun I U B1 B2 H=>?_⟩
   ·rw[WaK.1 ha]
    have:=(Wag.1 hv).1;omega
   ·have hi:=(Wag.1 hv).1
    have:=(H _ (WaK.2 rfl)).1 (by omega)
    rw[zss,zss,a,vEs,vEs];unfold vO;simp only[if_neg (show¬e.Op=1 by omega),if_pos (show e.Op=2\/e.Op=3 from .inl o),this]
  |index v x o a i0 hv l kx k=>
   have hx:x∈e.Args:=by rw[a];simp
   have es:szEs e.Args=szE x:=by rw[a];simp[szEs]
   obtain⟨xs,r1,r2,r3,r4⟩:=aa x hx (by omega);rw[if_neg (by omega),if_neg (by omega),if_neg (by omega),if_pos o,zoi,Waa,z6z L1 a r1 (by simp;omega)];refine⟨varN p e.Name::xs,rfl,by simp;omega,fun a ha=>?_,fun I U B1 B2 H=>?_⟩
   ·rcases Wax.1 ha with rfl|ha
    ·have:=(Wag.1 hv).1;omega
    ·exact r3 a ha
   ·have hi:=(Wag.1 hv).1
    have t1:=(H _ (WbI ..)).1 (by omega)
    have t2:=r4 I U B1 B2 fun a ha=>H a (WbH _ ha)
    rw[zss,zss,a,vEs,vEs,vEs,vEs,t2];unfold vO;simp only[if_neg (show¬e.Op=1 by omega),if_pos (show e.Op=2\/e.Op=3 from .inr o),t1]
  |out b l o a i0 hb hl n0 n1 k=>
   have hi:=(Wag.1 hb).1
   have ew:w64 ((p.Vars.length:Int)+zgy p e.Name)=(p.Vars.length:Int)+zgy p e.Name:=zfr (by omega) (by omega)
   rw[if_neg (by omega),if_pos o,zly,Waa,ew];refine⟨[(p.Vars.length:Int)+zgy p e.Name],rfl,by simp;omega,fun a ha=>?_,fun I U B1 B2 H=>?_⟩
   ·rw[WaK.1 ha];omega
   ·have:=(H _ (WaK.2 rfl)).2 (by omega)
    rw[show(p.Vars.length:Int)+zgy p e.Name-p.Vars.length=zgy p e.Name by omega]at this;rw[zss,zss,a,vEs,vEs];unfold vO;rw[if_neg (by omega),if_neg (by omega),if_pos o,if_neg (by omega),if_neg (by omega),if_pos o,this]
  |site x o a i0 k=>exact absurd o nd.1
  |un x o a k=>
   have hx:x∈e.Args:=by rw[a];simp
   have es:szEs e.Args=szE x:=by rw[a];simp[szEs]
   have kx:zga p x≠0:=by
    have:=(zmp k h0).1
    unfold isK at this;omega
   obtain⟨xs,r1,r2,r3,r4⟩:=aa x hx kx;rw[if_neg (by omega),if_neg (by omega),if_neg (by omega),if_neg (by omega),z6z L2 a r1 (by simp;omega)];refine⟨xs,rfl,by omega,r3,fun I U B1 B2 H=>?_⟩
   have t2:=r4 I U B1 B2 H
   rw[zss,zss,a,vEs,vEs,vEs,vEs,t2];unfold vO;simp only[if_neg (show¬e.Op=1 by omega),if_neg (show¬(e.Op=2\/e.Op=3) by omega),if_neg (show¬e.Op=4 by omega),if_neg (show¬e.Op=21 by omega),if_pos o]
  |bin x y o a kk k=>
   have hx:x∈e.Args:=by rw[a];simp
   have hy:y∈e.Args:=by rw[a];simp
   have es:szEs e.Args=szE x+szE y:=by rw[a];simp[szEs]
   have kx:zga p x≠0:=by
    have:=(zmp k h0).1
    unfold isK at this;omega
   obtain⟨xs,r1,r2,r3,r4⟩:=aa x hx kx;obtain⟨ys,q1,q2,q3,q4⟩:=aa y hy (by omega);rw[if_neg (by omega),if_neg (by omega),if_neg (by omega),if_neg (by omega),yd3 L2 a r1 q1 (by simp;omega) (by simp;omega)];refine⟨xs++ys,rfl,by simp;omega,fun a ha=>?_,fun I U B1 B2 H=>?_⟩
   ·rcases WaG.1 ha with ha|ha
    ·exact r3 a ha
    ·exact q3 a ha
   ·have t1:=r4 I U B1 B2 fun a ha=>H a (Wcb _ ha)
    have t2:=q4 I U B1 B2 fun a ha=>H a (List.mem_append_right _ ha)
    rw[zss,zss,a,vEs,vEs,vEs,vEs,vEs,vEs,t1,t2];unfold vO;simp only[if_neg (show¬e.Op=1 by omega),if_neg (show¬(e.Op=2\/e.Op=3) by omega),if_neg (show¬e.Op=4 by omega),if_neg (show¬e.Op=21 by omega),if_neg (show¬(e.Op=5\/e.Op=6) by omega)]
theorem yrr {l:xsn} (h:Lat l) {xs:List Int} (hx:∀x∈xs,inN l x):∃r,zeb l xs=some r/\∀x∈xs,leqN l x r=true:=by
 obtain⟨c,hb,hc,_⟩:=h.bottom_spec;unfold zeb;rw[zzl h.big,Waa]
 have key:Tot (loop (zbu l xs) (zlg l,0)) fun r=>∃v,r=.inr v/\∀x∈xs,leqN l x v=true:=by
  refine Tot.loop (fun s=>s.2<=xs.length/\inN l s.1/\∀x∈xs.take s.2,leqN l x s.1=true) (fun s=>xs.length-s.2) ⟨Waf _,by rw[hb];exact⟨by omega,by omega⟩,by simp⟩ ?_;rintro⟨a,i⟩ ⟨hi,ha,hI⟩;simp only at hi ha hI;unfold zbu
  by_cases hl:i<xs.length
  ·have U:=hx _ (Wap hl)
   obtain⟨j1,j2,j3,_⟩:=h.jn ha U;simp only;rw[if_pos (by omega),if_neg (by have:=ha.1;omega),Wac hl,Waa,z4r,Waa,if_pos (by simpa using U),zzk h.big,Waa];refine Tot.mk ⟨⟨hl,j1,fun x I=>?_⟩,by simp only;omega⟩;rw[zk4 hl]at I
   rcases WaG.1 I with I|I
   ·exact zol (hI x I) j2
   ·rw[WaK.1 I];exact j3
  ·simp only
   rw[if_neg (by omega)];exact Tot.mk ⟨a,rfl,fun x I=>hI x (by rw[WaU (by omega)];exact I)⟩
 obtain⟨r,e1,v,rfl,e2⟩:=key;rw[e1];exact⟨v,rfl,e2⟩
theorem zy1 (p:xsj):(zim p).length=p.Vars.length+p.Blocks.length:=by simp[zim]
theorem yjn {p:xsj} (P:zkk p):∃s,zb3 p (zim p)=some (zim p++s):=by
 have p1:=P.nv;have p2:=P.nb;have p3:=P.ns
 unfold zb3
 have I:=zu4 (f:=zdt p (zim p)) (fun i=>((zim p).take i,i)) (zim p).length (zim p) (fun i hi=>by
  have hl:=zy1 p
  simp only[zdt]
  rw[zfr (by omega) (by omega),if_pos (by omega),if_pos (by omega),Wac hi,Waa,zc3 (by rw[Waw];omega),zk4 hi]) (by
  have hl:=zy1 p
  simp only[zdt]
  rw[zfr (by omega) (by omega),if_neg (by omega),WaU (Wae _)])
 rw[List.take_zero]at I;rw[I,Waa]
 have key:Tot (loop (ze9 p) (zim p,0)) fun r=>∃s,r=zim p++s:=by
  refine Tot.loop (fun s=>s.2<=p.Sites.length/\s.1.length=(zim p).length+2*s.2/\∃t,s.1=zim p++t) (fun s=>p.Sites.length-s.2) ⟨Waf _,by simp,[],by simp⟩ ?_;rintro⟨l,i⟩ ⟨hi,hlen,t,ht⟩
  have hl:=zy1 p
  simp only at hi hlen ht;unfold ze9;simp only
  by_cases U:i<p.Sites.length
  ·rw[if_pos (by omega),Wac U,Waa,zc3 (by omega)]
   exact Tot.mk ⟨⟨U,by simp only[Wai,Waj,Wam];omega,t++[p.Sites[i].From,p.Sites[i].To],by simp only;rw[ht,Wbe]⟩,by simp only;omega⟩
  ·rw[if_neg (by omega)]
   exact Tot.mk ⟨t,ht⟩
 obtain⟨r,e2,s,rfl⟩:=key;rw[e2];exact⟨s,rfl⟩
def z48 (p:xsj) (a:Int):Int:=(zim p).getD a.toNat 0
theorem yhr {p:xsj} (P:zkk p) (L:Lat p.Lattice) (hl:∀x∈zim p,inN p.Lattice x) {e:xsk} {xs:List Int} (U:zcg p e=some xs) (hn:xs.length<=1000000) (hb:∀a∈xs,0<=a/\a<(p.Vars.length:Int)+p.Blocks.length):
  ∃r,zbc p (zim p) e=some r/\∀a∈xs,leqN p.Lattice (z48 p a) r=true:=by
 obtain⟨s,e1⟩:=yjn P;unfold zbc;rw[e1,Waa,U,Waa,zwr _ xs 0 [] rfl (Waf _) (by omega) rfl,Waa,Wby]
 have len:=zy1 p
 rw[if_pos (fun a ha=>by have:=hb a ha;exact⟨by omega,by rw[Wai];omega⟩)]
 have pk:∀a∈xs,zit (zim p++s) a=z48 p a:=fun a ha=>by
  have:=hb a ha
  unfold zit z48;rw[List.getD_eq_getElem?_getD,List.getD_eq_getElem?_getD,Wa0 (by omega)]
 have hm:xs.map (zit (zim p++s))=xs.map (z48 p):=Wbq pk
 simp only[List.nil_append];rw[hm]
 obtain⟨r,r1,r2⟩:=yrr L (xs:=xs.map (z48 p)) (fun x I=>by
  obtain⟨a,ha,rfl⟩:=War.1 I
  have:=hb a ha
  unfold z48
  have hi:a.toNat<(zim p).length:=by omega
  rw[List.getD_eq_getElem?_getD,Wac hi]
  exact hl _ (Wap hi))
 rw[r1];exact⟨r,rfl,fun a ha=>r2 _ (War.2 ⟨a,ha,rfl⟩)⟩
end Go.Lz

end
section
namespace Go.Lz
theorem z4q {p:xsj} (P:zkk p):ze7 p=some (zim p):=by
 have h1:=P.nv;have h2:=P.nb
 unfold ze7
 have e2:=zu4 (f:=zck p) (fun i=>((p.Vars.take i).map (·.Label),i)) p.Vars.length (p.Vars.map (·.Label)) (fun i hi=>by
  have I:p.Vars[i]? =some p.Vars[i]:=Wac hi
  simp only[zck]
  rw[if_pos (by omega),I,Waa,zc3 (by rw[Waq,Waw];omega),zk4 hi,WbW];rfl) (by
  simp only[zck]
  rw[if_neg (by omega),WaU (Wae _)])
 have e3:=zu4 (f:=zcj p) (fun i=>(p.Vars.map (·.Label)++(p.Blocks.take i).map (·.Label),i)) p.Blocks.length (zim p) (fun i hi=>by
  have I:p.Blocks[i]? =some p.Blocks[i]:=Wac hi
  simp only[zcj]
  rw[if_pos (by omega),I,Waa,zc3 (by rw[Wai,Waq,Waq,Waw];omega),zk4 hi,WbW,Wbe];rfl) (by
  simp only[zcj]
  rw[if_neg (by omega),WaU (Wae _)];rfl)
 have U:loop (zcj p) (p.Vars.map (·.Label),0)=some (zim p):=by simpa using e3
 have aa:loop (zck p) ([],0)=some (p.Vars.map (·.Label)):=by simpa using e2
 rw[aa,Waa,U,Waa]
theorem ydj {p:xsj} (hn:p.Lattice.Names.length<=1000000) (hv:p.Vars.length<=1000) {l:A2 xs1} {at_:Int} (h0:l.a0.Memory.Cells.length=p.Vars.length) (h1:l.a1.Memory.Cells.length=p.Vars.length):
  ∃c,loop (zdl p l at_) (l.a1.Memory.Cells,l.a1.Memory.Blocks,0)=some (c,l.a1.Memory.Blocks)/\c.length=p.Vars.length/\∀(j:Nat) v,p.Vars[j]? =some v->c[j]? =if leqN p.Lattice v.Label at_=true then l.a0.Memory.Cells[j]? else l.a1.Memory.Cells[j]? :=by
 have key:Tot (loop (zdl p l at_) (l.a1.Memory.Cells,l.a1.Memory.Blocks,0)) fun r=>r.2=l.a1.Memory.Blocks/\r.1.length=p.Vars.length/\∀(j:Nat) v,p.Vars[j]? =some v->r.1[j]? =if leqN p.Lattice v.Label at_=true then l.a0.Memory.Cells[j]? else l.a1.Memory.Cells[j]? :=by
  refine Tot.loop (fun s=>s.2.2<=p.Vars.length/\s.2.1=l.a1.Memory.Blocks/\s.1.length=p.Vars.length/\∀(j:Nat) v,p.Vars[j]? =some v->s.1[j]? =if j<s.2.2/\leqN p.Lattice v.Label at_=true then l.a0.Memory.Cells[j]? else l.a1.Memory.Cells[j]?) (fun s=>p.Vars.length-s.2.2) ⟨Waf _,rfl,h1,fun j v _=>by simp⟩ ?_
  rintro⟨c,b,i⟩ ⟨hi,hb,hc,I⟩;simp only at hi hb hc I;unfold zdl;simp only
  by_cases hl:i<p.Vars.length
  ·have U:i<l.a0.Memory.Cells.length:=by omega
   rw[if_pos (by omega),Wac hl,Waa,zsn hn,Waa];refine Tot.ite (fun hq=>?_) fun hq=>?_
   ·have aa:¬c.isEmpty=true:=by
     cases c with
     |nil=>simp only[Wam]at hc;omega
     |cons _ _=>simp
    rw[Wac U,Waa];unfold zgc;simp only;rw[if_neg aa,zc3 (by omega),znq,Wac (by omega),Waa,Waa];refine Tot.mk ⟨⟨hl,hb,by simp only[Wa8];exact hc,fun j v hv=>?_⟩,by simp only;omega⟩;simp only[Int.toNat_natCast]
    by_cases e:i=j
    ·subst e
     rw[WaW (by omega),if_pos ⟨by omega,by rw[Wac hl]at hv;cases hv;exact hq⟩,Wac U]
    ·rw[WaV e,I j v hv]
     have:(j<i+1)↔j<i:=by omega
     simp only[this]
   ·refine Tot.mk ⟨⟨hl,hb,hc,fun j v hv=>?_⟩,by simp only;omega⟩
    rw[I j v hv]
    by_cases e:i=j
    ·subst e
     rw[Wac hl]at hv;cases hv;rw[if_neg (fun h=>hq h.2),if_neg (fun h=>hq h.2)]
    ·have:(j<i+1)↔j<i:=by omega
     simp only[this]
  ·rw[if_neg (by omega)]
   refine Tot.mk ⟨hb,hc,fun j v hv=>?_⟩
   have:j<i:=by have:=(Wag.1 hv).1;omega
   rw[I j v hv];simp only[this,true_and]
 obtain⟨⟨c,b⟩,e,hb,hc,I⟩:=key;exact⟨c,by rw[e,show b=l.a1.Memory.Blocks from hb],hc,I⟩
theorem z99 {p:xsj} (hn:p.Lattice.Names.length<=1000000) (hv:p.Blocks.length<=1000) {l:A2 xs1} {at_:Int} (h0:l.a0.Memory.Blocks.length=p.Blocks.length) {C:List (List Int)} {B:List (A4 Int)} (h1:B.length=p.Blocks.length):
  ∃c,loop (zdk p l at_) (C,B,0)=some (C,c)/\c.length=p.Blocks.length/\∀(j:Nat) v,p.Blocks[j]? =some v->c[j]? =if leqN p.Lattice v.Label at_=true then l.a0.Memory.Blocks[j]? else B[j]? :=by
 have key:Tot (loop (zdk p l at_) (C,B,0)) fun r=>r.1=C/\r.2.length=p.Blocks.length/\∀(j:Nat) v,p.Blocks[j]? =some v->r.2[j]? =if leqN p.Lattice v.Label at_=true then l.a0.Memory.Blocks[j]? else B[j]? :=by
  refine Tot.loop (fun s=>s.2.2<=p.Blocks.length/\s.1=C/\s.2.1.length=p.Blocks.length/\∀(j:Nat) v,p.Blocks[j]? =some v->s.2.1[j]? =if j<s.2.2/\leqN p.Lattice v.Label at_=true then l.a0.Memory.Blocks[j]? else B[j]?) (fun s=>p.Blocks.length-s.2.2) ⟨Waf _,rfl,h1,fun j v _=>by simp⟩ ?_
  rintro⟨b,c,i⟩ ⟨hi,hb,hc,I⟩;simp only at hi hb hc I;unfold zdk;simp only
  by_cases hl:i<p.Blocks.length
  ·have U:i<l.a0.Memory.Blocks.length:=by omega
   rw[if_pos (by omega),Wac hl,Waa,zsn hn,Waa];refine Tot.ite (fun hq=>?_) fun hq=>?_
   ·have aa:¬c.isEmpty=true:=by
     cases c with
     |nil=>simp only[Wam]at hc;omega
     |cons _ _=>simp
    rw[Wac U,Waa];unfold zgd;simp only;rw[if_neg aa,zc3 (by omega),znq,Wac (by omega),Waa,Waa];refine Tot.mk ⟨⟨hl,hb,by simp only[Wa8];exact hc,fun j v hv=>?_⟩,by simp only;omega⟩;simp only[Int.toNat_natCast]
    by_cases e:i=j
    ·subst e
     rw[WaW (by omega),if_pos ⟨by omega,by rw[Wac hl]at hv;cases hv;exact hq⟩,Wac U]
    ·rw[WaV e,I j v hv]
     have:(j<i+1)↔j<i:=by omega
     simp only[this]
   ·refine Tot.mk ⟨⟨hl,hb,hc,fun j v hv=>?_⟩,by simp only;omega⟩
    rw[I j v hv]
    by_cases e:i=j
    ·subst e
     rw[Wac hl]at hv;cases hv;rw[if_neg (fun h=>hq h.2),if_neg (fun h=>hq h.2)]
    ·have:(j<i+1)↔j<i:=by omega
     simp only[this]
  ·rw[if_neg (by omega)]
   refine Tot.mk ⟨hb,hc,fun j v hv=>?_⟩
   have:j<i:=by have:=(Wag.1 hv).1;omega
   rw[I j v hv];simp only[this,true_and]
 obtain⟨⟨b,c⟩,e,hb,hc,I⟩:=key;exact⟨c,by rw[e,show b=C from hb],hc,I⟩
theorem ydi (p:xsj) (l:A2 xs1) (e:xsk):zh9 p l e=some true:=by
 unfold zh9;obtain⟨n,h1,h2⟩:=yfh p l.a0;rw[h1,Waa]
 rcases h2 with rfl|⟨F,rfl⟩
 ·rw[if_pos rfl,z0b];rfl
 rw[if_neg (by decide)];obtain⟨n,h3,h4⟩:=yfh p l.a1;rw[h3,Waa]
 rcases h4 with rfl|⟨F1,rfl⟩
 ·rw[if_pos rfl,z0b];rfl
 rw[if_neg (by decide)]
 have P:=F.G.P
 have pn:=P.nl;have pv:=P.nv;have pb:=P.nb
 obtain⟨b,h5,h6⟩:=yge (p:=p) (by omega) e;rw[h5,Waa]
 cases b with
 |false=>rw[if_neg (by decide),z0b];rfl
 |true=>
 obtain⟨g,k1⟩:=h6 rfl
 have k0:zga p e≠0:=by omega
 have gd:=g.dep;have gz:=g.sz
 rw[if_pos rfl];obtain⟨d,d1,d2⟩:=z4b 1000000 e (by omega)
 have ad:zj8 e=some d:=d1
 rw[ad,Waa]
 cases d with
 |true=>rw[if_pos rfl,z0b];rfl
 |false=>
 obtain⟨xs,x1,x2,x3,x4⟩:=lowE P 1000000 e (by omega) g k0 (d2 rfl)
 have hl:∀x∈zim p,inN p.Lattice x:=fun x I=>by
  rcases WaG.1 I with I|I
  ·obtain⟨v,hv,rfl⟩:=War.1 I
   exact F.lab v hv
  ·obtain⟨v,hv,rfl⟩:=War.1 I
   exact(P.blocks v hv).label
 obtain⟨at_,a1,a2⟩:=yhr P F.L hl (e:=e) x1 (by omega) x3;rw[if_neg (by decide),z4q P,Waa,a1,Waa];obtain⟨c,c1,c2,c3⟩:=ydj (p:=p) (l:=l) (at_:=at_) (by omega) (by omega) F.nc F1.nc;obtain⟨bl,b1,b2,b3⟩:=z99 (p:=p) (l:=l) (at_:=at_) (C:=c) (B:=l.a1.Memory.Blocks) (by omega) (by omega) F.nb F1.nb;rw[c1,Waa];simp only;rw[b1,Waa];simp only
 have R1:RunP p ⟨⟨c,bl⟩,l.a1.Left,l.a1.Latches,l.a1.Events,l.a1.Now⟩:=by
  have r0:=F.run;have r1:=F1.run
  refine⟨c2,b2,r1.nl,r1.nt,r1.ne,fun x I=>?_⟩;obtain⟨j,hj,rfl⟩:=Wbd I;simp only at hj
  have hv:j<p.Vars.length:=by omega
  have U:=c3 j _ (Wac hv)
  rw[Wac hj]at U;split at U
  ·exact r0.cl _ (Wad U.symm)
  ·exact r1.cl _ (Wad U.symm)
 rw[z67 P F.run g k0,Waa,z67 P R1 g k0,Waa]
 have same:(ansN p l.a0 e 0).1=(ansN p ⟨⟨c,bl⟩,l.a1.Left,l.a1.Latches,l.a1.Events,l.a1.Now⟩ e 0).1:=by
  unfold ansN;simp only;rw[x4 l.a0.Memory.Cells c l.a0.Memory.Blocks bl fun a ha=>?_]
  have hr:=x3 a ha
  have up:=a2 a ha
  unfold z48 zim at up;rw[List.getD_eq_getElem?_getD]at up;refine⟨fun hv=>?_,fun hb=>?_⟩
  ·have aa:a.toNat<p.Vars.length:=by omega
   rw[Wa0 (by simpa using aa),Wao,Wac aa]at up;simp only[Wbc,WaH]at up;rw[c3 a.toNat _ (Wac aa),if_pos up]
  ·have ab:(a-p.Vars.length).toNat<p.Blocks.length:=by omega
   have U:a.toNat-p.Vars.length=(a-p.Vars.length).toNat:=by omega
   rw[Wbr (by simp;omega),Waq,Wao,U,Wac ab]at up;simp only[Wbc,WaH]at up;rw[b3 _ _ (Wac ab),if_pos up]
 rw[if_pos same,z0b];rfl
end Go.Lz

end
