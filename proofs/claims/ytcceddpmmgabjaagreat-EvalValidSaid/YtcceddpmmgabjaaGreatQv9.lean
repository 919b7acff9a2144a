/- A term's value is one of its kind; nothing of the memory is changed, nothing is charged. Over the model of the program as it was translated; no condition. The parts of a proof: P15c, P14, P14b, P14c, LzT, Lw9, V15s, P15d, VF, LzC, LzX, VC, VA, V15L, V15e, V15v, P15f, P15e, ST, TL5. -/
import Derived.Test.YtcceddpmmgabjaaGreatQv8
import Derived.Test.YtcceddpmmgabjaaGreatRows
set_option linter.unusedVariables false
set_option linter.unusedSimpArgs false
section
namespace Go.Lz
section
variable {R:List (List Int)->List (A4 Int)->List Int->List Int->List xsa->Int->xrw->List Int->xrx->Int->Option (Int×List Int×List xsa)}
variable {C:List (List Int)} {B:List (A4 Int)} {left la:List Int} {ev:List xsa} {now:Int} {p:xrw} {labels:List Int} {e x y:xrx} {pc:Int}
theorem zwy (h:e.Args=[]):loop (zbt R C B left now p labels e pc) (la,ev,0,0,0)=some (la,ev,0,0):=by
 rw[zcj (r:=(la,ev,0,0)) (by simp[zbt,h])]
theorem zwx (h:e.Args=[x]) {v:Int} {I:List Int} {U:List xsa} (hx:R C B left la ev now p labels x pc=some (v,I,U)):
  loop (zbt R C B left now p labels e pc) (la,ev,0,0,0)=some (I,U,v,0):=by
 rw[zjv (s':=(I,U,v,0,1)) (by simp[zbt,h,hx]),zcj (r:=(I,U,v,0)) (by simp[zbt,h])]
theorem z6x (h:e.Args=[x,y]) {v w:Int} {l1 I:List Int} {e1 U:List xsa} (hx:R C B left la ev now p labels x pc=some (v,l1,e1)) (hy:R C B left l1 e1 now p labels y pc=some (w,I,U)):
  loop (zbt R C B left now p labels e pc) (la,ev,0,0,0)=some (I,U,v,w):=by
 rw[zjv (s':=(l1,e1,v,0,1)) (by simp[zbt,h,hx]),zjv (s':=(I,U,v,w,2)) (by simp[zbt,h,hy]),zcj (r:=(I,U,v,w)) (by simp[zbt,h])]
end
theorem zvh {p:xrw} {labels:List Int} {pc:Int} {e:xrx} {v:Int×Int} {s:RS} (h:¬e.Op=21):rO p labels pc e v s=(if v.2=0 then s.1 else zzg s.1 (zm3 p.Lattice pc (labN p labels e)) v.2,s.2):=by
 unfold rO;rw[if_neg h]
 by_cases z:v.2=0
 ·rw[if_pos z,if_pos z]
 ·rw[if_neg z,if_neg z]
theorem yec {p:xrw} (P:zkv p) {C:List (List Int)} {B:List (A4 Int)} (hC:C.length=p.Vars.length) (hB:B.length=p.Blocks.length) {left labels:List Int} {now pc:Int}:
  ∀(n:Nat) (e:xrx),depE e<=n->GoodE e->zfh p e≠0->∀s:RS,s.2.length+szE e<=1000000000->
   zgn n C B left s.1 s.2 now p labels e pc=some ((vE p C B e).1,(rE p C B labels pc e s).1,(rE p C B labels pc e s).2)/\(rE p C B labels pc e s).2.length<=s.2.length+szE e
 |0,e,h,_,_,_,_=>by rw[zdv]at h;omega
 |n+1,e,h,g,h0,s,hs=>by
  have K:=z6d P g h0
  have hsz:=zu1 e
  rw[zdv]at h
  have U:∀x∈e.Args,zfh p x≠0->∀s:RS,s.2.length+szE x<=1000000000->zgn n C B left s.1 s.2 now p labels x pc=some ((vE p C B x).1,(rE p C B labels pc x s).1,(rE p C B labels pc x s).2)/\(rE p C B labels pc x s).2.length<=s.2.length+szE x:=
   fun x I k s hs=>yec P hC hB n x (by have:=zf2 I;omega) (g.arg I) k s hs
  show zif (zgn n) C B left s.1 s.2 now p labels e pc=_/\_
  rw[ypd];unfold zif
  have cell:∀{v:xr7} {x:Int},0<=varN p e.Name->p.Vars[(varN p e.Name).toNat]? =some v->(e.Op=2\/e.Op=3)->(vEs p C B e.Args).getD 0 0=x->∃c,idx C (varN p e.Name)=some c/\vE p C B e=getN v.Type_ c x:=fun{v x} i0 hv o I=>by
   have hi:(varN p e.Name).toNat<C.length:=by
    have:=(List.getElem?_eq_some_iff.1 hv).1;omega
   refine⟨_,zvr i0 (List.getElem?_eq_getElem hi),?_⟩;rw[zx4];unfold vO;rw[if_neg (by omega),if_pos o,hv,List.getElem?_eq_getElem hi,I]
  cases K with
  |num o a k=>
   rw[zwy a,Option.bind_some];simp only;rw[if_pos o,zvh (by omega)]
   have e1:vE p C B e=(e.N,0):=by rw[zx4];unfold vO;rw[if_pos o]
   rw[e1,a,rEs];exact⟨rfl,by simp⟩
  |var v o a i0 hv l k=>
   rw[zwy a,Option.bind_some];simp only;rw[if_neg (by omega),if_pos o,zvh (by omega)];obtain⟨c,h1,h2⟩:=cell (x:=0) i0 hv (.inl o) (by rw[a,vEs];rfl);rw[zuk,Option.bind_some,zvr i0 hv,Option.bind_some,h1,Option.bind_some,z6s,Option.bind_some,z1t P g,Option.bind_some,<-h2,a,rEs];exact⟨rfl,by simp⟩
  |index v x o a i0 hv l kx k=>
   have I:x∈e.Args:=by rw[a];simp
   have es:szEs e.Args=szE x:=by rw[a];simp[szEs]
   obtain⟨r1,r2⟩:=U x I (by omega) s (by omega);rw[zwx a r1,Option.bind_some];simp only;rw[if_neg (by omega),if_neg (by omega),if_pos o,zvh (by omega)];obtain⟨c,h1,h2⟩:=cell (x:=(vE p C B x).1) i0 hv (.inr o) (by rw[a,vEs];rfl);rw[zuk,Option.bind_some,zvr i0 hv,Option.bind_some,h1,Option.bind_some,z6s,Option.bind_some,z1t P g,Option.bind_some,<-h2,a,rEs,rEs];exact⟨rfl,by simp only;omega⟩
  |out b l o a i0 hb hl n0 n1 k=>
   rw[zwy a,Option.bind_some];simp only;rw[if_neg (by omega),if_neg (by omega),if_neg (by omega),if_pos o,zvh (by omega)]
   have hi:(zh6 p e.Name).toNat<B.length:=by
    have:=(List.getElem?_eq_some_iff.1 hb).1;omega
   obtain⟨v,w1,_⟩:=ykn B[(zh6 p e.Name).toNat] hl n0 n1
   have e1:vE p C B e=(v,0):=by
    rw[zx4];unfold vO;rw[if_neg (by omega),if_neg (by omega),if_pos o,hb,List.getElem?_eq_getElem hi];simp only[w1];rfl
   rw[zw5,Option.bind_some,zvr i0 hb,Option.bind_some,zvr i0 (List.getElem?_eq_getElem hi),Option.bind_some,w1,Option.bind_some,e1,a,rEs];exact⟨rfl,by simp⟩
  |site x o a i0 k=>
   have I:x∈e.Args:=by rw[a];simp
   have es:szEs e.Args=szE x:=by rw[a];simp[szEs]
   obtain⟨r1,r2⟩:=U x I (by omega) s (by omega);rw[zwx a r1,Option.bind_some];simp only;rw[if_neg (by omega),if_neg (by omega),if_neg (by omega),if_neg (by omega),if_pos o]
   have e1:vE p C B e=((vE p C B x).1,0):=by
    rw[zx4];unfold vO;rw[if_neg (by omega),if_neg (by omega),if_neg (by omega),if_pos o,a,vEs];rfl
   have e2:rO p labels pc e (vE p C B e) (rEs p C B labels pc e.Args s)=((rE p C B labels pc x s).1,(rE p C B labels pc x s).2++[⟨zn2 p e.Name,(vE p C B x).1⟩]):=by
    unfold rO;rw[if_pos o,e1,a,rEs,rEs]
   rw[zy7,Option.bind_some,zf3 (by omega),e2,e1];refine⟨rfl,?_⟩;simp only[List.length_append,List.length_cons,List.length_nil];omega
  |un x o a k=>
   have I:x∈e.Args:=by rw[a];simp
   have es:szEs e.Args=szE x:=by rw[a];simp[szEs]
   have g1:=g.arg I
   have kx:zfh p x≠0:=by
    have:=(zqr k h0).1
    unfold isK at this;omega
   obtain⟨r1,r2⟩:=U x I kx s (by omega);rw[zwx a r1,Option.bind_some];simp only;obtain⟨v,w1,_⟩:=unOk (a:=(vE p C B x).1) o k h0
   have e1:vE p C B e=(v,0):=by
    rw[zx4];unfold vO;rw[if_neg (by omega),if_neg (by omega),if_neg (by omega),if_neg (by omega),if_pos o,a,vEs,kArg];simp only[List.getD_cons_zero,w1];rfl
   have ht:=zz7 P g1.ok (by have:=g1.dep;omega)
   have fin:((e.Args[0]?).bind fun aa=>(zjx p aa).bind fun ab=>(zlf e.Op ab.1 (vE p C B x).1).bind fun ad=>some (ad,(rE p C B labels pc x s).1,(rE p C B labels pc x s).2))=some ((v,0).1,(rO p labels pc e (v,0) (rEs p C B labels pc e.Args s)).1,(rO p labels pc e (v,0) (rEs p C B labels pc e.Args s)).2):=by
    rw[a,List.getElem?_cons_zero,Option.bind_some,ht,Option.bind_some,w1,Option.bind_some,zvh (by omega),rEs,rEs];rfl
   have len:(rO p labels pc e (v,0) (rEs p C B labels pc e.Args s)).2.length<=s.2.length+szE e:=by
    rw[zvh (by omega),a,rEs,rEs];simp only;omega
   rw[e1,if_neg (by omega),if_neg (by omega),if_neg (by omega),if_neg (by omega),if_neg (by omega)];refine⟨?_,len⟩
   rcases o with o|o
   ·rw[if_pos o];exact fin
   ·rw[if_neg (by omega),if_pos o];exact fin
  |bin x y o a kk k=>
   have I:x∈e.Args:=by rw[a];simp
   have hy:y∈e.Args:=by rw[a];simp
   have es:szEs e.Args=szE x+szE y:=by rw[a];simp[szEs]
   have g1:=g.arg I
   have kx:zfh p x≠0:=by
    have:=(zqr k h0).1
    unfold isK at this;omega
   obtain⟨r1,r2⟩:=U x I kx s (by omega);obtain⟨q1,q2⟩:=U y hy (by omega) (rE p C B labels pc x s) (by omega);rw[z6x a r1 q1,Option.bind_some];simp only;obtain⟨v,c,w1,_⟩:=ym7 (a:=(vE p C B x).1) (b:=(vE p C B y).1) o k h0
   have e1:vE p C B e=(v,c):=by
    rw[zx4];unfold vO;rw[if_neg (by omega),if_neg (by omega),if_neg (by omega),if_neg (by omega),if_neg (by omega),a,vEs,vEs,vEs,kArg];simp only[List.getD_cons_zero,List.getD_cons_succ,w1];rfl
   have ht:=zz7 P g1.ok (by have:=g1.dep;omega)
   rw[e1,zvh (by omega),if_neg (by omega),if_neg (by omega),if_neg (by omega),if_neg (by omega),if_neg (by omega),if_neg (by omega),if_neg (by omega)];rw[a,List.getElem?_cons_zero,Option.bind_some,ht,Option.bind_some,w1,Option.bind_some,z1t P g,Option.bind_some,rEs,rEs,rEs];exact⟨rfl,by simp only;omega⟩
end Go.Lz

end
section
namespace Go.Lz
theorem yf0 (l:List Int):Tot (zhz l) fun _=>True:=by
 unfold zhz;refine Tot.bind (Tot.loop (fun s:Int×Nat=>s.2<=l.length) (R:=fun _=>True) (fun s=>l.length-s.2) (Nat.zero_le _) fun⟨n,i⟩ hi=>?_) fun r _=>Tot.mk trivial;simp only at hi;unfold zj2;exact Tot.ite (fun I=>(Tot.get (by omega)).bind fun x U=>Tot.mk ⟨by simp only;omega,by simp only;omega⟩) fun _=>Tot.mk trivial
theorem zti:∀(n:Nat) (l:List xry),zf1 l+1<=n->Tot (zeg n l) fun _=>True
 |0,l,h=>by omega
 |n+1,l,h=>by
  show Tot (zeh (zeg n) l) _
  unfold zeh;refine Tot.bind (Tot.loop (fun s:Int×Nat=>s.2<=l.length) (R:=fun _=>True) (fun s=>l.length-s.2) (Nat.zero_le _) fun⟨m,i⟩ hi=>?_) fun r _=>Tot.mk trivial;simp only at hi;unfold zim;refine Tot.ite (fun h'=>(Tot.get (by omega)).bind fun x I=>?_) fun _=>Tot.mk trivial
  have U:=zm8 I.1
  rw[zt7]at U;exact Tot.ite (fun _=>(zti n x.Body (by omega)).bind fun _ _=>(zti n x.Else (by omega)).bind fun _ _=>Tot.mk ⟨by simp only;omega,by simp only;omega⟩) fun _=>(zti n x.Body (by omega)).bind fun _ _=>(zti n x.Else (by omega)).bind fun _ _=>Tot.mk ⟨by simp only;omega,by simp only;omega⟩
theorem yd1 (p:xrw) (I:∀t∈p.Tasks,zf1 t.Body<=1000):Tot (zgq p) fun b=>b=true->zok p:=by
 unfold zgq
 refine(ybe p I).bind fun b hb=>Tot.ite (fun h=>?_) fun _=>Tot.mk fun h=>by cases h
 have G:zok p:=⟨(hb h).1,(hb h).2,I⟩
 refine Tot.ite (fun _=>Tot.mk fun _=>G) fun _=>?_
 refine Tot.bind (Tot.loop (fun s:Int×Nat=>s.2<=p.Tasks.length) (R:=fun _=>True) (fun s=>p.Tasks.length-s.2) (Nat.zero_le _) fun⟨m,i⟩ hi=>?_) fun r _=>by cases r<;>exact Tot.mk fun _=>G
 simp only at hi;unfold zjd;exact Tot.ite (fun h'=>(Tot.get (by omega)).bind fun x U=>(zti 1000000 x.Body (by have:=I x U.1;omega)).bind fun _ _=>(yf0 _).bind fun _ _=>Tot.ite (fun _=>Tot.mk trivial) fun _=>Tot.mk ⟨by simp only;omega,by simp only;omega⟩) fun _=>Tot.mk trivial
end Go.Lz

end
section
namespace Go.Lz
theorem zll {α:Type} {a b:List α} (hl:a.length=b.length) {f:Nat->Option (Nat⊕(Bool⊕Unit))} (step:∀i (h1:i<a.length) (h2:i<b.length),Tot (f i) fun r=>(r=.inl (i+1)/\a[i]=b[i])\/r=.inr (.inl false)) (last:f a.length=some (.inr (.inr ()))):
  Tot (loop f 0) fun r=>(r=.inr ()/\a=b)\/r=.inl false:=by
 refine Tot.loop (fun i=>i<=a.length/\∀j (h1:j<a.length) (h2:j<b.length),j<i->a[j]=b[j]) (fun i=>a.length-i) ⟨Nat.zero_le _,fun j _ _ U=>by omega⟩ fun i ⟨hi,hI⟩=>?_
 by_cases I:i<a.length
 ·refine(step i I (by omega)).imp fun r hr=>?_
  rcases hr with⟨rfl,he⟩|rfl
  ·refine⟨⟨I,fun j h1 h2 U=>?_⟩,by simp only;omega⟩
   by_cases e:j=i
   ·subst e;exact he
   ·exact hI j h1 h2 (by omega)
  ·exact .inr rfl
 ·have e:i=a.length:=by omega
  subst e;refine⟨_,last,.inl ⟨rfl,?_⟩⟩;exact List.ext_getElem hl fun j h1 h2=>hI j h1 h2 h1
theorem no_t {Q:Prop}:Tot (some false) fun b=>b=true->Q:=Tot.mk fun h=>by cases h
theorem zvt {g:Prop} {i:Nat}:Tot (some (.inr (.inl false)):Option (Nat⊕(Bool⊕Unit))) fun r=>(r=.inl (i+1)/\g)\/r=.inr (.inl false):=Tot.mk (.inr rfl)
theorem zr5 {Q:Prop} {a:Prop} {x:Option (Bool⊕Unit)} (h:Tot x fun r=>(r=.inr ()/\a)\/r=.inl false) {k:Bool⊕Unit->Option Bool} (I:a->Tot (k (.inr ())) fun b=>b=true->Q) (k0:k (.inl false)=some false):Tot (x.bind k) fun b=>b=true->Q:=by
 refine h.bind fun r hr=>?_
 rcases hr with⟨rfl,ha⟩|rfl
 ·exact I ha
 ·rw[k0];exact no_t
theorem yeg:∀(n:Nat) (a b:xrx),depE a<=n->Tot (zdn n a b) fun r=>r=true->a=b
 |0,a,b,h=>by rw[zdv]at h;omega
 |n+1,a,b,h=>by
  rw[zdv]at h
  show Tot (zcp (zdn n) a b) _
  unfold zcp;refine Tot.ite (fun h1=>Tot.ite (fun h2=>Tot.ite (fun h3=>Tot.ite (fun h4=>Tot.ite (fun h5=>?_) fun _=>no_t) fun _=>no_t) fun _=>no_t) fun _=>no_t) fun _=>no_t;refine zr5 (zll (a:=a.Args) (b:=b.Args) (by omega) (fun i q1 q2=>?_) (by simp[zep])) (fun e=>Tot.mk fun _=>?_) rfl
  ·unfold zep
   refine Tot.ite (fun _=>(Tot.get q1).bind fun x ⟨U,ex⟩=>(Tot.get q2).bind fun y ⟨_,ey⟩=>(yeg n x y (by have:=zf2 U;omega)).bind fun r hr=>Tot.ite (fun I=>Tot.mk (.inl ⟨rfl,?_⟩)) fun _=>zvt) fun h=>by omega
   rw[<-ex,<-ey];exact hr I
  ·cases a;cases b;simp only at h1 h2 h3 h4 e;simp[h1,h2,h3,h4,e]
theorem z3z {a b:xrx} (h:depE a<=1000000):Tot (zdk a b) fun r=>r=true->a=b:=yeg 1000000 a b h
theorem z8v:∀(n:Nat) (a b:List xry),zf1 a+1<=n->zf1 a<=1000->Tot (ze4 n a b) fun r=>r=true->a=b
 |0,a,b,h,_=>by omega
 |n+1,a,b,h,hd=>by
  show Tot (ze5 (ze4 n) a b) _
  unfold ze5;refine Tot.ite (fun hl=>?_) fun _=>no_t;refine zr5 (zll (a:=a) (b:=b) (by omega) (fun i q1 q2=>?_) (by simp[zho])) (fun e=>Tot.mk fun _=>e) rfl;unfold zho
  refine Tot.ite (fun _=>(Tot.get q1).bind fun x ⟨hx,ex⟩=>(Tot.get q2).bind fun y ⟨_,ey⟩=>?_) fun h=>by omega
  rw[<-ex,<-ey]
  have dx:=zm8 hx
  rw[zt7]at dx;refine Tot.ite (fun h1=>Tot.ite (fun h2=>(z3z (by omega)).bind fun _ h3=>Tot.ite (fun t3=>(z3z (by omega)).bind fun _ h4=>Tot.ite (fun t4=>(z3z (by rw[zdv];simp only;omega)).bind fun _ h5=>Tot.ite (fun t5=>(z8v n x.Body y.Body (by omega) (by omega)).bind fun _ h6=>Tot.ite (fun t6=>(z8v n x.Else y.Else (by omega) (by omega)).bind fun _ h7=>Tot.ite (fun t7=>Tot.mk (.inl ⟨rfl,?_⟩)) fun _=>zvt) fun _=>zvt) fun _=>zvt) fun _=>zvt) fun _=>zvt) fun _=>zvt) fun _=>zvt
  have I:=h3 t3;have U:=h4 t4;have e5:=h5 t5;have e6:=h6 t6;have e7:=h7 t7
  cases x;cases y;simp only[xrx.mk.injEq,true_and]at h1 h2 I U e5 e6 e7;simp[h1,h2,I,U,e5,e6,e7]
theorem yk9 (a b:List Int):Tot (zbj a b) fun r=>r=true->a=b:=by
 unfold zbj;refine Tot.ite (fun hl=>?_) fun _=>no_t;refine zr5 (zll (a:=a) (b:=b) (by omega) (fun i q1 q2=>?_) (by simp[zda])) (fun e=>Tot.mk fun _=>e) rfl;unfold zda
 exact Tot.ite (fun _=>(Tot.get q1).bind fun x ⟨_,ex⟩=>(Tot.get q2).bind fun y ⟨_,I⟩=>Tot.ite (fun e=>Tot.mk (.inl ⟨rfl,by rw[<-ex,<-I];exact e⟩)) fun _=>zvt) fun h=>by omega
theorem yj3 (a b:xr4):Tot (zg5 a b) fun r=>r=true->a=b:=by
 unfold zg5;refine Tot.ite (fun l1=>Tot.ite (fun l2=>?_) fun _=>no_t) fun _=>no_t;refine zr5 (zll (a:=a.Names) (b:=b.Names) (by omega) (fun i q1 q2=>?_) (by simp[zhr])) (fun U=>?_) rfl
 ·unfold zhr
  exact Tot.ite (fun _=>(Tot.get q1).bind fun x ⟨_,ex⟩=>(Tot.get q2).bind fun y ⟨_,I⟩=>Tot.ite (fun e=>Tot.mk (.inl ⟨rfl,by rw[<-ex,<-I];exact e⟩)) fun _=>zvt) fun h=>by omega
 refine zr5 (zll (a:=a.Below) (b:=b.Below) (by omega) (fun i q1 q2=>?_) (by simp[zhq])) (fun e2=>Tot.mk fun _=>?_) rfl
 ·unfold zhq
  refine Tot.ite (fun _=>(Tot.get q1).bind fun x ⟨_,ex⟩=>(Tot.get q2).bind fun y ⟨_,I⟩=>Tot.ite (fun e=>Tot.mk (.inl ⟨rfl,?_⟩)) fun _=>zvt) fun h=>by omega
  rw[<-ex,<-I];cases x;cases y;simp only at e;simp[e]
 ·cases a;cases b;simp only at U e2;simp[U,e2]
theorem yj2 {a b:xrw} (hd:∀t∈a.Tasks,zf1 t.Body<=1000):Tot (zgy a b) fun r=>r=true->a=b:=by
 unfold zgy;refine(yj3 _ _).bind fun r hr=>Tot.ite (fun t0=>Tot.ite (fun l1=>Tot.ite (fun l2=>Tot.ite (fun l3=>Tot.ite (fun l4=>?_) fun _=>no_t) fun _=>no_t) fun _=>no_t) fun _=>no_t) fun _=>no_t;refine zr5 (zll (a:=a.Sites) (b:=b.Sites) (by omega) (fun i q1 q2=>?_) (by simp[zhm])) (fun e1=>?_) rfl
 ·unfold zhm
  refine Tot.ite (fun _=>(Tot.get q1).bind fun x ⟨_,ex⟩=>(Tot.get q2).bind fun y ⟨_,I⟩=>Tot.ite (fun e=>Tot.mk (.inl ⟨rfl,?_⟩)) fun _=>zvt) fun h=>by omega
  rw[<-ex,<-I];cases x;cases y;simp only at e;simp[e]
 refine zr5 (zll (a:=a.Vars) (b:=b.Vars) (by omega) (fun i q1 q2=>?_) (by simp[zhl])) (fun e2=>?_) rfl
 ·unfold zhl
  refine Tot.ite (fun _=>(Tot.get q1).bind fun x ⟨_,ex⟩=>(Tot.get q2).bind fun y ⟨_,I⟩=>Tot.ite (fun e=>Tot.mk (.inl ⟨rfl,?_⟩)) fun _=>zvt) fun h=>by omega
  rw[<-ex,<-I];obtain⟨n1,t1,m1,b1,s1⟩:=x;obtain⟨n2,t2,m2,b2,s2⟩:=y;cases t1;cases t2;simp only at e;simp[e]
 refine zr5 (zll (a:=a.Blocks) (b:=b.Blocks) (by omega) (fun i q1 q2=>?_) (by simp[zhk])) (fun U=>?_) rfl
 ·unfold zhk
  refine Tot.ite (fun _=>(Tot.get q1).bind fun x ⟨_,ex⟩=>(Tot.get q2).bind fun y ⟨_,I⟩=>Tot.ite (fun e=>Tot.mk (.inl ⟨rfl,?_⟩)) fun _=>zvt) fun h=>by omega
  rw[<-ex,<-I];cases x;cases y;simp only at e;simp[e]
 refine zr5 (zll (a:=a.Tasks) (b:=b.Tasks) (by omega) (fun i q1 q2=>?_) (by simp[zhj])) (fun e4=>Tot.mk fun _=>?_) rfl
 ·unfold zhj zge
  refine Tot.ite (fun _=>(Tot.get q1).bind fun x ⟨hx,ex⟩=>(Tot.get q2).bind fun y ⟨_,I⟩=>?_) fun h=>by omega
  have:Tot (if x.Every=y.Every then(if x.Priority=y.Priority then((zbj x.Budget y.Budget).bind fun aa=>if aa=true then((zk1 x.Body y.Body).bind fun ab=>some ab)else(some false))else(some false))else(some false)) fun r=>r=true->x=y:=by
   refine Tot.ite (fun h1=>Tot.ite (fun h2=>(yk9 _ _).bind fun r3 h3=>Tot.ite (fun t3=>(z8v 1000000 x.Body y.Body (by have:=hd x hx;omega) (hd x hx)).bind fun r4 h4=>Tot.mk fun t4=>?_) fun _=>no_t) fun _=>no_t) fun _=>no_t
   have U:=h3 t3;have e4:=h4 t4
   cases x;cases y;simp only at h1 h2 U e4;simp[h1,h2,U,e4]
  refine this.bind fun r hr=>Tot.ite (fun t=>Tot.mk (.inl ⟨rfl,?_⟩)) fun _=>zvt;rw[<-ex,<-I];exact hr t
 ·have e0:=hr t0
  cases a;cases b;simp only at e0 e1 e2 U e4;simp[e0,e1,e2,U,e4]
end Go.Lz

end
section
namespace Go.Lz
theorem z5o {α:Type} (g:α->Int->α) {labels:List Int} {off:Nat} {xs0:List α} (hl:off+xs0.length<=labels.length) {f:List α×Nat->Option ((List α×Nat)⊕List α)}
  (hf:∀(xs:List α) i,xs.length=xs0.length->i<xs.length->f (xs,i)=(labels[off+i]?).bind fun l=>(xs[i]?).bind fun x=>some (.inl (xs.set i (g x l),i+1))) (last:∀xs:List α,f (xs,xs.length)=some (.inr xs)):
  Tot (loop f (xs0,0)) fun r=>r.length=xs0.length/\∀i (h:i<r.length) (h0:i<xs0.length) (h1:off+i<labels.length),r[i]=g xs0[i] labels[off+i]:=by
 refine Tot.loop (fun s:List α×Nat=>s.2<=s.1.length/\s.1.length=xs0.length/\(∀i (h:i<s.1.length) (h0:i<xs0.length) (h1:off+i<labels.length),i<s.2->s.1[i]=g xs0[i] labels[off+i])/\∀i (h:i<s.1.length) (h0:i<xs0.length),s.2<=i->s.1[i]=xs0[i]) (fun s=>xs0.length-s.2) ⟨Nat.zero_le _,rfl,fun i _ _ _ h=>by simp only at h;omega,fun i _ _ _=>rfl⟩ fun⟨xs,i⟩ ⟨hi,hn,h1,h2⟩=>?_
 simp only at hi hn h1 h2
 by_cases h':i<xs.length
 ·rw[hf xs i hn h']
  refine(Tot.get (by omega)).bind fun l ⟨_,el⟩=>(Tot.get h').bind fun x ⟨_,ex⟩=>Tot.mk ⟨⟨by simp only[List.length_set];omega,by simp only[List.length_set];exact hn,fun j U I aa ab=>?_,fun j U I ad=>?_⟩,by simp only;omega⟩
  ·simp only[List.length_set]at U ab
   simp only[List.getElem_set];split
   ·rename_i e;subst e;rw[ex,el,h2 i h' I (Nat.le_refl _)]
   ·exact h1 j U I aa (by omega)
  ·simp only[List.length_set]at U ad
   simp only[List.getElem_set];split
   ·omega
   ·exact h2 j U I (by omega)
 ·have e:i=xs.length:=by omega
  subst e;exact⟨_,last xs,hn,fun j U I aa=>h1 j U I aa U⟩
def setV (v:xr7) (l:Int):xr7:=⟨v.Name,v.Type_,v.Mode,l,v.Safe⟩
def setB (b:xr9) (l:Int):xr9:=⟨b.Name,b.Kind,l⟩
def Labd (p q:xrw) (l:List Int):Prop:=q.Lattice=p.Lattice/\q.Tasks=p.Tasks/\(q.Vars.length=p.Vars.length/\∀i (h:i<q.Vars.length) (h1:i<l.length),q.Vars[i].Label=l[i])/\(q.Blocks.length=p.Blocks.length/\∀i (h:i<q.Blocks.length) (h1:p.Vars.length+i<l.length),q.Blocks[i].Label=l[p.Vars.length+i])
theorem yim {p:xrw} (hd:∀t∈p.Tasks,zf1 t.Body<=120):Tot (zfj p) fun r=>r.2=0->zok p/\Lat p.Lattice/\(∀t∈p.Tasks,zmw p t.Body=true)/\zbe p=some 0/\∃l,zbl p=some (l,0)/\l.length=p.Vars.length+p.Blocks.length/\Labd p r.1 l:=by
 have aa:∀t∈p.Tasks,zf1 t.Body<=1000:=fun t ht=>Nat.le_trans (hd t ht) (by omega)
 have no:∀{x:xrw} {e:Int} {Q:xrw×Int->Prop},e≠0->Tot (some (x,e)) fun r=>r.2=0->Q r:=fun h=>Tot.mk fun h'=>(h h').elim
 unfold zfj;refine(yd1 p aa).bind fun b hb=>Tot.ite (fun h=>?_) fun _=>no (by decide)
 have G:=hb h
 have P:=G.P
 have p1:=P.nv;have p2:=P.nb;have p3:=P.ns
 rw[yco,Option.bind_some];refine Tot.ite (fun hL=>?_) fun h=>no h
 have L:=yk1 hL
 refine(yio p (by omega) (by omega) (by omega) aa).bind fun r ar=>Tot.ite (fun au=>?_) fun h=>no h;obtain⟨av,ab,_⟩:=yin G;refine Tot.bind (Q:=fun r=>r=av) ⟨_,ab,rfl⟩ fun ax ak=>?_;subst ak;refine Tot.ite (fun aw=>?_) fun h=>no h;rw[aw]at ab;obtain⟨⟨l,z⟩,af,ai⟩:=yaj G hd L;refine Tot.bind (Q:=fun r=>r=(l,z)) ⟨_,af,rfl⟩ fun ay al=>?_;subst al;refine Tot.ite (fun aj=>?_) fun h=>no h
 simp only at aj ai;subst aj
 have hl:=ai rfl
 have fin:∀q:xrw,Labd p q l->Tot ((zbm q).bind fun an=>if an=true then(some (q,(0:Int)))else(some ((⟨(⟨[],[]⟩:xr4),[],[],[],[]⟩:xrw),3))) fun r=>r.2=0->zok p/\Lat p.Lattice/\(∀t∈p.Tasks,zmw p t.Body=true)/\zbe p=some 0/\∃l,zbl p=some (l,0)/\l.length=p.Vars.length+p.Blocks.length/\Labd p r.1 l:=fun q hq=>
  (ybe q (by rw[hq.2.1];exact aa)).bind fun b _=>Tot.ite (fun _=>Tot.mk fun _=>⟨G,L,ar au,ab,l,af,hl,hq⟩) fun _=>no (by decide)
 have vs:∀f:List xr7×Nat->Option ((List xr7×Nat)⊕List xr7),(∀xs i,f (xs,i)=if(i:Int)<(xs.length:Int)then((l[i]?).bind fun ao=>(xs[i]?).bind fun I=>some (.inl ((xs.set i (⟨I.Name,I.Type_,I.Mode,ao,I.Safe⟩:xr7)),(i+1))))else(some (.inr (xs))))->Tot (loop f (p.Vars,0)) fun r=>r.length=p.Vars.length/\∀i (h:i<r.length) (h1:i<l.length),r[i].Label=l[i]:=fun f hf=>
  (z5o setV (labels:=l) (off:=0) (xs0:=p.Vars) (by omega) (fun xs i _ hi=>by rw[hf,if_pos (by omega)];simp only[Nat.zero_add];rfl) (fun xs=>by rw[hf,if_neg (by omega)])).imp fun r hr=>⟨hr.1,fun i h h1=>by have:=hr.2 i h (by omega) (by omega);rw[this];simp[setV]⟩
 have bs:∀(f:List xr9×Nat->Option ((List xr9×Nat)⊕List xr9)) (m:Nat),m=p.Vars.length->(∀xs i,f (xs,i)=if(i:Int)<(xs.length:Int)then((idx l (w64 ((m:Int)+(i:Int)))).bind fun aq=>(xs[i]?).bind fun ad=>some (.inl ((xs.set i (⟨ad.Name,ad.Kind,aq⟩:xr9)),(i+1))))else(some (.inr (xs))))->Tot (loop f (p.Blocks,0)) fun r=>r.length=p.Blocks.length/\∀i (h:i<r.length) (h1:p.Vars.length+i<l.length),r[i].Label=l[p.Vars.length+i]:=fun f m hm hf=>
  (z5o setB (labels:=l) (off:=p.Vars.length) (xs0:=p.Blocks) (by omega) (fun xs i _ hi=>by
    rw[hf,if_pos (by omega),zhv (by omega) (by omega),hm,show(p.Vars.length:Int)+(i:Int)=((p.Vars.length+i:Nat):Int) by omega,zpi];rfl) (fun xs=>by rw[hf,if_neg (by omega)])).imp fun r hr=>⟨hr.1,fun i h h1=>by have:=hr.2 i h (by omega) h1;rw[this];simp[setB]⟩
 refine Tot.ite (fun ev=>Tot.ite (fun eb=>?_) fun eb=>Tot.need (by omega) ?_) fun ev=>Tot.need (by omega) (Tot.ite (fun eb=>?_) fun eb=>Tot.need (by omega) ?_)
 ·have U:=List.isEmpty_iff.1 ev;have ae:=List.isEmpty_iff.1 eb
  rw[zcj (r:=()) (by simp[zir]),Option.bind_some,zcj (r:=()) (by simp[ziq]),Option.bind_some];exact fin ⟨p.Lattice,p.Sites,[],[],p.Tasks⟩ ⟨rfl,rfl,⟨by simp[U],fun i h=>by simp at h⟩,by simp[ae],fun i h=>by simp at h⟩
 ·have U:=List.isEmpty_iff.1 ev
  rw[zcj (r:=()) (by simp[zip]),Option.bind_some];exact(bs _ 0 (by simp[U]) (fun xs i=>by simp[zio])).bind fun r hr=>fin ⟨p.Lattice,p.Sites,[],r,p.Tasks⟩ ⟨rfl,rfl,⟨by simp[U],fun i h=>by simp at h⟩,hr⟩
 ·have ae:=List.isEmpty_iff.1 eb
  refine(vs _ (fun xs i=>rfl)).bind fun v hv=>?_;rw[zcj (r:=()) (by simp[zin]),Option.bind_some];exact fin ⟨p.Lattice,p.Sites,v,[],p.Tasks⟩ ⟨rfl,rfl,hv,by simp[ae],fun i h=>by simp at h⟩
 ·exact(vs _ (fun xs i=>rfl)).bind fun v hv=>(bs _ v.length hv.1 (fun xs i=>rfl)).bind fun r hr=>fin ⟨p.Lattice,p.Sites,v,r,p.Tasks⟩ ⟨rfl,rfl,hv,hr⟩
theorem yku {p:xrw} (I:∀t∈p.Tasks,zf1 t.Body<=120):Tot (zfd p) fun b=>b=true->zok p/\Lat p.Lattice/\(∀t∈p.Tasks,zmw p t.Body=true)/\zbe p=some 0/\∃l,zbl p=some (l,0)/\l.length=p.Vars.length+p.Blocks.length/\Labd p p l:=by
 have U:∀t∈p.Tasks,zf1 t.Body<=1000:=fun t ht=>Nat.le_trans (I t ht) (by omega)
 unfold zfd
 refine(yim I).bind fun r hr=>Tot.ite (fun h=>?_) fun _=>Tot.mk fun h=>by cases h
 obtain⟨h1,h2,h3,h4,l,h5,h6,h7⟩:=hr h;refine(yj2 U).bind fun b hb=>Tot.mk fun t=>⟨h1,h2,h3,h4,l,h5,h6,?_⟩
 have:=hb t
 rw[<-this]at h7;exact h7
end Go.Lz

end
section
namespace Go.Lz
theorem zx0 {P:Program} {all:Array Oper} {kt:Nat} (al:kt<=all.size) {S Fl FE:List Nat} {K:St->Prop} (hg:∀(j:Nat) (o:Oper),all[j]? =some o->o.guard=none):∀(rest:List Oper) (k:Nat) (st:St),(∀m,m<rest.length->rest[m]? =all[k+m]?)->k+rest.length=kt->awpF P S Fl FE k rest st K->
  ∃(T:Nat->V) (Hs:Nat->List O) (ab:St),Hs k=st.H/\(∀(i:Nat) (o:Oper),k<=i->i<kt->all[i]? =some o->z79 P all S Fl FE (fun t=>tvF all T (look st.t) k t (i-k)) T Hs i o)/\K ab/\ab.H=Hs kt/\∀t,look ab.t t=tvF all T (look st.t) k t (kt-k)
 |[],k,st,hr,hn,h=>by
  simp at hn;refine⟨fun _=>.un,fun _=>st.H,st,rfl,fun i o hi I ho=>?_,h,rfl,fun t=>?_⟩
  ·omega
  ·rw[hn,Nat.sub_self];rfl
 |o::rest,k,st,hr,hn,h=>by
  have ho:all[k]? =some o:=by have:=hr 0 (by simp);simpa using this.symm
  have an:∀m,m<rest.length->rest[m]? =all[k+1+m]? :=fun m hm=>by have:=hr (m+1) (by simp;omega);simpa [Nat.add_assoc,Nat.add_comm 1 m]using this
  have ao:k+1+rest.length=kt:=by simp at hn;omega
  have ad:=hg k o ho
  have aa:zcf all k=effF o.op:=by simp[zcf,ho]
  obtain⟨x,H1,hE,hA,hQ,hO,hF,aj⟩:∃x H1,(effF o.op=true->OpE P all st.H H1 k o (look st.t) x)/\(FE.contains k=true->zoj S st.H H1)/\(effF o.op=false->H1=st.H)/\(effF o.op=false->OpE P all st.H st.H k o (look st.t) x)/\
    (effF o.op=false->Fl.contains k=true->∀H',zoj S st.H H'->OpE P all H' H' k o (look st.t) x)/\awpF P S Fl FE (k+1) rest (st.put o.dst x H1) K:=by
   simp only[awpF]at h
   cases he:effF o.op with
   |true=>
    rw[he]at h;simp only at h;split at h
    ·rename_i f args av aq
     split at h
     ·rename_i g cap hf
      obtain⟨x,H1,hc,ha,hk⟩:=h;exact⟨x,H1,fun _=>z50 ho ad aq hf hc,ha,fun h=>(by cases h),fun h=>(by cases h),fun h=>(by cases h),hk⟩
     ·exact h.elim
    ·obtain⟨hp,ha,hk⟩:=h
     exact⟨_,_,fun _=>zuh ho ad hp,ha,fun h=>(by cases h),fun h=>(by cases h),fun h=>(by cases h),hk⟩
   |false=>
    rw[he]at h;simp only at h;obtain⟨hp,hh,ar,hk⟩:=h;refine⟨_,st.H,fun h=>(by cases h),fun _ _ _=>rfl,fun _=>rfl,fun _=>?_,fun _ hf H' U=>?_,hk⟩
    ·have:=zuh (st:=st) ho ad hp
     rwa[hh]at this
    ·obtain⟨q1,q2,q3⟩:=ar hf H' U
     have:=zuh (st:=st) ho ad q1
     rwa[q2,q3]at this
  obtain⟨T,Hs,ab,e1,e2,e3,e4,e5⟩:=zx0 al hg rest (k+1) (st.put o.dst x H1) an ao aj
  have ae:∀t,look (st.put o.dst x H1).t t=if(all[k]?).bind (·.dst)=some t then x else look st.t t:=fun t=>by rw[znq,ho];rfl
  have af:Hs (k+1)=H1:=by rw[e1];cases o.dst<;>rfl
  refine⟨fun i=>if i=k then x else T i,fun i=>if i=k then st.H else Hs i,ab,by simp,fun i oi hi ak ai=>?_,e3,?_,fun t=>?_⟩
  ·by_cases I:i=k
   ·subst I
    rw[ho]at ai;cases ai
    have l0:(fun t=>tvF all (fun j=>if j=i then x else T j) (look st.t) i t (i-i))=look st.t:=by funext t;rw[Nat.sub_self];rfl
    rw[l0]
    have n1:i+1≠i:=by omega
    refine⟨fun h=>?_,fun ha=>?_,fun h=>?_,fun h=>?_,fun h hf H' U=>?_⟩
    ·simp only[if_true,if_neg n1,af];exact hE (by rw[<-aa];exact h)
    ·simp only[if_true,if_neg n1,af];exact hA ha
    ·simp only[if_true,if_neg n1,af];exact hQ (by rw[<-aa];exact h)
    ·simp only[if_true];exact hO (by rw[<-aa];exact h)
    ·simp only[if_true]at U|-;exact hF (by rw[<-aa];exact h) hf H' U
   ·have au:k+1<=i:=by omega
    have F:=e2 i oi au ak ai
    have lE:(fun t=>tvF all (fun j=>if j=k then x else T j) (look st.t) k t (i-k))=fun t=>tvF all T (look (st.put o.dst x H1).t) (k+1) t (i-(k+1)):=by
     funext t
     rw[show i-k=(i-(k+1))+1 by omega,zs8];simp only[if_true];rw[zs9 (l':=look (st.put o.dst x H1).t) (fun t=>(ae t).symm)]
     exact zpr fun m hm=>by rw[if_neg (by omega)]
    rw[lE]
    have n1:i+1≠k:=by omega
    refine⟨fun h=>?_,fun ha=>?_,fun h=>?_,fun h=>?_,fun h hf H' U=>?_⟩
    ·simp only[if_neg I,if_neg n1];exact F.eff h
    ·simp only[if_neg I,if_neg n1];exact F.ag ha
    ·simp only[if_neg I,if_neg n1];exact F.quiet h
    ·simp only[if_neg I];exact F.one h
    ·simp only[if_neg I]at U|-;exact F.flo h hf H' U
  ·have:kt≠k:=by omega
   simp only[if_neg this];exact e4
  ·rw[e5]
   rw[show kt-k=(kt-(k+1))+1 by omega,zs8];simp only[if_true];rw[zs9 (l':=look (st.put o.dst x H1).t) (fun t=>(ae t).symm)];exact(zpr fun m hm=>by rw[if_neg (by omega)]).symm
theorem ydn {kt:Nat} {P:Program} {ctx:Env} {n:Nat} {ops:Array Oper} {T l0:Nat->V} {S Fl FE:List Nat} {Hs:Nat->List O} {Q:Exit->Act->World->Prop} (hd:z0s ops) (aS:kt<ops.size) (aY:∀i j,kt<=j->j<ops.size->i<kt->Before ops i j) (aZ:floB ops=true) (aB:floL ops Fl FE=true) (a4:∀o∈ops.toList,∀d,o.dst=some d->d<n)
  (X:∀(i:Nat) (o:Oper),i<kt->ops[i]? =some o->z79 P ops S Fl FE (fun t=>tv ops T l0 (fun _=>True) t i) T Hs i o)
  (hT:∀(fuel:Nat) (listed:Array Bool) (a:Act) (E:Env),unl listed<=fuel->listed.size=ops.size->(∀(j:Nat) (o:Oper),ops[j]? =some o->listed.getD j false=true->∀e∈o.after,Region.binds .any e=true->listed.getD e.on false=true)->(∀i,listed.getD i false=true↔i<kt)->
    n<=a.tmps.size->a.defers=[]->HRel E->E.H=Hs kt->Trans ctx E->(∀t,VRel E (tv ops T l0 (fun _=>True) t kt) (a.tmps.getD t undef))->wpAny P .any ops Q fuel listed a E.w):
  ∀(fuel:Nat) (listed:Array Bool) (a:Act) (E:Env),unl listed<=fuel->listed.size=ops.size->(∀(j:Nat) (o:Oper),ops[j]? =some o->listed.getD j false=true->∀e∈o.after,Region.binds .any e=true->listed.getD e.on false=true)->(∀j,listed.getD j false=true->j<kt)->
   n<=a.tmps.size->a.defers=[]->HRel E->(∃m,m<=kt/\E.H=Hs m/\(∀e,e<m->zcf ops e=true->listed.getD e false=true)/\∀e,m<=e->zcf ops e=true->listed.getD e false=false)->Trans ctx E->
   (∀t,VRel E (tv ops T l0 (fun j=>listed.getD j false=true) t ops.size) (a.tmps.getD t undef))->wpAny P .any ops Q fuel listed a E.w:=by
 obtain⟨hg,aC⟩:=zwg aZ
 have ao:∀{j t:Nat},(ops[j]?).bind (·.dst)=some t->∃oj,ops[j]? =some oj/\oj.dst=some t:=by
  intro j t h
  cases hj:ops[j]? with
  |none=>simp[hj]at h
  |some oj=>simp[hj]at h;exact⟨oj,rfl,h⟩
 have pre:∀{i j:Nat},((zib ops.toList).getD j []).contains i=true->Before ops i j:=fun{i j} h=>zy1 (by simpa using h)
 have ab:∀{i j:Nat},Before ops i j->i<j:=by
  intro i j h
  have one:∀{i j:Nat},zgl ops i j=true->i<j:=fun{i j} aq=>by
   obtain⟨o,ho,e,he,hb,rfl⟩:=ze9 aq;exact hd.back j o ho e he hb
  induction h with
  |one h=>exact one h
  |trans h h2 ih=>exact Nat.lt_trans ih (one h2)
 have const:∀{a b:Nat},a<=b->b<=kt->(∀e,a<=e->e<b->zcf ops e=false)->Hs b=Hs a:=by
  intro a b ar
  induction ar with
  |refl=>intro _ _;rfl
  | @step b ar ih=>
    intro hb hq
    have aH:b<kt:=hb
    have a5:b<ops.size:=by omega
    have:=(X b ops[b] aH (by simp[a5])).quiet (hq b ar (Nat.lt_succ_self b))
    rw[this];exact ih (Nat.le_of_lt hb) fun e h1 h2=>hq e h1 (Nat.lt_succ_of_lt h2)
 have a6:∀e,e<ops.size->zcf ops e=true->floE ops e=true->FE.contains e=true:=fun e he I hf=>by
  unfold floL at aB
  have:=List.all_eq_true.1 aB e (List.mem_range.2 he)
  rw[I,hf]at this;simpa using this
 have a7:∀i,i<ops.size->zcf ops i=false->floQ ops i=true->Fl.contains i=true:=fun i hi a8 hf=>by
  unfold floL at aB
  have:=List.all_eq_true.1 aB i (List.mem_range.2 hi)
  rw[a8,hf]at this;simpa using this
 have aT:∀{a b:Nat},a<=b->b<=kt->(∀e,a<=e->e<b->zcf ops e=true->floE ops e=true)->∀i∈S,(Hs b)[i]? =(Hs a)[i]? :=by
  intro a b ar
  induction ar with
  |refl=>intro _ _ i _;rfl
  | @step b ar ih=>
    intro hb hq i hi
    have a9:b<kt:=hb
    have aH:b<ops.size:=by omega
    have hX:=X b ops[b] a9 (by simp[aH])
    have:(Hs (b+1))[i]? =(Hs b)[i]? :=by
     cases I:zcf ops b with
     |true=>exact hX.ag (a6 b aH I (hq b ar (Nat.lt_succ_self b) I)) i hi
     |false=>rw[hX.quiet I]
    rw[this];exact ih (Nat.le_of_lt hb) (fun e h1 h2=>hq e h1 (Nat.lt_succ_of_lt h2)) i hi
 have fin:∀(fuel:Nat) (listed:Array Bool) (a:Act) (E:Env),unl listed<=fuel->listed.size=ops.size->(∀(j:Nat) (o:Oper),ops[j]? =some o->listed.getD j false=true->∀e∈o.after,Region.binds .any e=true->listed.getD e.on false=true)->(∀j,listed.getD j false=true->j<kt)->n<=a.tmps.size->a.defers=[]->HRel E->(∃m,m<=kt/\E.H=Hs m/\(∀e,e<m->zcf ops e=true->listed.getD e false=true)/\∀e,m<=e->zcf ops e=true->listed.getD e false=false)->Trans ctx E->
   (∀t,VRel E (tv ops T l0 (fun j=>listed.getD j false=true) t ops.size) (a.tmps.getD t undef))->(∀i,i<kt->listed.getD i false=true)->wpAny P .any ops Q fuel listed a E.w:=by
  rintro fuel listed a E hu ba hc au hlen aD hE ⟨m,hm,hH,h1,h2⟩ tr ax aj;refine hT fuel listed a E hu ba hc (fun i=>⟨au i,aj i⟩) hlen aD hE ?_ tr fun t=>?_
  ·rw[hH]
   refine(const hm (Nat.le_refl _) fun e he U=>?_).symm
   cases ae:zcf ops e with
   |false=>rfl
   |true=>have:=h2 e he ae;rw[aj e U]at this;cases this
  ·have:=ax t
   rw[zny (i:=kt) (Nat.le_of_lt aS) (fun j hj _ _ hl=>by have:=au j hl;omega)]at this;rwa[zuc (fun j hj _=>aj j hj)]at this
 have nil:∀(listed:Array Bool),listed.size=ops.size->Region.ready .any ops listed=[]->∀i,i<ops.size->listed.getD i false=true:=by
  intro listed hs hr j
  induction j using Nat.strongRecOn with
  |_ j bb=>
   intro hj
   cases hl:listed.getD j false with
   |true=>rfl
   |false=>
    have aM:j∈Region.ready .any ops listed:=by
     rw[mem_ready];refine⟨by simp only[Array.getD_eq_getD_getElem?]at hl|-;rw[Array.getElem?_eq_getElem (by rw[hs];exact hj)]at hl|-;simpa using hl,ops[j],by simp[hj],fun e he hb=>?_⟩
     have U:=hd.back j ops[j] (by simp[hj]) e he hb
     exact bb e.on U (by omega)
    rw[hr]at aM;cases aM
 intro fuel
 induction fuel with
 |zero=>
  intro listed a E hu hs hc au hlen aD hE hm tr ax
  have:=au kt (zvw (by omega) (by rw[hs];exact aS))
  omega
 |succ fuel ih=>
  intro listed a E hu hs hc au hlen aD hE hm tr ax
  by_cases aj:∀i,i<kt->listed.getD i false=true
  ·exact fin (fuel+1) listed a E hu hs hc au hlen aD hE hm tr ax aj
  refine⟨fun hr=>(aj fun i hi=>nil listed hs hr i (by omega)).elim,fun i hi=>?_⟩;rw[mem_ready]at hi;obtain⟨aN,o,ho,af⟩:=hi
  have ak:i<ops.size:=(Array.getElem?_eq_some_iff.1 ho).1
  have av:i<kt:=by
   rcases Nat.lt_or_ge i kt with h|h
   ·exact h
   ·exact(aj fun q hq=>(aY q i h ak hq).ready hc ho af).elim
  have ai:i<listed.size:=by rw[hs];exact ak
  have ay:listed.getD i false=false:=by
   simp only[Array.getD_eq_getD_getElem?,Array.getElem?_eq_getElem ai]at aN|-;simpa using aN
  have aU:∀d,o.dst=some d->d<n:=a4 o (List.mem_of_getElem? (by simpa using ho))
  have later:∀j,zgl ops i j=true->listed.getD j false=true->False:=by
   intro j aq hl;obtain⟨oj,ad,e,he,hb,rfl⟩:=ze9 aq
   have:=hc j oj ad hl e he hb
   rw[ay]at this;cases this
  have aO:∀j,zgl ops j i=true->listed.getD j false=true:=by
   intro j aq;obtain⟨oi,aV,e,he,hb,rfl⟩:=ze9 aq;rw[ho]at aV;cases aV;exact af e he hb
  have aP:∀t,t∈zbo o->VRel E (tv ops T l0 (fun _=>True) t i) (a.tmps.getD t undef):=by
   intro t ht
   have h1:tv ops T l0 (fun j=>listed.getD j false=true) t ops.size=tv ops T l0 (fun j=>listed.getD j false=true) t i:=by
    refine zny (Nat.le_of_lt ak) fun j aW hj aa hl=>?_;obtain⟨oj,ad,aa⟩:=ao aa
    rcases Nat.lt_or_eq_of_le aW with U|rfl
    ·exact later j (hd.war i j o oj t U ho ad (.inr ⟨aa,.inl ht⟩)) hl
    ·rw[ay]at hl;cases hl
   have h2:tv ops T l0 (fun j=>listed.getD j false=true) t i=tv ops T l0 (fun _=>True) t i:=by
    refine zuc fun j hj aa=>?_;obtain⟨oj,ad,aa⟩:=ao aa;exact aO j (hd.war j i oj o t hj ad ho (.inl ⟨aa,.inl ht⟩))
   have:=ax t
   rw[h1,h2]at this;exact this
  have next:∀v E',VRel E' (T i) v->(∃m,m<=kt/\E'.H=Hs m/\(∀e,e<m->zcf ops e=true->(listed.setIfInBounds i true).getD e false=true)/\∀e,m<=e->zcf ops e=true->(listed.setIfInBounds i true).getD e false=false)->
    HRel E'->Trans E E'->wpAny P .any ops Q fuel (listed.setIfInBounds i true) (a.put o.dst v) E'.w:=by
   intro v E' hv bc hh an;refine ih (listed.setIfInBounds i true) (a.put o.dst v) E' (by have:=zyq ai aN;omega) (by simp[hs]) ?_ ?_ ?_ ?_ hh bc (tr.trans an) ?_
   ·intro j oj ad hl e he hb
    rw[zbz ai]at hl|-;rw[Bool.or_eq_true]at hl|-
    rcases hl with hl|hl
    ·have:i=j:=by simpa using hl
     subst this;rw[ho]at ad;cases ad;exact .inr (af e he hb)
    ·exact .inr (hc j oj ad hl e he hb)
   ·intro j hl
    rw[zbz ai,Bool.or_eq_true,decide_eq_true_eq]at hl
    rcases hl with hl|hl
    ·omega
    ·exact au j hl
   ·cases az:o.dst<;>simpa [Act.put,az]using hlen
   ·cases az:o.dst<;>simpa [Act.put,az]using aD
   ·intro t
    by_cases aA:o.dst=some t
    ·have bf:=aU t aA
     have U:t<a.tmps.size:=Nat.lt_of_lt_of_le bf hlen
     rw[aA,zmt U,if_pos rfl]
     have h1:tv ops T l0 (fun j=>(listed.setIfInBounds i true).getD j false=true) t ops.size=tv ops T l0 (fun j=>(listed.setIfInBounds i true).getD j false=true) t (i+1):=by
      refine zny ak fun j aW hj aa hl=>?_;obtain⟨oj,ad,aa⟩:=ao aa;rw[zbz ai,Bool.or_eq_true]at hl
      rcases hl with hl|hl
      ·have:i=j:=by simpa using hl
       omega
      ·exact later j (hd.war i j o oj t (by omega) ho ad (.inl ⟨aA,.inr (.inl aa)⟩)) hl
     rw[h1,tv,if_pos ⟨by rw[zbz ai];simp,by simp[ho,aA]⟩];exact hv
    ·have h1:tv ops T l0 (fun j=>(listed.setIfInBounds i true).getD j false=true) t ops.size=tv ops T l0 (fun j=>listed.getD j false=true) t ops.size:=by
      refine z0x fun j hj aa=>?_;obtain⟨oj,ad,aa⟩:=ao aa
      have aQ:i≠j:=by rintro rfl;rw[ho]at ad;cases ad;exact aA aa
      rw[zbz ai];simp[aQ]
     rw[h1]
     have:(a.put o.dst v).tmps.getD t undef=a.tmps.getD t undef:=by
      cases az:o.dst with
      |none=>rfl
      |some d=>rw[zmt (Nat.lt_of_lt_of_le (aU d az) hlen),if_neg (by rintro rfl;exact aA az)]
     rw[this];exact(ax t).trans an
  obtain⟨m,aw,hH,h1,h2⟩:=hm
  have Xi:=X i o av ho
  have al:∀e,zcf ops e=true->e≠i->(listed.setIfInBounds i true).getD e false=listed.getD e false:=fun e _ aQ=>by rw[zbz ai];simp[Ne.symm aQ]
  cases ae:zcf ops i with
  |true=>
   have below:∀e,e<i->zcf ops e=true->listed.getD e false=true:=fun e he I=>(pre (aC e i he ak I ae)).ready hc ho af
   have aI:∀e,i<e->zcf ops e=true->listed.getD e false=false:=fun e he I=>by
    cases hl:listed.getD e false with
    |false=>rfl
    |true=>
     have aJ:e<ops.size:=by
      unfold zcf at I
      cases aE:ops[e]? with
      |none=>rw[aE]at I;cases I
      |some oe=>exact(Array.getElem?_eq_some_iff.1 aE).1
     have:=(pre (aC i e he aJ ae I)).listed hc hl
     rw[ay]at this;cases this
   have aR:E.H=Hs i:=by
    rw[hH]
    rcases Nat.le_total m i with h|h
    ·refine(const h (Nat.le_of_lt av) fun e he U=>?_).symm
     cases I:zcf ops e with
     |false=>rfl
     |true=>have:=h2 e he I;rw[below e U I]at this;cases this
    ·refine const h aw fun e he U=>?_
     cases I:zcf ops e with
     |false=>rfl
     |true=>
      have:=h1 e U I
      rcases Nat.lt_or_eq_of_le he with hx|hx
      ·rw[aI e hx I]at this;cases this
      ·rw[<-hx,ay]at this;cases this
   refine Xi.eff ae a E hE aR aP _ Q fun v E' hv aF hh an=>next v E' hv ⟨i+1,av,aF,fun e he I=>?_,fun e he I=>?_⟩ hh an
   ·by_cases aX:e=i
    ·subst aX;rw[zbz ai];simp
    ·rw[al e I aX];exact below e (by omega) I
   ·rw[al e I (by omega)];exact aI e (by omega) I
  |false=>
   have keep:∃m,m<=kt/\Hs m=Hs m/\(∀e,e<m->zcf ops e=true->(listed.setIfInBounds i true).getD e false=true)/\∀e,m<=e->zcf ops e=true->(listed.setIfInBounds i true).getD e false=false:=
    ⟨m,aw,rfl,fun e he I=>by rw[al e I (by rintro rfl;rw[ae]at I;cases I)];exact h1 e he I,fun e he I=>by rw[al e I (by rintro rfl;rw[ae]at I;cases I)];exact h2 e he I⟩
   have aK:∀E':Env,E'.H=Hs m->∃m,m<=kt/\E'.H=Hs m/\(∀e,e<m->zcf ops e=true->(listed.setIfInBounds i true).getD e false=true)/\∀e,m<=e->zcf ops e=true->(listed.setIfInBounds i true).getD e false=false:=fun E' bg=>
    ⟨m,aw,bg,fun e he I=>by rw[al e I (by rintro rfl;rw[ae]at I;cases I)];exact h1 e he I,fun e he I=>by rw[al e I (by rintro rfl;rw[ae]at I;cases I)];exact h2 e he I⟩
   cases aL:floQ ops i with
   |true=>
    have aG:∀e,e<ops.size->zcf ops e=true->¬Before ops e i->¬Before ops i e->floE ops e=true:=by
     intro e aJ I n1 n2;unfold floE;rw[List.any_eq_true];refine⟨i,List.mem_range.2 ak,?_⟩
     have c1:((zib ops.toList).getD i []).contains e=false:=by
      cases hx:((zib ops.toList).getD i []).contains e with
      |false=>rfl
      |true=>exact(n1 (pre hx)).elim
     have c2:((zib ops.toList).getD e []).contains i=false:=by
      cases hx:((zib ops.toList).getD e []).contains i with
      |false=>rfl
      |true=>exact(n2 (pre hx)).elim
     simp only[ae,c1,c2,Bool.not_false,Bool.and_self]
    have bh:zoj S (Hs i) (Hs m):=by
     intro q hq
     rcases Nat.le_total m i with h|h
     ·refine(aT h (Nat.le_of_lt av) (fun e he U I=>aG e (by omega) I (fun hb=>?_) (fun hb=>?_)) q hq).symm
      ·have:=hb.ready hc ho af;rw[h2 e he I]at this;cases this
      ·have:=ab hb;omega
     ·refine aT h aw (fun e he U I=>aG e (by omega) I (fun hb=>?_) (fun hb=>?_)) q hq
      ·have:=ab hb;omega
      ·have:=hb.listed hc (h1 e U I);rw[ay]at this;cases this
    exact Xi.flo ae (a7 i ak ae aL) (Hs m) bh a E hE hH aP _ Q fun v E' hv aF hh an=>next v E' hv (aK E' aF) hh an
   |false=>
    have comp:∀e,zcf ops e=true->Before ops e i\/Before ops i e:=by
     intro e I
     have aJ:e<ops.size:=by
      unfold zcf at I
      cases aE:ops[e]? with
      |none=>rw[aE]at I;cases I
      |some oe=>exact(Array.getElem?_eq_some_iff.1 aE).1
     unfold floQ at aL;rw[List.any_eq_false]at aL
     have:=aL e (List.mem_range.2 aJ)
     rw[I]at this
     by_cases hx:((zib ops.toList).getD i []).contains e=true
     ·exact .inl (pre hx)
     ·refine .inr (pre ?_)
      cases hy:((zib ops.toList).getD e []).contains i with
      |true=>rfl
      |false=>
       exfalso;apply this;simp only[Bool.not_eq_true]at hx;simp only[hx,hy,Bool.not_false,Bool.and_self]
    have aR:Hs m=Hs i:=by
     rcases Nat.le_total m i with h|h
     ·refine(const h (Nat.le_of_lt av) fun e he U=>?_).symm
      cases I:zcf ops e with
      |false=>rfl
      |true=>
       have h3:=h2 e he I
       rcases comp e I with hb|hb
       ·have:=hb.ready hc ho af;rw[h3]at this;cases this
       ·have:=ab hb;omega
     ·refine const h aw fun e he U=>?_
      cases I:zcf ops e with
      |false=>rfl
      |true=>
       have h3:=h1 e U I
       rcases comp e I with hb|hb
       ·have:=ab hb;omega
       ·have:=hb.listed hc h3;rw[ay]at this;cases this
    have one:=Xi.one ae
    rw[<-aR]at one
    exact one a E hE hH aP _ Q fun v E' hv aF hh an=>next v E' hv (aK E' aF) hh an
theorem yhn {P:Program} {ctx:Env} {n:Cf} {id kt:Nat} {ops:Array Oper} {st:St} {a:Act} {E:Env} {K:St->Prop} {S Fl FE:List Nat} {Q:Exit->Act->World->Prop} (hm:P.follows .mixedOrders=true) (hd:zu0 ops=true) (hf:floB ops=true) (ad:floL ops Fl FE=true) (U:kt<ops.size) (hB:z0y ops kt=true)
  (ab:∀o∈ops.toList,∀d,o.dst=some d->d<n.n) (hw:awpF P S Fl FE 0 (ops.toList.take kt) st (fun st'=>awpOps P ops (ops.toList.drop kt) st' K)) (h:SR ctx n st a E) (hQ:∀st' a' E',K st'->SR ctx n st' a' E'->Q .normal a' E'.w):
  (Code.region id ops true).wp P Q a E.w:=by
 have hD:=zqk hd
 obtain⟨T,Hs,ae,e1,e2,e3,e4,e5⟩:=zx0 (kt:=kt) (Nat.le_of_lt U) (zwg hf).1 (ops.toList.take kt) 0 st (fun m hm=>by
  have:m<kt:=by simp at hm;omega
  simp[List.getElem?_take,this]) (by simp;omega) hw
 refine wp_region_any hm ?_
 obtain⟨t0,af⟩:=zie h.rel {E.w with drawn:=E.w.drawn+1} (Nat.le_refl _) rfl rfl rfl (fun _ _=>rfl)
 have X:∀(i:Nat) (o:Oper),i<kt->ops[i]? =some o->z79 P ops S Fl FE (fun t=>tv ops T (look st.t) (fun _=>True) t i) T Hs i o:=fun i o hi ho=>by
  have:=e2 i o (Nat.zero_le _) hi ho
  have l:(fun t=>tvF ops T (look st.t) 0 t (i-0))=fun t=>tv ops T (look st.t) (fun _=>True) t i:=by funext t;rw[Nat.sub_zero,zud]
  rwa[l]at this
 have I:∀j,(Array.replicate ops.size false).getD j false=true->False:=by
  intro j hl;simp only[Array.getD_eq_getD_getElem?,Array.getElem?_replicate]at hl;split at hl<;>simp at hl
 refine ydn (kt:=kt) (ctx:=ctx) (n:=n.n) hD U (fun i j hj aa hi=>zue hB j hj aa i (by omega)) hf ad ab X (fun fuel listed a' E' hu ai ak hl h1 h2 h3 h4 h5 h6=>?_) ops.size (Array.replicate ops.size false) a _ ?_ (by simp) ?_ (fun j hl=>(I j hl).elim) h.len h.defers af ⟨0,Nat.zero_le _,?_,fun e he=>by omega,fun e _ _=>?_⟩ (h.tr.trans t0) fun t=>?_
 ·refine z5j (P:=P) (ctx:=ctx) (n:=n) (K:=K) (k0:=kt) hD ab (fun j hj aa i aj=>zue hB j hj aa i aj) hQ fuel kt listed a' E' ae (Nat.le_refl _) (Nat.le_of_lt U) ai hu (fun i _=>hl i) ?_ e3
  exact⟨h1,h.hm,h2,fun t=>by rw[e5 t,Nat.sub_zero,zud];exact h6 t,h4.trans e4.symm,h3,h5⟩
 ·simp[unl]
  exact Nat.le_trans (List.countP_le_length) (by simp)
 ·exact fun j o _ hl=>(I j hl).elim
 ·rw[e1,<-h.H]
 ·cases hx:(Array.replicate ops.size false).getD e false with
  |false=>rfl
  |true=>exact(I e hx).elim
 ·have:tv ops T (look st.t) (fun j=>(Array.replicate ops.size false).getD j false=true) t ops.size=look st.t t:=by
   rw[zny (i:=0) (Nat.zero_le _) (fun j _ _ _ hl=>(I j hl).elim)];rfl
  rw[this];exact(h.tm t).trans t0
theorem yld {P:Program} {n:Cf} {id kt:Nat} {ops:Array Oper} {st:St} {Q:Ex->St->Prop} (S Fl FE:List Nat) (hm:P.follows .mixedOrders=true) (U:zu0 ops=true) (hf:floB ops=true) (ab:floL ops Fl FE=true) (ad:kt<ops.size) (hB:z0y ops kt=true)
  (hw:awpF P S Fl FE 0 (ops.toList.take kt) st (fun st'=>awpOps P ops (ops.toList.drop kt) st' (Q .normal))):Sem' P n (.region id ops true) st Q:=by
 intro I ctx a E hs
 have aa:∀o∈ops.toList,∀d,o.dst=some d->d<n.n:=by
  intro o ho d U;simp only[okC,List.all_eq_true]at I
  have:=I o ho
  simpa [U]using this
 exact yhn hm U hf ab ad hB aa hw hs fun st' a' E' hK ae=>⟨.normal,st',E',rfl,rfl,hK,ae⟩
end Go.Lz

end
section
namespace Go.Lz
theorem z7x {P:Program} {f:FuncId} {fn:Func} {c:Code} (hf:P.funcs[f]? =some fn) (hb:fn.body=some c) (hname:(fn.name== "runtime.NumGoroutine")=false) (hok:okC fn.ntmps c=true)
  {args:List V} {H:List O} {K:V->List O->Prop} (h:Sem' P ⟨fn.ntmps,H.length⟩ c ⟨zl3 0 args,H⟩ (endK P fn.results.toList K)):Ct P f args H K:=by
 refine⟨⟨fn,hf,hname,by simp[hb]⟩,fun E vs hE hH hn hv=>?_⟩
 have hs:SR E ⟨fn.ntmps,H.length⟩ ⟨zl3 0 args,H⟩ {tmps:=vs++Array.replicate (fn.ntmps-vs.size) undef,defers:=[]} E:=by
  refine⟨by simp;omega,by rw[hH];exact Nat.le_refl _,rfl,fun i=>?_,hH,hE,Trans.refl E⟩;simp only[znu,Nat.zero_le,if_true,Nat.sub_zero];simp only[List.getD_eq_getElem?_getD]
  cases hx:args[i]? with
  |none=>simp only[Option.getD_none];exact .un
  |some x=>
   have hlt:i<vs.size:=by rw[hn];exact(List.getElem?_eq_some_iff.1 hx).1
   have:=hv i x hx
   simp only[Option.getD_some];rw[Array.getD_eq_getD_getElem?]at this|-;rw[Array.getElem?_append_left hlt];exact this
 refine calls_of_wp hf hb (wp_mono (h hok E _ E hs) ?_);rintro e a' w' ⟨x,st',E',rfl,rfl,hq,hs'⟩
 have fin:resK P fn.results.toList st' K->a'.defers=[]/\∃v,(results fn a'.tmps).run P E'.w=.ok v E'.w/\(∃v' x E'',Ending.returned v=.returned v'/\E''.w=E'.w/\K x E''.H/\VRel E'' x v'/\HRel E''/\Trans E E''):=by
  intro hk;obtain⟨v,y,h1,h2,h3⟩:=z5t hs' hk;exact⟨hs'.defers,v,h1,v,y,E',rfl,rfl,h3,h2,hs'.rel,hs'.tr⟩
 cases x with
 |normal=>exact fin hq
 |exit id=>exact hq.elim
 |ret=>exact fin hq
 |goto l=>exact hq.elim
theorem z7i {P:Program} {f:FuncId} {fn:Func} {c:Code} (hf:P.funcs[f]? =some fn) (hb:fn.body=some c) (hname:(fn.name== "runtime.NumGoroutine")=false) (hok:okC fn.ntmps c=true)
  {args:List V} {x:V} (h:Sem' P ⟨fn.ntmps,0⟩ c ⟨zl3 0 args,[]⟩ (endK P fn.results.toList fun v H=>v.view H=x/\x.lt 0=true)):Pu P f args x:=by
 have:=z7x (H:=[]) hf hb hname hok h
 refine⟨this.1,fun E vs h1 h2 h3 h4=>Calls.mono (this.2 E vs h1 h2 h3 h4) ?_⟩;rintro e w' ⟨v,y,E',rfl,rfl,⟨rfl,hl⟩,hv,hh,tr⟩;refine⟨v,_,E'.shut,rfl,rfl,⟨rfl,rfl⟩,zvu hh hv hl,zug hh,?_⟩
 have e0:∀b,¬E.own b:=by rintro b ⟨id,o,ho,_⟩;simp[h2]at ho
 refine⟨tr.fr,tr.size,tr.os,tr.tape,tr.output,fun b hb _=>tr.keep b hb (e0 b),?_,by simp[h2],by simp[Env.shut],by simp[Env.shut]⟩;rintro b hb ⟨id,o,ho,_⟩;simp[Env.shut]at ho
theorem z8t {P:Program} {n:Cf} {c:Code} {st:St} {Q Q':Ex->St->Prop} (h:Sem' P n c st Q) (hq:∀e s,Q e s->Q' e s):Sem' P n c st Q':=
 fun hok ctx a E hs=>wp_mono (h hok ctx a E hs) (by rintro e a' w' ⟨x,st',E',h1,h2,h3,h4⟩;exact⟨x,st',E',h1,h2,hq _ _ h3,h4⟩)
theorem z05 {P:Program} {n:Cf} {x y:Code} {st:St} {Q:Ex->St->Prop} (h:Sem' P n x st (zps (fun st'=>Sem' P n y st' Q) Q)):Sem' P n (.seq x y) st Q:=by
 intro hok ctx a E hs;simp only[okC,Bool.and_eq_true]at hok;refine wp_seq (wp_mono (h hok.1 ctx a E hs) ?_);rintro e a' w' ⟨k,st',E',rfl,rfl,hq,hs'⟩
 cases k with
 |normal=>exact hq hok.2 ctx a' E' hs'
 |exit id=>exact⟨.exit id,st',E',rfl,rfl,hq,hs'⟩
 |ret=>exact⟨.ret,st',E',rfl,rfl,hq,hs'⟩
 |goto l=>exact⟨.goto l,st',E',rfl,rfl,hq,hs'⟩
theorem yos {P:Program} {n:Cf} {x y z:Code} {st:St} {Q:Ex->St->Prop} (h:awpS P n [.code x,.code y] st (zps (fun st'=>Sem' P n z st' Q) Q)):Sem' P n (.seq x (.seq y z)) st Q:=by
 refine z05 (z8t (zg8 x st _ h) fun e s hq=>?_)
 cases e with
 |normal=>exact z05 (zg8 y s _ hq)
 |exit id=>exact hq
 |ret=>exact hq
 |goto l=>exact hq
theorem cutF {P:Program} {n:Cf} {id:Nat} {ops:Array Oper} {y:Code} {st:St} {Q:Ex->St->Prop} (kt:Nat) (S Fl FE:List Nat) (hm:P.follows .mixedOrders=true) (hb:(zu0 ops&&floB ops&&floL ops Fl FE&&decide (kt<ops.size)&&z0y ops kt)=true)
  (hw:awpS P n [.flo S Fl FE 0 (ops.toList.take kt),.ops ops (ops.toList.drop kt),.code y] st Q):Sem' P n (.seq (.region id ops true) y) st Q:=by
 simp only[Bool.and_eq_true,decide_eq_true_eq]at hb;obtain⟨⟨⟨⟨hd,hf⟩,hl⟩,hk⟩,hB⟩:=hb;refine z05 (yld (kt:=kt) S Fl FE hm hd hf hl hk hB ?_);refine awpF.mono (fun s hs=>?_) hw;refine awpOps.mono (fun s hs=>?_) hs;exact zg8 y s Q hs
section
variable {P:Program} {n:Cf} {Fs:List Fr} {Q:Ex->St->Prop}
theorem pT {f:FuncId} {fn:Func} {c:Code} {args:List V} {x:V} (hf:P.funcs[f]? =some fn) (h:Sem' P ⟨fn.ntmps,0⟩ c ⟨zl3 0 args,[]⟩ (endK P fn.results.toList fun v H=>v.view H=x/\x.lt 0=true))
 (hb:fn.body=some c:=by rfl) (hname:(fn.name== "runtime.NumGoroutine")=false:=by kernel_rfl) (hok:okC fn.ntmps c=true:=by kernel_rfl):Pu P f args x:=z7i hf hb hname hok h
theorem iF {f:FuncId} {fn:Func} {c:Code} {args:List V} {H:List O} {d:Option Nat} {S Fl FE:List Nat} {k:Nat} {rest:List Oper} {t:List (Nat×V)} (x:V) (H1:List O) (hf:P.funcs[f]? =some fn)
  (h:awpS P ⟨fn.ntmps,H.length⟩ [.code c] ⟨zl3 0 args,H⟩ (endK P fn.results.toList fun v H'=>v=x/\H'=H1))
  (hk:flA (FE.contains k) S H H1/\awpS P n (.flo S Fl FE (k+1) rest::Fs) (St.put ⟨t,H⟩ d x H1) Q)
  (hb:fn.body=some c:=by rfl) (hname:(fn.name== "runtime.NumGoroutine")=false:=by kernel_rfl) (hok:okC fn.ntmps c=true:=by kernel_rfl):CtF P n f args H d S Fl FE k rest Fs t Q:=
 ⟨x,H1,zt8 hf hb hname hok (zwr h),hk⟩
end
end Go.Lz

end
section
namespace Go.Lz
open Go.Proofs
attribute [-go_sem] zmz g_b gd_b
set_option maxRecDepth 100000
set_option maxHeartbeats 4000000
noncomputable section
def zes (r_:xsd) (aa:Nat):Nat->Option ((Nat)⊕(Int⊕Unit))
 |I=>if(I:Int)<4 then((r_.Memory.Blocks[aa]?).bind fun U=>if(I:Int)=0 then(if U.a0<(-2147483648)then(some (.inr (.inl (0))))else(if 1099511627776<U.a0 then(some (.inr (.inl (0))))else(some (.inl (I+1)))))else(if(I:Int)=1 then(if U.a1<(-2147483648)then(some (.inr (.inl (0))))else(if 1099511627776<U.a1 then(some (.inr (.inl (0))))else(some (.inl (I+1)))))else(if(I:Int)=2 then(if U.a2<(-2147483648)then(some (.inr (.inl (0))))else(if 1099511627776<U.a2 then(some (.inr (.inl (0))))else(some (.inl (I+1)))))else(if(I:Int)=3 then(if U.a3<(-2147483648)then(some (.inr (.inl (0))))else(if 1099511627776<U.a3 then(some (.inr (.inl (0))))else(some (.inl (I+1)))))else none))))else(some (.inr (.inr (()))))
def zhs (r_:xsd):Nat->Option ((Nat)⊕(Int⊕Unit))
 |I=>if(I:Int)<(r_.Memory.Blocks.length:Int)then((loop (zes r_ I) 0).bind (fun aa=>match aa with|(.inl U)=>some (.inr (.inl (U)))|(.inr ())=>some (.inl (I+1))))else(some (.inr (.inr (()))))
def zht (r_:xsd):Nat->Option ((Nat)⊕(Int⊕Unit))
 |I=>if(I:Int)<(r_.Left.length:Int)then((r_.Left[I]?).bind fun U=>if U<0 then(some (.inr (.inl (0))))else(if 4096<U then(some (.inr (.inl (0))))else((r_.Latches[I]?).bind fun aa=>if aa<0 then(some (.inr (.inl (0))))else(if 3<aa then(some (.inr (.inl (0))))else(some (.inl (I+1)))))))else(some (.inr (.inr (()))))
def zet (U:List Int) (ad:xr7):Nat->Option ((Nat)⊕(Int⊕Unit))
 |I=>if(I:Int)<(U.length:Int)then((U[I]?).bind fun aa=>(zav ad.Type_.Kind aa).bind fun ab=>if ab=true then(some (.inl (I+1)))else(some (.inr (.inl (0)))))else(some (.inr (.inr (()))))
def zhu (p:xrw) (r_:xsd):Nat->Option ((Nat)⊕(Int⊕Unit))
 |I=>if(I:Int)<(p.Vars.length:Int)then((r_.Memory.Cells[I]?).bind fun U=>(p.Vars[I]?).bind fun aa=>(zg4 aa.Type_).bind fun ad=>if(U.length:Int)=ad then((loop (zet U aa) 0).bind (fun ae=>match ae with|(.inl ab)=>some (.inr (.inl (ab)))|(.inr ())=>some (.inl (I+1))))else(some (.inr (.inl (0)))))else(some (.inr (.inr (()))))
def zg6 (p:xrw) (I:xsd):Option Int:=
 (zd8 p).bind fun ae=>if ae=0 then(some 0)else((zfd p).bind fun af=>if af=true then(if(I.Memory.Cells.length:Int)=(p.Vars.length:Int)then(if(I.Memory.Blocks.length:Int)=(p.Blocks.length:Int)then(if(I.Left.length:Int)=(p.Lattice.Names.length:Int)then(if(I.Latches.length:Int)=(p.Lattice.Names.length:Int)then(if 100<(I.Events.length:Int)then(some 0)else(if I.Now<0 then(some 0)else(if 1099511627776<I.Now then(some 0)else((loop (zhu p I) 0).bind (fun U=>match U with|(.inl aa)=>some aa|(.inr ())=>(loop (zht I) 0).bind (fun U=>match U with|(.inl ab)=>some ab|(.inr ())=>(loop (zhs I) 0).bind (fun U=>match U with|(.inl ad)=>some ad|(.inr ())=>some 1)))))))else(some 0))else(some 0))else(some 0))else(some 0))else(some 0))
def zfy (p:xrw) (e:xrx):Option Bool:=
 need (0<=(p.Lattice.Names.length:Int)/\8*(p.Lattice.Names.length:Int)<=140737488355328) ((zd8 (⟨p.Lattice,p.Sites,p.Vars,p.Blocks,[(⟨1,0,(List.replicate p.Lattice.Names.length 0),[(⟨2,[],(⟨0,0,0,[],[]⟩:xrx),e,[],[],[]⟩:xry)]⟩:xse)]⟩:xrw)).bind fun I=>if I=1 then((zfd (⟨p.Lattice,p.Sites,p.Vars,p.Blocks,[(⟨1,0,(List.replicate p.Lattice.Names.length 0),[(⟨2,[],(⟨0,0,0,[],[]⟩:xrx),e,[],[],[]⟩:xry)]⟩:xse)]⟩:xrw)).bind fun U=>some U)else(some false))
end
theorem zs2 {p:xrw} {U:xsd} {r:Int} (h:zg6 p U=some r):
  Pu Tryz.prog 7 [.agg (xr5 p),.agg (xsk U)] (.one (.int .i64 r)):=by
 have F:=trivial;have R:=trivial
 refine pA Tryz.func7 ?_;simp only[Tryz.f7];unfold zg6 at h;refine bi h fun bA h aH=>?_;refine tr ?_;intros;refine cS (zm2 aH) ?_;refine fi h F ?_ ?_<;>intro h _ F;cases h;exact fin;refine bi h fun bB h aI=>?_;refine tr ?_;intros;refine cS (zm1 aI) ?_;refine fv h F ?_ ?_<;>intro h _ F;refine tr ?_;intros;refine fi h F ?_ ?_<;>intro h _ F;refine tr ?_;intros;refine fi h F ?_ ?_<;>intro h _ F
 refine tr ?_;intros;refine fi h F ?_ ?_<;>intro h _ F;refine tr ?_;intros;refine fi h F ?_ ?_<;>intro h _ F;refine tr ?_;intros;refine fi h F ?_ ?_<;>intro h _ F;cases h;exact fin;refine fi h F ?_ ?_<;>intro h _ F;cases h;exact fin;refine tt ?_;refine fi h F ?_ ?_<;>intro h _ F;cases h;exact fin;refine bi h fun aW h aJ=>?_;refine tt ?_
 refine lX aJ (fun|aq,_=>⟨[(2,.one (.ref 0 0 0 0)),(3,.one (.ref 1 0 0 0)),(5,.one (.int .i64 (aq:Int)))],[.cells 0 6 [[.sl (p.Lattice.Names.map eS),.sl (p.Lattice.Below.map (eA2 eI)),.sl (p.Sites.map xrz),.sl (p.Vars.map xr0),.sl (p.Blocks.map xr1),.sl (p.Tasks.map xr2)]],.cells 0 6 [[.sl (U.Memory.Cells.map (eL eI)),.sl (U.Memory.Blocks.map (eA4 eI)),.sl (U.Left.map eI),.sl (U.Latches.map eI),.sl (U.Events.map xr8),.int .i64 U.Now]]]⟩) (fun|(.inl bl),_=>⟨[],[]⟩|(.inr ()),_=>⟨[(3,.one (.ref 1 0 0 0))],[.cells 0 6 [[.sl (p.Lattice.Names.map eS),.sl (p.Lattice.Below.map (eA2 eI)),.sl (p.Sites.map xrz),.sl (p.Vars.map xr0),.sl (p.Blocks.map xr1),.sl (p.Tasks.map xr2)]],.cells 0 6 [[.sl (U.Memory.Cells.map (eL eI)),.sl (U.Memory.Blocks.map (eA4 eI)),.sl (U.Left.map eI),.sl (U.Latches.map eI),.sl (U.Events.map xr8),.int .i64 U.Now]]]⟩) (fun|(.inl _)=>none|(.inr _)=>some 0) ?_ ?_
 intro i5 b5 aG
 rcases aW with ak|⟨⟩
 cases aG;obtain rfl:=Option.some.inj aG;obtain⟨⟩:=b5;dsimp only at h|-;refine bi h fun aK h aB=>?_;refine tt ?_
 refine lX aB (fun|ar,_=>⟨[(3,.one (.ref 1 0 0 0)),(8,.one (.int .i64 (ar:Int)))],[.cells 0 6 [[.sl (p.Lattice.Names.map eS),.sl (p.Lattice.Below.map (eA2 eI)),.sl (p.Sites.map xrz),.sl (p.Vars.map xr0),.sl (p.Blocks.map xr1),.sl (p.Tasks.map xr2)]],.cells 0 6 [[.sl (U.Memory.Cells.map (eL eI)),.sl (U.Memory.Blocks.map (eA4 eI)),.sl (U.Left.map eI),.sl (U.Latches.map eI),.sl (U.Events.map xr8),.int .i64 U.Now]]]⟩) (fun|(.inl bm),_=>⟨[],[]⟩|(.inr ()),_=>⟨[(3,.one (.ref 1 0 0 0))],[.cells 0 6 [[.sl (p.Lattice.Names.map eS),.sl (p.Lattice.Below.map (eA2 eI)),.sl (p.Sites.map xrz),.sl (p.Vars.map xr0),.sl (p.Blocks.map xr1),.sl (p.Tasks.map xr2)]],.cells 0 6 [[.sl (U.Memory.Cells.map (eL eI)),.sl (U.Memory.Blocks.map (eA4 eI)),.sl (U.Left.map eI),.sl (U.Latches.map eI),.sl (U.Events.map xr8),.int .i64 U.Now]]]⟩) (fun|(.inl _)=>none|(.inr _)=>some 4) ?_ ?_
 intro i18 aX aw
 rcases aK with ak|⟨⟩
 cases aw;obtain rfl:=Option.some.inj aw;obtain⟨⟩:=aX;dsimp only at h|-;refine bi h fun aL h aC=>?_;refine tt ?_
 refine lX aC (fun|an,_=>⟨[(3,.one (.ref 1 0 0 0)),(9,.one (.int .i64 (an:Int)))],[.cells 0 6 [[.sl (p.Lattice.Names.map eS),.sl (p.Lattice.Below.map (eA2 eI)),.sl (p.Sites.map xrz),.sl (p.Vars.map xr0),.sl (p.Blocks.map xr1),.sl (p.Tasks.map xr2)]],.cells 0 6 [[.sl (U.Memory.Cells.map (eL eI)),.sl (U.Memory.Blocks.map (eA4 eI)),.sl (U.Left.map eI),.sl (U.Latches.map eI),.sl (U.Events.map xr8),.int .i64 U.Now]]]⟩) (fun|(.inl bn),_=>⟨[],[]⟩|(.inr ()),_=>⟨[],[.cells 0 6 [[.sl (p.Lattice.Names.map eS),.sl (p.Lattice.Below.map (eA2 eI)),.sl (p.Sites.map xrz),.sl (p.Vars.map xr0),.sl (p.Blocks.map xr1),.sl (p.Tasks.map xr2)]],.cells 0 6 [[.sl (U.Memory.Cells.map (eL eI)),.sl (U.Memory.Blocks.map (eA4 eI)),.sl (U.Left.map eI),.sl (U.Latches.map eI),.sl (U.Events.map xr8),.int .i64 U.Now]]]⟩) (fun|(.inl _)=>none|(.inr _)=>some 6) ?_ ?_
 intro i24 aY ax
 rcases aL with ak|⟨⟩
 cases ax;obtain rfl:=Option.some.inj ax;obtain⟨⟩:=aY;dsimp only at h|-;cases h;exact fin;intro aM bC an aZ bD aa ai aN;obtain⟨⟩:=aZ;dsimp only[zhs]at aa|-;refine tr ?_;intros;refine fl aa F ?_ ?_<;>intro aa _ F;refine bi aa fun aO aa aD=>?_;refine tt ?_
 refine lX aD (fun|aj,_=>⟨[(3,.one (.ref 1 0 0 0)),(9,.one (.int .i64 (an:Int))),(10,.one (.int .i64 (aj:Int)))],[.cells 0 6 [[.sl (p.Lattice.Names.map eS),.sl (p.Lattice.Below.map (eA2 eI)),.sl (p.Sites.map xrz),.sl (p.Vars.map xr0),.sl (p.Blocks.map xr1),.sl (p.Tasks.map xr2)]],.cells 0 6 [[.sl (U.Memory.Cells.map (eL eI)),.sl (U.Memory.Blocks.map (eA4 eI)),.sl (U.Left.map eI),.sl (U.Latches.map eI),.sl (U.Events.map xr8),.int .i64 U.Now]]]⟩) (fun|(.inl bo),_=>⟨[],[]⟩|(.inr ()),_=>⟨[(3,.one (.ref 1 0 0 0)),(9,.one (.int .i64 (an:Int)))],[.cells 0 6 [[.sl (p.Lattice.Names.map eS),.sl (p.Lattice.Below.map (eA2 eI)),.sl (p.Sites.map xrz),.sl (p.Vars.map xr0),.sl (p.Blocks.map xr1),.sl (p.Tasks.map xr2)]],.cells 0 6 [[.sl (U.Memory.Cells.map (eL eI)),.sl (U.Memory.Blocks.map (eA4 eI)),.sl (U.Left.map eI),.sl (U.Latches.map eI),.sl (U.Events.map xr8),.int .i64 U.Now]]]⟩) (fun|(.inl _)=>none|(.inr _)=>some 8) ?_ ?_
 intro i27 a4 ay
 rcases aO with ak|⟨⟩
 cases ay;obtain rfl:=Option.some.inj ay;obtain⟨⟩:=a4;dsimp only at aa|-;cases aa;refine tt ?_;refine wn an F fun F=>?_;exact bk aN ai ();intro aP bE aj a6 bF I ae ao;obtain⟨⟩:=a6;dsimp only[zes]at I|-;refine fi I F ?_ ?_<;>intro I _ F;refine bx I F fun bp I bf F=>?_;refine tr ?_;intros;refine fe I F ?_ ?_<;>intro I _ F
 have F:=And.intro (show aj=0 by omega) F
 refine tr ?_;intros;refine fi I F ?_ ?_<;>intro I _ F;cases I;obtain rfl:=sr ae
 try dsimp only at aa
 cases aa;obtain rfl:=sr ai
 try dsimp only at h
 cases h;exact fin;refine fi I F ?_ ?_<;>intro I _ F;cases I;obtain rfl:=sr ae
 try dsimp only at aa
 cases aa;obtain rfl:=sr ai
 try dsimp only at h
 cases h;exact fin;cases I;refine tt ?_;refine wn aj F fun F=>?_;exact bk ao ae ();refine tr ?_;intros;refine fe I F ?_ ?_<;>intro I _ F
 have F:=And.intro (show aj=1 by omega) F
 refine tr ?_;intros;refine fi I F ?_ ?_<;>intro I _ F;cases I;obtain rfl:=sr ae
 try dsimp only at aa
 cases aa;obtain rfl:=sr ai
 try dsimp only at h
 cases h;exact fin;refine fi I F ?_ ?_<;>intro I _ F;cases I;obtain rfl:=sr ae
 try dsimp only at aa
 cases aa;obtain rfl:=sr ai
 try dsimp only at h
 cases h;exact fin;cases I;refine tt ?_;refine wn aj F fun F=>?_;exact bk ao ae ();refine tr ?_;intros;refine fe I F ?_ ?_<;>intro I _ F
 have F:=And.intro (show aj=2 by omega) F
 refine tr ?_;intros;refine fi I F ?_ ?_<;>intro I _ F;cases I;obtain rfl:=sr ae
 try dsimp only at aa
 cases aa;obtain rfl:=sr ai
 try dsimp only at h
 cases h;exact fin;refine fi I F ?_ ?_<;>intro I _ F;cases I;obtain rfl:=sr ae
 try dsimp only at aa
 cases aa;obtain rfl:=sr ai
 try dsimp only at h
 cases h;exact fin;cases I;refine tt ?_;refine wn aj F fun F=>?_;exact bk ao ae ();refine tr ?_;intros;refine fe I F ?_ ?_<;>intro I _ F
 have F:=And.intro (show aj=3 by omega) F
 refine tr ?_;intros;refine fi I F ?_ ?_<;>intro I _ F;cases I;obtain rfl:=sr ae
 try dsimp only at aa
 cases aa;obtain rfl:=sr ai
 try dsimp only at h
 cases h;exact fin;refine fi I F ?_ ?_<;>intro I _ F;cases I;obtain rfl:=sr ae
 try dsimp only at aa
 cases aa;obtain rfl:=sr ai
 try dsimp only at h
 cases h;exact fin;cases I;refine tt ?_;refine wn aj F fun F=>?_;exact bk ao ae ();cases I;cases I;refine tt ?_;exact xt ae aP ();cases aa;refine tt ?_;exact xt ai aM ();intro aQ bG ar a7 bH ab al aR;obtain⟨⟩:=a7;dsimp only[zht]at ab|-;refine tr ?_;intros;refine fl ab F ?_ ?_<;>intro ab _ F;refine bx ab F fun bq ab bg F=>?_;refine tr ?_;intros;refine fi ab F ?_ ?_<;>intro ab _ F;cases ab
 obtain rfl:=sr al
 try dsimp only at h
 cases h;exact fin;refine tr ?_;intros;refine fi ab F ?_ ?_<;>intro ab _ F;cases ab;obtain rfl:=sr al
 try dsimp only at h
 cases h;exact fin;refine bx ab F fun br ab bh F=>?_;refine tr ?_;intros;refine fi ab F ?_ ?_<;>intro ab _ F;cases ab;obtain rfl:=sr al
 try dsimp only at h
 cases h;exact fin;refine tr ?_;intros;refine fi ab F ?_ ?_<;>intro ab _ F;cases ab;obtain rfl:=sr al
 try dsimp only at h
 cases h;exact fin;cases ab;refine tt ?_;refine wn ar F fun F=>?_;exact bk aR al ();cases ab;refine tt ?_;exact xt al aQ ();intro a8 m5 aq a5 o5 ad av a9;obtain⟨⟩:=a5;dsimp only[zhu]at ad|-;refine tr ?_;intros;refine fl ad F ?_ ?_<;>intro ad _ F;refine bx ad F fun ba ad bs F=>?_;refine bx ad F fun bI ad bt F=>?_;refine bi ad fun bJ ad aS=>?_;refine tr ?_;intros;refine cS (zs0 aS) ?_
 refine fi ad F ?_ ?_<;>intro ad _ F;refine bi ad fun aT ad aE=>?_;refine tt ?_
 refine lX aE (fun|az,_=>⟨[(2,.one (.ref 0 0 0 0)),(3,.one (.ref 1 0 0 0)),(5,.one (.int .i64 (aq:Int))),(6,.one (.sl (ba.map eI))),(7,.one (.int .i64 (az:Int)))],[.cells 0 6 [[.sl (p.Lattice.Names.map eS),.sl (p.Lattice.Below.map (eA2 eI)),.sl (p.Sites.map xrz),.sl (p.Vars.map xr0),.sl (p.Blocks.map xr1),.sl (p.Tasks.map xr2)]],.cells 0 6 [[.sl (U.Memory.Cells.map (eL eI)),.sl (U.Memory.Blocks.map (eA4 eI)),.sl (U.Left.map eI),.sl (U.Latches.map eI),.sl (U.Events.map xr8),.int .i64 U.Now]]]⟩) (fun|(.inl bu),_=>⟨[],[]⟩|(.inr ()),_=>⟨[(2,.one (.ref 0 0 0 0)),(3,.one (.ref 1 0 0 0)),(5,.one (.int .i64 (aq:Int)))],[.cells 0 6 [[.sl (p.Lattice.Names.map eS),.sl (p.Lattice.Below.map (eA2 eI)),.sl (p.Sites.map xrz),.sl (p.Vars.map xr0),.sl (p.Blocks.map xr1),.sl (p.Tasks.map xr2)]],.cells 0 6 [[.sl (U.Memory.Cells.map (eL eI)),.sl (U.Memory.Blocks.map (eA4 eI)),.sl (U.Left.map eI),.sl (U.Latches.map eI),.sl (U.Events.map xr8),.int .i64 U.Now]]]⟩) (fun|(.inl _)=>none|(.inr _)=>some 2) ?_ ?_
 intro i11 bb aA
 rcases aT with ak|⟨⟩
 cases aA;obtain rfl:=Option.some.inj aA;obtain⟨⟩:=bb;dsimp only at ad|-;cases ad;refine tt ?_;refine wn aq F fun F=>?_;exact bk a9 av ();intro aU bK az bc bL af au aV;obtain⟨⟩:=bc;dsimp only[zet]at af|-;refine tr ?_;intros;refine fl af F ?_ ?_<;>intro af _ F;refine bx af F fun bw af bj F=>?_;refine bi af fun bz af aF=>?_;refine tr ?_;intros;refine cD (zd3 aF) ?_;refine tr ?_;intros
 refine fv af F ?_ ?_<;>intro af _ F;cases af;refine tt ?_;refine wn az F fun F=>?_;exact bk aV au ();cases af;obtain rfl:=sr au
 try dsimp only at ad
 cases ad;obtain rfl:=sr av
 try dsimp only at h
 cases h;exact fin;cases af;refine tt ?_;exact xt au aU ();cases ad;obtain rfl:=sr av
 try dsimp only at h
 cases h;exact fin;cases ad;refine tt ?_;exact xt av a8 ();cases h;exact fin;cases h;exact fin;cases h;exact fin;cases h;exact fin;cases h;exact fin
theorem zrq {p:xrw} {e:xrx} {r:Bool} (h:zfy p e=some r):
  Pu Tryz.prog 8 [.agg (xr5 p),.agg (xr3 e)] (.one (.bool r)):=by
 have F:=trivial;have R:=trivial
 refine pA Tryz.func8 ?_;simp only[Tryz.f8];unfold zfy at h;refine nd h F fun h F=>?_
 have R:=And.intro (show List.replicate p.Lattice.Names.length [.int .i64 0]=List.map eI (List.replicate p.Lattice.Names.length 0) by simp[go_sem]) R
 refine bi h fun aa h I=>?_;refine tr ?_;intros;refine cS (zm2 I) ?_;refine fi h F ?_ ?_<;>intro h _ F;refine bi h fun ab h U=>?_;refine tr ?_;intros;refine cS (zm1 U) ?_;cases h;exact fin;cases h;exact fin
end Go.Lz

end
section
namespace Go.Lz
theorem zt5 {n:Nat} {g:Nat->Prop} {c:Int} {f:Nat->Option (Nat⊕(Int⊕Unit))} (step:∀i,i<n->Tot (f i) fun r=>r=.inl (i+1)/\g i\/r=.inr (.inl c)) (last:f n=some (.inr (.inr ()))):
  Tot (loop f 0) fun r=>r=.inl c\/r=.inr ()/\∀i,i<n->g i:=by
 refine Tot.loop (fun i=>i<=n/\∀j,j<i->g j) (fun i=>n-i) ⟨Nat.zero_le _,fun _ h=>by omega⟩ fun i ⟨hi,hI⟩=>?_
 by_cases h:i<n
 ·obtain⟨r,h1,h2⟩:=step i h
  refine⟨r,h1,?_⟩
  rcases h2 with⟨rfl,h2⟩|rfl
  ·exact⟨⟨h,fun j I=>by by_cases e:j=i;exact e▸h2;exact hI j (by omega)⟩,by simp only;omega⟩
  ·exact .inl rfl
 ·have:i=n:=by omega
  subst this;exact⟨_,last,.inr ⟨rfl,hI⟩⟩
structure FitR (p:xrw) (r:xsd):Prop where
 G:zok p
 L:Lat p.Lattice
 nc:r.Memory.Cells.length=p.Vars.length
 nb:r.Memory.Blocks.length=p.Blocks.length
 nl:r.Left.length=p.Lattice.Names.length
 nt:r.Latches.length=p.Lattice.Names.length
 ne:r.Events.length<=100
 now:0<=r.Now/\r.Now<=1099511627776
 cells:∀(i:Nat) v c,p.Vars[i]? =some v->r.Memory.Cells[i]? =some c->c.length=zw0 v.Type_/\∀x∈c,okV v.Type_.Kind x
 lab:∀v∈p.Vars,inN p.Lattice v.Label
 left:∀(i:Nat) a b,r.Left[i]? =some a->r.Latches[i]? =some b->(0<=a/\a<=4096)/\0<=b/\b<=3
theorem zop {g:Prop} {i:Nat} {c:Int}:Tot (some (.inr (.inl c)):Option (Nat⊕(Int⊕Unit))) fun r=>r=.inl (i+1)/\g\/r=.inr (.inl c):=Tot.mk (.inr rfl)
theorem go_i {g:Prop} {i:Nat} {c:Int} (h:g):Tot (some (.inl (i+1)):Option (Nat⊕(Int⊕Unit))) fun r=>r=.inl (i+1)/\g\/r=.inr (.inl c):=Tot.mk (.inl ⟨rfl,h⟩)
theorem zxl {c:Int} {a:Prop} {x:Option (Int⊕Unit)} (h:Tot x fun r=>r=.inl c\/r=.inr ()/\a) {k:Int⊕Unit->Option Int} {S:Int->Prop} (k0:Tot (k (.inl c)) S) (I:a->Tot (k (.inr ())) S):Tot (x.bind k) S:=by
 obtain⟨r,rfl,h⟩:=h
 rcases h with rfl|⟨rfl,h⟩
 ·exact k0
 ·exact I h
theorem ylh (p:xrw) (r:xsd):Tot (zg6 p r) fun n=>n=0\/FitR p r/\n=1:=by
 unfold zg6
 rcases ylj p with e|⟨e,hd⟩
 ·rw[e];exact Tot.mk (.inl rfl)
 rw[e,Option.bind_some,if_neg (by decide)]
 have no:Tot (some (0:Int)) fun n=>n=0\/FitR p r/\n=1:=Tot.mk (.inl rfl)
 refine(yku hd).bind fun b hb=>Tot.ite (fun U=>?_) fun _=>no;obtain⟨G,L,_,_,l,i1,i2,_,_,⟨_,i3⟩,_⟩:=hb U
 have lab:∀v∈p.Vars,inN p.Lattice v.Label:=fun v hv=>by
  obtain⟨i,hi,rfl⟩:=List.getElem_of_mem hv
  have h1:i<l.length:=by omega
  rw[i3 i hi h1];exact ydj G hd L i1 _ (List.getElem_mem h1)
 refine Tot.ite (fun nc=>Tot.ite (fun nb=>Tot.ite (fun nl=>Tot.ite (fun nt=>Tot.ite (fun _=>no) fun ne=>Tot.ite (fun _=>no) fun n0=>Tot.ite (fun _=>no) fun n1=>?_) fun _=>no) fun _=>no) fun _=>no) fun _=>no;refine zxl (zt5 (n:=p.Vars.length) (g:=fun i=>∀v c,p.Vars[i]? =some v->r.Memory.Cells[i]? =some c->c.length=zw0 v.Type_/\∀x∈c,okV v.Type_.Kind x) (fun i hi=>?_) (by simp[zhu])) no fun hc=>?_
 ·unfold zhu
  have h1:i<r.Memory.Cells.length:=by omega
  rw[if_pos (by omega),List.getElem?_eq_getElem h1,Option.bind_some,List.getElem?_eq_getElem hi,Option.bind_some,ygg,Option.bind_some];refine Tot.ite (fun hs=>?_) fun _=>zop
  have L2:=zt5 (n:=r.Memory.Cells[i].length) (c:=0) (g:=fun k=>∀x,r.Memory.Cells[i][k]? =some x->okV p.Vars[i].Type_.Kind x) (f:=zet r.Memory.Cells[i] p.Vars[i]) (fun k hk=>by
   unfold zet;rw[if_pos (by omega),List.getElem?_eq_getElem hk,Option.bind_some];obtain⟨b,hb,_⟩:=zwz p.Vars[i].Type_.Kind r.Memory.Cells[i][k];rw[hb,Option.bind_some];refine Tot.ite (fun U=>go_i fun x hx=>?_) fun _=>zop;cases hx
   exact z8d (by rw[hb,U])) (by simp[zet])
  obtain⟨q,e1,I⟩:=L2;rw[e1,Option.bind_some]
  rcases I with rfl|⟨rfl,I⟩
  ·exact zop
  ·refine go_i fun v c hv hc=>?_
   cases hv;cases hc;refine⟨by omega,fun x hx=>?_⟩;obtain⟨k,hk,rfl⟩:=List.getElem_of_mem hx;exact I k hk _ (List.getElem?_eq_getElem hk)
 refine zxl (zt5 (n:=r.Left.length) (g:=fun i=>∀a b,r.Left[i]? =some a->r.Latches[i]? =some b->(0<=a/\a<=4096)/\0<=b/\b<=3) (fun i hi=>?_) (by simp[zht])) no fun hl=>?_
 ·unfold zht
  have h1:i<r.Latches.length:=by omega
  rw[if_pos (by omega),List.getElem?_eq_getElem hi,Option.bind_some,List.getElem?_eq_getElem h1]
  exact Tot.ite (fun _=>zop) fun a0=>Tot.ite (fun _=>zop) fun a1=>Tot.ite (fun _=>zop) fun b0=>Tot.ite (fun _=>zop) fun b1=>go_i fun a b ha hb=>by
   cases ha;cases hb;omega
 refine zxl (zt5 (n:=r.Memory.Blocks.length) (g:=fun i=>True) (fun i hi=>?_) (by simp[zhs])) no fun _=>Tot.mk (.inr ⟨⟨G,L,by omega,by omega,by omega,by omega,by omega,by omega,fun i v c hv aa=>hc i (List.getElem?_eq_some_iff.1 hv).1 v c hv aa,lab,fun i a b ha hb=>hl i (List.getElem?_eq_some_iff.1 ha).1 a b ha hb⟩,rfl⟩);unfold zhs;rw[if_pos (by omega)]
 have L5:=zt5 (n:=4) (c:=0) (g:=fun k=>True) (f:=zes r i) (fun k hk=>by
  unfold zes;rw[if_pos (by omega),List.getElem?_eq_getElem hi,Option.bind_some]
  exact Tot.ite (fun _=>Tot.ite (fun _=>zop) fun _=>Tot.ite (fun _=>zop) fun _=>go_i trivial) fun k0=>Tot.ite (fun _=>Tot.ite (fun _=>zop) fun _=>Tot.ite (fun _=>zop) fun _=>go_i trivial) fun k1=>Tot.ite (fun _=>Tot.ite (fun _=>zop) fun _=>Tot.ite (fun _=>zop) fun _=>go_i trivial) fun k2=>Tot.ite (fun _=>Tot.ite (fun _=>zop) fun _=>Tot.ite (fun _=>zop) fun _=>go_i trivial) fun k3=>by omega) (by simp[zes])
 obtain⟨q,e1,I⟩:=L5;rw[e1,Option.bind_some]
 rcases I with rfl|⟨rfl,I⟩
 ·exact zop
 ·exact go_i trivial
theorem z41 {p:xrw} (G:zok p) (h:zbe p=some 0):∀t∈p.Tasks,zcz p t.Body=some true:=by
 have P:=G.P
 have key:Tot (zbe p) fun r=>r=6\/∀t∈p.Tasks,zcz p t.Body=some true:=by
  unfold zbe
  have I:Tot (some (6:Int)) fun r=>r=6\/∀t∈p.Tasks,zcz p t.Body=some true:=Tot.mk (.inl rfl)
  refine zxl (zt5 (n:=p.Vars.length) (g:=fun i=>True) (fun i hi=>?_) (by simp[zd0])) I fun _=>?_
  ·unfold zd0
   rw[if_pos (by omega),List.getElem?_eq_getElem hi,Option.bind_some];exact(z8f _).bind fun _ _=>Tot.ite (fun _=>Tot.ite (fun _=>(zwz _ _).bind fun _ _=>Tot.ite (fun _=>go_i trivial) fun _=>zop) fun _=>Tot.ite (fun _=>(zwz _ _).bind fun _ _=>Tot.ite (fun _=>go_i trivial) fun _=>zop) fun _=>zop) fun _=>zop
  refine zxl (zt5 (n:=p.Blocks.length) (g:=fun i=>True) (fun i hi=>?_) (by simp[zdz])) I fun _=>?_
  ·unfold zdz
   rw[if_pos (by omega),List.getElem?_eq_getElem hi,Option.bind_some];exact(yhe _).bind fun _ _=>Tot.ite (fun _=>zop) fun _=>go_i trivial
  refine zxl (zt5 (n:=p.Tasks.length) (g:=fun i=>∀t,p.Tasks[i]? =some t->zcz p t.Body=some true) (fun i hi=>?_) (by simp[zdy])) I fun ht=>Tot.mk (.inr fun t aa=>?_)
  ·unfold zdy
   rw[if_pos (by omega),List.getElem?_eq_getElem hi,Option.bind_some]
   have hm:=List.getElem_mem hi
   obtain⟨b,hb,_⟩:=z01 P 1000000 p.Tasks[i].Body (G.T _ hm).ok (G.d _ hm) (by have:=G.d _ hm;omega)
   have U:zcz p p.Tasks[i].Body=some b:=hb
   rw[U,Option.bind_some];refine Tot.ite (fun h=>go_i fun t ht=>?_) fun _=>zop;cases ht;rw[U,h]
  ·obtain⟨i,hi,rfl⟩:=List.getElem_of_mem aa
   exact ht i hi _ (List.getElem?_eq_getElem hi)
 obtain⟨r,h1,h2⟩:=key;rw[h]at h1;cases h1
 rcases h2 with h2|h2
 ·omega
 ·exact h2
abbrev zxo (p:xrw) (e:xrx):xrw:=⟨p.Lattice,p.Sites,p.Vars,p.Blocks,[(⟨1,0,(List.replicate p.Lattice.Names.length 0),[(⟨2,[],(⟨0,0,0,[],[]⟩:xrx),e,[],[],[]⟩:xry)]⟩:xse)]⟩
theorem z0f {p:xrw} {e:xrx}:∀(n:Nat) (x:xrx),zan n (zxo p e) x=zan n p x
 |0,x=>rfl
 |n+1,x=>by
  show zaq (zan n) (zxo p e) x=zaq (zan n) p x
  unfold zaq;simp only[zpu,zmp,ztc,z0f n];rfl
theorem yfu {p:xrw} (h:p.Lattice.Names.length<=1000) (e:xrx):Tot (zfy p e) fun b=>b=true->GoodE e/\zfh p e=1:=by
 unfold zfy;rw[zf3 (by omega)]
 have no:Tot (some false) fun b=>b=true->GoodE e/\zfh p e=1:=Tot.mk fun h=>by cases h
 rcases ylj (zxo p e)with q|⟨q,hd⟩
 ·rw[q];exact no
 rw[q,Option.bind_some,if_pos rfl];refine(yku hd).bind fun b hb=>Tot.mk fun U=>?_;obtain⟨G,_,_,hc,_⟩:=hb U
 have ht:(⟨1,0,(List.replicate p.Lattice.Names.length 0),[(⟨2,[],(⟨0,0,0,[],[]⟩:xrx),e,[],[],[]⟩:xry)]⟩:xse)∈(zxo p e).Tasks:=by simp
 have F:=zyj (zwc (G.T _ ht).ok (⟨2,[],(⟨0,0,0,[],[]⟩:xrx),e,[],[],[]⟩:xry) (by simp))
 have K:=F.kinds
 have g:GoodE e:=by
  rcases K with h|h|h|h
  ·exact absurd h.1 (by simp)
  ·exact h.2.2.2
  ·exact absurd h.1 (by simp)
  ·exact absurd h.1 (by simp)
 refine⟨g,?_⟩
 have hs:=z41 G hc _ ht
 have hk:zam (zxo p e) e=some (zfh p e):=by
  have e1:zam (zxo p e) e=zam p e:=z0f 1000000 e
  have e2:zfh (zxo p e) e=zfh p e:=by unfold zfh;rw[e1]
  have e3:=(zqi G.P g).1
  rw[e2]at e3;exact e3
 have I:zcd (zc6 999999) (zxo p e) [(⟨2,[],(⟨0,0,0,[],[]⟩:xrx),e,[],[],[]⟩:xry)]=some true:=hs
 unfold zcd at I
 by_cases k1:zfh p e=1
 ·exact k1
 ·exfalso
  rw[zcj (r:=.inl false) (by
   simp only[zf4];rw[if_pos (by simp),List.getElem?_cons_zero,Option.bind_some];unfold zfe;rw[if_neg (by simp),if_pos (by simp),hk]
   simp[k1])]at I
  cases I
end Go.Lz

end
section
namespace Go.Lz
open Go.Proofs Go.RowKit
attribute [-go_sem] zmz g_b gd_b
set_option maxRecDepth 100000
set_option maxHeartbeats 1000000
theorem yhi {p:xrw} {e:xrx} {b:Bool} (I:Pu Tryz.prog 194 [.agg (xr5 p),.agg (xr3 e),.un] (.one (.bool b))):Pu Tryz.prog 193 [.un,.one (.iptr (xr5 p) 0),.one (.iptr (xr3 e) 0)] (.tup []):=by
 have F:=trivial;have R:=trivial
 refine pA Tryz.func193 ?_;simp only[Tryz.f193];refine tt ?_;refine cS I ?_;exact fin
theorem yaa {p:xrw} {labels:List Int} {e:xrx} {lr:List Int} {r:Int} (ak:Pu Tryz.prog 175 [.agg (xr5 p),.one (.sl (labels.map eI))] (.one (.sl (lr.map eI))))
  (ab:Pu Tryz.prog 194 [.agg (xr5 p),.agg (xr3 e),.un] (.one (.bool true))) (al:Pu Tryz.prog 177 [.agg (xsf p.Lattice),.one (.sl [])] (.one (.int .i64 r))):
  Pu Tryz.prog 149 [.agg (xr5 p),.one (.sl (labels.map eI)),.agg (xr3 e)] (.one (.int .i64 r)):=by
 have F:=trivial;have R:=trivial
 refine zxx (.inl ⟨_,_,rfl⟩) (z6q 4 Tryz.func149 fun E a hH hs=>?_);simp only[Tryz.f149]
 have hs:SR E ⟨39,0⟩ ⟨zl3 0 [.agg (xr5 p),.one (.sl (labels.map eI)),.agg (xr3 e)],[]⟩ a E:=hs
 refine zmo hs (st':= ?s1) ?h1 ?r1
 case h1=>
  intro K k;refine tt ?_;exact k
 case r1=>
 intro a1 E1 ao;refine zmo ao (st':= ?s2) ?h2 ?r2
 case h2=>
  intro K k;refine tt ?_;exact k
 case r2=>
 intro a2 E2 aq;refine zmo aq (st':= ?s3) ?h3 ?r3
 case h3=>
  intro K k;refine tt ?_;refine cS ak ?_;refine tt ?_;exact k
 case r3=>
 intro a3 E3 ar;refine zmo ar (st':= ?s4) ?h4 ?r4
 case h4=>
  intro K k;refine tt ?_;exact k
 case r4=>
 intro a4 E4 au;refine wp_seq ?_;refine zmo au (st':= ?s5) ?h5 ?r5
 case h5=>
  intro K k;refine tt ?_;refine iS Tryz.func176 ?_;simp only[Tryz.f176];refine tt ?_;exact k
 case r5=>
 intro a5 U I;refine wp_block ((wpIn_wide (n:=4)).1 ?_);obtain⟨vs,an,av,ae⟩:=z3d (I.ρ (.tmp 18));obtain⟨v6,af⟩:∃v,v=vs.getD 0 undef:=⟨_,rfl⟩;obtain⟨v7,ai⟩:∃v,v=vs.getD 1 undef:=⟨_,rfl⟩
 have c6:=z0u I.rel (ae 0 _ rfl)
 have c7:=z0u I.rel (ae 1 _ rfl)
 rw[I.H,<-af]at c6;rw[I.H,<-ai]at c7;simp-implicitDefEqProofs only[go_sem,Nat.reduceAdd,Nat.reduceMul,Nat.reduceLeDiff,Nat.reduceEqDiff,Nat.reduceLT,Int.reduceLE,Int.reduceLT,Int.reduceNeg,Int.reduceEq,Int.reduceAdd,Int.reduceSub,Int.reduceToNat,reduceCtorEq,↓reduceIte]at c6 c7
 refine wpIn_rangeFunc_ownF (α:=Empty) rfl (by omega) an trivial (zxv ⟨Tryz.f193,Tryz.func193,by kernel_rfl,by kernel_rfl⟩) (encs:=fun x=>x.elim) (Kp:=fun _ _=>True) (S:=fun _=>True) (Sp:=fun _=>False) (N:=0) (w0:=U.w) ?_ (fun _ _=>trivial) (fun _ _ _ _ _ _ _ _=>trivial) (Below.refl _ _) (fun x=>x.elim)
  (fun _ W=>Below U.w.heap.size U.w W) (fun _ _ _=>False) (ownFrom_below (Nat.le_refl _) (Nat.le_refl _)) (fun _ _ _ _ _ h=>h.elim) (Below.refl _ _) (fun x=>x.elim) (fun _ x=>x.elim) (fun _ _ x=>x.elim) ?_ (fun _ _ _ _ _ h=>h.elim)
 ·intro l J Jx W hb hJ aD aw ax
  refine callsIn_wide.2 ?_;obtain⟨t,hh⟩:=zie (zug I.rel) W hb.size hb.os hb.tape hb.output (fun b h=>hb.block b h)
  have ad:∀(j:Nat) (x:V),[V.un,V.one (.iptr (xr5 p) 0),V.one (.iptr (xr3 e) 0)][j]? =some x->VRel ({U.shut with w:=W}:Env) x ((#[Value.func (.yield l) #[] #[]]++vs).getD j undef):=by
   intro j x hx
   match j with
   |0=>simp at hx;subst hx;exact .un
   |1=>simp at hx;subst hx;exact .one (by rw[xsm,show(#[Value.func (.yield l) #[] #[]]++vs).getD 1 undef=v6 by rw[af];simp[Array.getElem?_append]];exact c6.trans t)
   |2=>simp at hx;subst hx;exact .one (by rw[xss,show(#[Value.func (.yield l) #[] #[]]++vs).getD 2 undef=v7 by rw[ai];simp[Array.getElem?_append]];exact c7.trans t)
   |j+3=>simp at hx
  have hc:=(yhi ab).2 ({U.shut with w:=W}:Env) (#[Value.func (.yield l) #[] #[]]++vs) hh rfl (by simp[av]) ad
  refine Calls.mono hc ?_;rintro e' w' ⟨v,x,E',rfl,rfl,_,hv,aE,ay⟩;exact⟨⟨v,rfl⟩,.inl ⟨[],trivial,hJ _ W _ none ax (z1n ay rfl) (fun r e=>by cases e)⟩⟩
 ·intro D xs W hle _ hI hD
  have az:({a5 with defers:={target:=Target.collected D,args:= #[]}::a5.defers}:Act)=addD [{target:=Target.collected D,args:= #[]}] a5:=by simp[addD,I.defers]
  rw[az]
  show Code.wp Tryz.prog _ _ (addD [{target:=.collected D,args:= #[]}] a5) W
  obtain⟨t6,aj⟩:=zie I.rel W hI.size hI.os hI.tape hI.output (fun b h=>hI.block b h)
  have aA:SR ⟨W,U.Fr,U.bd,U.H⟩ ⟨39,8⟩ _ a5 ⟨W,U.Fr,U.bd,U.H⟩:=⟨I.len,by rw[I.H];exact Nat.le_refl _,I.defers,fun i=>(I.tm i).trans t6,I.H,aj,Trans.refl _⟩
  refine wp_seq (wp_region (zs5 (Q:=fun e a' w'=>e=.normal/\∃E',E'.w=w'/\SR ⟨W,U.Fr,U.bd,U.H⟩ ⟨39,8⟩ ?s7 a' E') ?hq _ a5 W (z80 (id:=9) aA (st':= ?s7) ?h7 ?hQ)))
  case h7=>
   intro K k;refine tt ?_;refine cS al ?_;refine tt ?_;exact k
  case hQ=>exact fun a' E' h=>⟨rfl,E',rfl,h⟩
  case hq=>
   rintro e' a' w' ⟨rfl,E7,rfl,aa⟩;refine wp_ret ?_
   have aB:E7.w.heap[D]? =some (.deferred (some [])):=by
    rw[aa.tr.keep D (Array.getElem?_eq_some_iff.1 hD).1 (znc aj hD)];exact hD
   have aC:SR E ⟨39,0⟩ _ a' E7:=⟨aa.len,by rw[hH];exact Nat.le_refl _,aa.defers,aa.tm,aa.H,aa.rel,(I.tr.trans t6).trans aa.tr⟩
   have h9:=zw7 (P:=Tryz.prog) (n:=4) (fn:=Tryz.f149) (K:=fun v _=>v=.one (.int .i64 r)) aC aB (Nat.le_trans I.tr.size hle) (by simp[go_sem,Nat.reduceAdd,Nat.reduceMul,Nat.reduceLeDiff,Nat.reduceEqDiff,Nat.reduceLT,Int.reduceLE,Int.reduceLT,Int.reduceNeg,Int.reduceEq,Int.reduceAdd,Int.reduceSub,Int.reduceToNat,reduceCtorEq,↓reduceIte,resK,zjz,Tryz.f149])
   show LeavesInM _ _ _ _ a'.tmps _ (a'.defers++_) _ _
   rw[aa.defers];exact h9
end Go.Lz

end
section
namespace Go.Lz
theorem ya9 {P:Program} {f:FuncId} {fn:Func} {c:Code} (hf:P.funcs[f]? =some fn) (hb:fn.body=some c) (aa:(fn.name== "runtime.NumGoroutine")=false) (ad:okC fn.ntmps c=true)
  {args:List V} {H:List O} {K:V->List O->Prop} (h:∀(E:Env) (a:Act),E.H=H->(∀(j:Nat) (x:V),args[j]? =some x->VRel E x (a.tmps.getD j undef))->SR E ⟨fn.ntmps,H.length⟩ ⟨zl3 0 args,H⟩ a E->c.wp P (zzu P ⟨fn.ntmps,H.length⟩ (endK P fn.results.toList K) E) a E.w):Ct P f args H K:=by
 refine⟨⟨fn,hf,aa,by simp[hb]⟩,fun E vs hE hH hn hv=>?_⟩
 have hs:SR E ⟨fn.ntmps,H.length⟩ ⟨zl3 0 args,H⟩ {tmps:=vs++Array.replicate (fn.ntmps-vs.size) undef,defers:=[]} E:=by
  refine⟨by simp;omega,by rw[hH];exact Nat.le_refl _,rfl,fun i=>?_,hH,hE,Trans.refl E⟩;simp only[znu,Nat.zero_le,if_true,Nat.sub_zero];simp only[List.getD_eq_getElem?_getD]
  cases hx:args[i]? with
  |none=>simp only[Option.getD_none];exact .un
  |some x=>
   have ab:i<vs.size:=by rw[hn];exact(List.getElem?_eq_some_iff.1 hx).1
   have:=hv i x hx
   simp only[Option.getD_some];rw[Array.getD_eq_getD_getElem?]at this|-;rw[Array.getElem?_append_left ab];exact this
 refine calls_of_wp hf hb (wp_mono (h E _ hH (fun j x hx=>by
  have:=hs.tm j
  rw[znu]at this
  simpa [List.getD_eq_getElem?_getD,hx]using this) hs) ?_)
 rintro e a' w' ⟨x,st',E',rfl,rfl,hq,U⟩
 have fin:resK P fn.results.toList st' K->a'.defers=[]/\∃v,(results fn a'.tmps).run P E'.w=.ok v E'.w/\(∃v' x I,Ending.returned v=.returned v'/\I.w=E'.w/\K x I.H/\VRel I x v'/\HRel I/\Trans E I):=by
  intro hk;obtain⟨v,y,h1,h2,h3⟩:=z5t U hk;exact⟨U.defers,v,h1,v,y,E',rfl,rfl,h3,h2,U.rel,U.tr⟩
 cases x with
 |normal=>exact fin hq
 |exit id=>exact hq.elim
 |ret=>exact fin hq
 |goto l=>exact hq.elim
theorem yhj {P:Program} {E:Env} (hE:HRel E) {t e s b:Nat} (ht:tSl P t=some (e,s,b)):Good P E (Instr.buildSlice t 0 #[]) ⟨True,True,.one (.slf []),E.H⟩:=by
 intro _;obtain⟨ie,hu,U,hs,hb⟩:=zh7 ht
 have I:(Instr.buildSlice t 0 #[]).run P E.w=.ok (.slice (some ⟨E.w.heap.size,0,none⟩) 0 0) (E.w.alloc (.cells ((Array.range 0).map fun _=>(default:Value)) e)):=by
  simp[Instr.buildSlice,run_underlying hu,sizeOf,typeInfo,U,newRow,Instr.fill]
 obtain⟨tr,hh⟩:=zie hE (E.w.alloc (.cells ((Array.range 0).map fun _=>(default:Value)) e)) (by simp) rfl rfl rfl (fun b hb=>by first|exact heap_alloc_old E.w _ b hb|exact heap_alloc_old E.w _ hb)
 exact⟨trivial,_,⟨E.w.alloc (.cells ((Array.range 0).map fun _=>(default:Value)) e),E.Fr,E.bd,E.H⟩,I,rfl,.one (.slf (.sl (fun _ _=>undef) 0 rfl (Nat.zero_le _) (Nat.zero_le _) (by simp) (fun h=>(h rfl).elim) (by simp[at2])) ⟨_,rfl⟩),hh,tr⟩
theorem yf9 {P:Program} {t e s b:Nat} (ht:tSl P t=some (e,s,b)) {I:Option Addr} {n cap:Nat} (w:World):(binOp .eql t (.slice I n cap) (.slice none 0 0)).run P w=.ok (.bool I.isNone) w:=by
 obtain⟨ie,hu,U,hs,hb⟩:=zh7 ht
 rw[show binOp .eql t (.slice I n cap) (.slice none 0 0)=(do pure (.bool (<-Op.equal t (.slice I n cap) (.slice none 0 0))))from rfl,Op.equal,Op.maxDepth]
 rw[show(10000:Nat)=9999+1 from rfl,Op.equalIn];cases I<;>simp[run_underlying hu]
theorem yee {E:Env} {rows:List (List C)} {v:Value} (h:VRel E (.one (.sl rows)) v):∃I n cap,v=.slice I n cap/\(I=none->rows=[]):=by
 cases (one_inv h)with
 |sl vals sz hn hcap hlim hsz hb hv=>
  refine⟨_,_,_,rfl,fun h=>?_⟩;subst h
  by_cases e:rows=[]
  ·exact e
  ·obtain⟨_,_,h1,_⟩:=hb e;cases h1
def ybc (t:TypeId):Code:=.region 0 #[{dst:=some 2,op:=.assign (.const (.slice none 0 0)),type:=t,pos:= "slices.go:355",after:= #[],guard:=none}] false
def zrz (t:TypeId):Oper:={dst:=some 3,op:=.move (.tmp 0),type:=t,pos:= "slices.go:357",after:= #[],guard:=none}
def zpp (t b:TypeId):Oper:={dst:=some 4,op:=.binOp .eql t (.tmp 3) (.const (.slice none 0 0)) t,type:=b,pos:= "slices.go:357",after:= #[{on:=0,ground:=.data}],guard:=none}
def yil (t b:TypeId):Code:=.region 1 #[zrz t,zpp t b] false
def z4z (t:TypeId):Code:=.region 2 #[{dst:=some 2,op:=.assign (.const (.slice none 0 0)),type:=t,pos:= "slices.go:358",after:= #[],guard:=none}] false
def zt9 (t:TypeId):Oper:={dst:=some 5,op:=.buildSlice t 0 #[],type:=t,pos:= "slices.go:362",after:= #[],guard:=none}
def zwp (t:TypeId):Array Oper:= #[zt9 t,
 {dst:=some 6,op:=.move (.tmp 0),type:=t,pos:= "slices.go:362",after:= #[],guard:=none},
 {dst:=some 7,op:=.call {callee:=.builtin .append,args:= #[.tmp 5,.tmp 6],argTypes:= #[t,t]},type:=t,pos:= "slices.go:362",after:= #[{on:=0,ground:=.data},{on:=1,ground:=.data}],guard:=none},
 {dst:=some 2,op:=.assign (.tmp 7),type:=t,pos:= "slices.go:362",after:= #[{on:=2,ground:=.data},{on:=2,ground:=.chain},{on:=0,ground:=.phase},{on:=1,ground:=.phase},{on:=2,ground:=.phase}],guard:=none}]
def ybb (t:TypeId):Code:=.region 3 (zwp t) false
def ye1 (t b:TypeId):Code:=(ybc t).seq (((yil t b).seq (.cond (.tmp 4) ((z4z t).seq .ret) .skip)).seq ((ybb t).seq .ret))
theorem zwv {P:Program} {ops:Array Oper} {Q:Exit->Act->World->Prop} {i:Nat} {l:List Nat} {a:Act} {w:World} {o:Oper} (I:ops[i]? =some o) (U:o.guard=none) (h:o.wp P a w (wpOps P ops Q l) Q):wpOps P ops Q (i::l) a w:=by
 simp only[wpOps,I,Region.wanted,U,if_true];exact .inl h
theorem zvc {P:Program} {o:Oper} {a:Act} {w w':World} {v:Value} {next:Act->World->Prop} {Q:Exit->Act->World->Prop} (h:(execOp a.eval o).run P w=.ok (.value v) w') (hn:next (a.put o.dst v) w'):o.wp P a w next Q:=by
 unfold Oper.wp;rw[h];exact hn
def zsa (H:List O) (rows:List (List C)):V:=.one (.msl H.length 0 0 rows.length)
def zsb (H:List O) (s:Nat) (rows:List (List C)):List O:=H++[.cells 0 s rows]
theorem yd0 {P:Program} {f:FuncId} {fn:Func} {t b e s by_:Nat} {z:V} {zs:List C} {rows:List (List C)} {H:List O} (hf:P.funcs[f]? =some fn) (hb:fn.body=some (ye1 t b)) (aj:(fn.name== "runtime.NumGoroutine")=false) (ak:fn.ntmps=8) (au:fn.results= #[.tmp 2])
  (ht:tSl P t=some (e,s,by_)) (hz:tZ P e=some z) (al:z.cs=some zs) (hl:zs.length=s) (an:0<s) (hr:∀r∈rows,r.length=s) (hlim:rows.length*by_<=140737488355328) (ae:rows.length<=lim):
  Ct P f [.one (.sl rows)] H fun v H'=>v=zsa H rows/\H'=zsb H s rows:=by
 refine ya9 hf hb aj (by rw[ak];rfl) fun E a aG av hs=>?_;rw[ak,au]at*
 have ax:=av 0 _ rfl
 obtain⟨U,n,cap,e0,ai⟩:=yee ax
 have fin:∀(st:St) (a':Act) (E':Env),SR E ⟨8,H.length⟩ st a' E'->(st.H=H/\rows=[]/\look st.t 2=.one (.slf [])\/st.H=zsb H s rows/\look st.t 2=zsa H rows)->
   zzu P ⟨8,H.length⟩ (endK P #[ResultVar.tmp 2].toList fun v H'=>v=zsa H rows/\H'=zsb H s rows) E .ret a' E'.w:=by
  rintro st a' E' af (⟨h1,h2,h3⟩|⟨h1,h2⟩)
  ·obtain⟨E2,hw,aa⟩:=SR.seed (n:=⟨8,H.length⟩) af 2 s h3
   refine⟨.ret,_,E2,rfl,hw,?_,aa⟩;subst h2;simp[endK,resK,zjz,look,zsa,zsb,h1]
  ·refine⟨.ret,st,E',rfl,rfl,?_,af⟩
   simp[endK,resK,zjz,h1,h2]
 refine wp_seq (wp_mono (zg8 (ybc t) _ (fun e st'=>e=.normal/\st'=⟨(2,.one (.slf []))::zl3 0 [.one (.sl rows)],H⟩) ⟨trivial,fun _=>⟨rfl,rfl⟩⟩ rfl E a E hs) ?_);rintro _ a1 _ ⟨_,_,E1,rfl,rfl,⟨rfl,rfl⟩,I⟩;refine wp_seq (wp_seq ?_)
 have ay:VRel E1 (.one (.sl rows)) (a1.tmps.getD 0 undef):=I.tm 0
 refine wp_region ?_
 show wpOps P #[zrz t,zpp t b] _ [0,1] a1 E1.w
 have aa:=I.put (o:=zrz t) (by simp[zrz]) (x:=.one (.sl rows)) (v:=a1.tmps.getD 0 undef) ay I.H I.rel (Trans.refl E1)
 refine zwv (o:=zrz t) rfl rfl (zvc (v:=a1.tmps.getD 0 undef) (w':=E1.w) (by simp[zrz,execOp,Act.eval,Array.getD_eq_getD_getElem?]) ?_)
 generalize a1.put (zrz t).dst (a1.tmps.getD 0 undef)=a2 at aa|-
 obtain⟨U,n,cap,e2,ai⟩:=yee (show VRel E1 (.one (.sl rows)) (a2.eval (.tmp 3))from aa.ρ (.tmp 3));refine zwv (o:=zpp t b) rfl rfl (zvc (v:=.bool U.isNone) (w':=E1.w) ?_ ?_)
 ·have h6:(execOp a2.eval (zpp t b))=(do pure (.value (<-binOp .eql t (.slice U n cap) (.slice none 0 0)))):=by
   simp[zpp,execOp,e2,eqGuard];rfl
  rw[h6];simp[yf9 ht]
 have ab:=aa.put (o:=zpp t b) (by simp[zpp]) (x:=.one (.bool U.isNone)) (v:=.bool U.isNone) (.one .bool) I.H I.rel (Trans.refl E1)
 generalize a2.put (zpp t b).dst (.bool U.isNone)=a3 at ab|-
 show(Code.cond (.tmp 4) ((z4z t).seq .ret) .skip).wp P _ a3 E1.w
 have hc:a3.eval (.tmp 4)=.bool U.isNone:=by
  have:=ab.ρ (.tmp 4)
  exact bool_inv (one_inv this)
 refine wp_cond hc ?_
 cases az:U with
 |none=>
  simp only[Option.isNone_none,if_true];refine wp_seq (wp_mono (zg8 (z4z t) _ (fun e st'=>e=.normal/\st'.H=H/\look st'.t 2=.one (.slf [])) ⟨trivial,fun _=>⟨rfl,rfl,rfl⟩⟩ rfl E a3 E1 ab) ?_);rintro _ a4 _ ⟨_,_,E4,rfl,rfl,⟨rfl,h1,h2⟩,aA⟩;exact wp_ret (fin _ _ _ aA (.inl ⟨h1,ai az,h2⟩))
 |some aH=>
  simp only[Option.isNone_some,Bool.false_eq_true,if_false];refine wp_skip ?_
  show((ybb t).seq .ret).wp P _ a3 E1.w
  refine wp_seq (wp_region ?_);obtain⟨_,v5,E5,aw,aB,aC,aD,aE⟩:=yhj (P:=P) ab.rel ht trivial
  show wpOps P (zwp t) _ [0,1,2,3] a3 E1.w
  refine zwv (o:=zt9 t) rfl rfl (zvc (v:=v5) (w':=E5.w) (by simp[zt9,execOp,aw]) ?_)
  have aF:=ab.put (o:=zt9 t) (by simp[zt9]) aC aB aD aE
  refine zws (K:=fun st'=>st'.H=H/\rows=[]/\look st'.t 2=.one (.slf [])\/st'.H=zsb H s rows/\look st'.t 2=zsa H rows) _ (fun st' a' E' hK af=>wp_ret (fin _ _ _ af hK)) (by simp[zwp,zt9]) [1,2,3] ((zwp t).toList.drop 1) rfl (fun k i hk=>by
   match k with
   |0=>simp at hk;subst hk;rfl
   |1=>simp at hk;subst hk;rfl
   |2=>simp at hk;subst hk;rfl
   |k+3=>simp at hk) _ _ E5 aF ?_
  have ao:E1.H=H:=I.H
  have e3:∀x y:V,(zwp t).toList.drop 1=[{dst:=some 6,op:=.move (.tmp 0),type:=t,pos:= "slices.go:362",after:= #[],guard:=none},
   {dst:=some 7,op:=.call {callee:=.builtin .append,args:= #[.tmp 5,.tmp 6],argTypes:= #[t,t]},type:=t,pos:= "slices.go:362",after:= #[{on:=0,ground:=.data},{on:=1,ground:=.data}],guard:=none},
   {dst:=some 2,op:=.assign (.tmp 7),type:=t,pos:= "slices.go:362",after:= #[{on:=2,ground:=.data},{on:=2,ground:=.chain},{on:=0,ground:=.phase},{on:=1,ground:=.phase},{on:=2,ground:=.phase}],guard:=none}]:=fun _ _=>rfl
  rw[e3 .un .un]
  have aq:z4p "slices.go:362" =false:=by decide
  cases rows with
  |nil=>simp[awpOps,guarded2,awpOp,ybl,zdh,biZ,biF,aq,zr4,ht,hz,al,hl,an,zl4,St.ρ,St.put,look,zt9,zpp,zrz,zl3,R.ok,ao]
  |cons r rs=>
   have ar:r.length=s/\∀x∈rs,x.length=s:=by simpa using hr
   simp at hlim ae;simp[awpOps,guarded2,awpOp,ybl,zdh,biZ,biF,aq,zr4,ht,hz,al,hl,an,zl4,St.ρ,St.put,look,zt9,zpp,zrz,zl3,R.ok,zsa,zsb,hlim,ae,ar.1,ao];exact ar.2
end Go.Lz

end
section
namespace Go.Lz
instance dMk {p f:Prop} {v:V} {h:List O} [d:Decidable p]:Decidable (R.mk p f v h).pre:=d
instance dOk {v:V} {h:List O}:Decidable (R.ok v h).pre:=.isTrue trivial
instance dBad:Decidable R.bad.pre:=.isFalse id
def rowB (H:List O):C->Bool
 |.iptr _ _=>true
 |.ref id ver r _=>match H[id]? with
  |some (.cells cur _ rows)=>decide (ver=cur/\r<rows.length)
  |_=>false
 |_=>false
theorem z5q {H:List O} {c:C} {row:List C} {off:Nat} {p:Prop} (h:zut H c=some (row,off,p)):rowB H c=true↔p:=by
 cases c<;>simp only[zut,reduceCtorEq]at h
 case iptr=>simp only[Option.some.injEq,Prod.mk.injEq]at h;obtain⟨_,_,rfl⟩:=h;simp[rowB]
 case ref=>
  split at h
  ·rename_i ho;simp only[Option.some.injEq,Prod.mk.injEq]at h;obtain⟨_,_,rfl⟩:=h;simp[rowB,ho]
  ·cases h
def ygb (H:List O):C->Bool
 |.msl id ver _ _=>match H[id]? with
  |some (.cells cur _ _)=>decide (ver=cur)
  |_=>false
 |_=>true
theorem z8w {H:List O} {c:C} {rows:List (List C)} {p:Prop} (h:zl4 H c=some (rows,p)):ygb H c=true↔p:=by
 cases c<;>simp only[zl4,reduceCtorEq]at h
 case msl=>
  split at h
  ·rename_i ho;simp only[Option.some.injEq,Prod.mk.injEq]at h;obtain⟨_,rfl⟩:=h;simp[ygb,ho]
  ·cases h
 all_goals (simp only[Option.some.injEq,Prod.mk.injEq]at h;obtain⟨_,rfl⟩:=h;simp[ygb])
def dRow {H:List O} {c:C} {row:List C} {off:Nat} {p:Prop} (h:zut H c=some (row,off,p)):Decidable p:=decidable_of_iff _ (z5q h)
def yik {H:List O} {c:C} {rows:List (List C)} {p:Prop} (h:zl4 H c=some (rows,p)):Decidable p:=decidable_of_iff _ (z8w h)
section
variable (P:Program) (H:List O)
instance dPick (c a b:V):Decidable (z1d c a b H).pre:=by unfold z1d;repeat' (first|infer_instance|split)
instance dNew (cs:List C):Decidable (newF cs H).pre:=by unfold newF;infer_instance
instance dLoad (t:TypeId) (a:V):Decidable (ztk P t a H).pre:=by
 unfold ztk
 repeat' (first|infer_instance|(rename_i h;have:=dRow h;infer_instance)|split)
instance dStore (t:TypeId) (a x:V):Decidable (zxr P t a x H).pre:=by unfold zxr;repeat' (first|infer_instance|split)
instance dInt (op:BinOp) (k:IntKind) (a b:Int):Decidable (intF op k a b H).pre:=by unfold intF;repeat' (first|infer_instance|split)
instance dSh (op:BinOp) (k:IntKind) (a b:Int):Decidable (shF op k a b H).pre:=by unfold shF;repeat' (first|infer_instance|split)
instance dStr (op:BinOp) (a b:List UInt8):Decidable (strF op a b H).pre:=by unfold strF;repeat' (first|infer_instance|split)
instance dEq (op:BinOp) (t:TypeId) (a b:List C):Decidable (eqF P op t a b H).pre:=by unfold eqF;repeat' (first|infer_instance|split)
instance dNil (op:BinOp) (t:TypeId) (b:Bool):Decidable (nilF P op t b H).pre:=by unfold nilF;repeat' (first|infer_instance|split)
instance dBin (op:BinOp) (t:TypeId) (x y:V):Decidable (binF P op t x y H).pre:=by unfold binF;repeat' (first|infer_instance|split)
instance dUn (op:UnOp) (x:V):Decidable (unF op x H).pre:=by unfold unF;repeat' (first|infer_instance|split)
instance dIA (t:TypeId) (x i:V):Decidable (zkf P t x i H).pre:=by unfold zkf;repeat' (first|infer_instance|split)
instance dIx (t:TypeId) (x i:V):Decidable (zwb P t x i H).pre:=by unfold zwb;repeat' (first|infer_instance|split)
instance dFA (t:TypeId) (x:V) (f:Nat):Decidable (zew P t x f H).pre:=by unfold zew;repeat' (first|infer_instance|split)
instance dF (t:TypeId) (x:V) (f:Nat):Decidable (zwh P t x f H).pre:=by unfold zwh;repeat' (first|infer_instance|split)
instance dMake (pl:Bool) (t:TypeId) (l c:V):Decidable (zmf P pl t l c H).pre:=by unfold zmf;repeat' (first|infer_instance|split)
instance dSR (t:TypeId) (rows:List (List C)) (lo hi mx:Option V):Decidable (zkr P t rows lo hi mx H).pre:=by unfold zkr;repeat' (first|infer_instance|split)
instance dSl (t:TypeId) (x:V) (lo hi mx:Option V):Decidable (zyw P t x lo hi mx H).pre:=by unfold zyw;repeat' (first|infer_instance|split)
instance dLen (t:TypeId) (x:V):Decidable (lenF P t x H).pre:=by unfold lenF;repeat' (first|infer_instance|split)
instance dApp (ts:Array TypeId) (s x:V):Decidable (zr4 P ts s x H).pre:=by
 unfold zr4
 repeat' (first|infer_instance|split)
 all_goals (have:=yik ‹zl4 H _=some (_,_)›;dsimp only;infer_instance)
instance dCopy (ts:Array TypeId) (s x:V):Decidable (z70 P ts s x H).pre:=by
 unfold z70
 repeat' (first|infer_instance|(rename_i h;have:=yik h;infer_instance)|split)
instance dClear (ts:Array TypeId) (x:V):Decidable (z0m P ts x H).pre:=by unfold z0m;repeat' (first|infer_instance|split)
instance dBi (b:Builtin) (ts:Array TypeId) (args:List V):Decidable (biF P b ts args H).pre:=by unfold biF;repeat' (first|infer_instance|split)
instance dBuild (t:TypeId) (parts:List (Nat×V)):Decidable (zwq P t parts H).pre:=by unfold zwq;repeat' (first|infer_instance|split)
instance dBuildS (own:Bool) (t:TypeId) (n:Nat) (parts:List (Nat×V)):Decidable (zmn P own t n parts H).pre:=by unfold zmn;repeat' (first|infer_instance|split)
instance dStrC (s d:TypeId) (b:List UInt8):Decidable (zuf P s d b H).pre:=by unfold zuf;repeat' (first|infer_instance|split)
instance dByC (s d:TypeId) (c:C):Decidable (zlh P s d c H).pre:=by
 unfold zlh
 repeat' (first|infer_instance|(rename_i h _ _;have:=yik h;infer_instance)|split)
instance dMsC (s d:TypeId) (id ver lo hi:Nat):Decidable (zul P s d id ver lo hi H).pre:=by unfold zul;repeat' (first|infer_instance|split)
instance dConv (s d:TypeId) (x:V):Decidable (z4x P s d x H).pre:=by unfold z4x;repeat' (first|infer_instance|split)
instance dLookR (z:C) (ok:Bool) (o:Option (Option C)):Decidable (zze z ok H o).pre:=by unfold zze;repeat' (first|infer_instance|split)
instance dLookup (t:TypeId) (m k:V) (ok:Bool):Decidable (zq2 P t m k ok H).pre:=by unfold zq2;repeat' (first|infer_instance|split)
instance dMapPut (t:TypeId) (m k v:V):Decidable (zvm P t m k v H).pre:=by unfold zvm;repeat' (first|infer_instance|split)
instance dMkIf (t:TypeId) (x:V):Decidable (zqz P t x H).pre:=by unfold zqz;repeat' (first|infer_instance|split)
instance dNoIf (a:TypeId) (ok:Bool):Decidable (zzy P a ok H).pre:=by unfold zzy;repeat' (first|infer_instance|split)
instance dIsIf (ok:Bool) (cs:List C):Decidable (z1l ok cs H).pre:=by unfold z1l;infer_instance
instance dTA (x:V) (a:TypeId) (ok:Bool):Decidable (zij P x a ok H).pre:=by unfold zij;repeat' (first|infer_instance|split)
instance dAnd {p:Prop} {r:R} [d:Decidable p] [e:Decidable r.pre]:Decidable (andR p r).pre:=by unfold andR;exact inferInstanceAs (Decidable (p/\r.pre))
instance dFzc (c:C):Decidable (fzPc H c):=by unfold fzPc;repeat' (first|infer_instance|split)
def dFzp:(l:List C)->Decidable (fzP H l)
 |[]=>.isTrue trivial
 |c::r=>have:=dFzp r;inferInstanceAs (Decidable (fzPc H c/\fzP H r))
instance (l:List C):Decidable (fzP H l):=dFzp H l
instance dAppZ (ts:Array TypeId) (s x:V):Decidable (zxi P ts s x H).pre:=by unfold zxi;repeat' (first|infer_instance|split)
instance dBiZ (z:Bool) (b:Builtin) (ts:Array TypeId) (args:List V):Decidable (biZ P z b ts args H).pre:=by unfold biZ;repeat' (first|infer_instance|split)
instance dConvZ (z:Bool) (s d:TypeId) (x:V):Decidable (z4w P z s d x H).pre:=by unfold z4w;repeat' (first|infer_instance|split)
instance dStep (pos:String) (op:Op) (ρ:Operand->V):Decidable (zdh P pos op ρ H).pre:=by unfold zdh;repeat' (first|infer_instance|split)
end
mutual
def eqC:C->C->Bool
 |.int k a,.int k' b=>decide (k=k')&&decide (a=b)
 |.bool a,.bool b=>decide (a=b)
 |.str a,.str b=>decide (a=b)
 |.sl r,.sl r'=>zx1 r r'
 |.slf r,.slf r'=>zx1 r r'
 |.iptr r o,.iptr r' o'=>z1v r r'&&decide (o=o')
 |.fn f c,.fn f' c'=>decide (f=f')&&z1v c c'
 |.nilfn,.nilfn=>true
 |.nilif,.nilif=>true
 |.nilp,.nilp=>true
 |.nilm,.nilm=>true
 |.ref a b c d,.ref a' b' c' d'=>decide (a=a'/\b=b'/\c=c'/\d=d')
 |.msl a b c d,.msl a' b' c' d'=>decide (a=a'/\b=b'/\c=c'/\d=d')
 |.mp a,.mp a'=>decide (a=a')
 |_,_=>false
def z1v:List C->List C->Bool
 |[],[]=>true
 |c::r,c'::r'=>eqC c c'&&z1v r r'
 |_,_=>false
def zx1:List (List C)->List (List C)->Bool
 |[],[]=>true
 |c::r,c'::r'=>z1v c c'&&zx1 r r'
 |_,_=>false
end
mutual
theorem yez:∀{a b:C},eqC a b=true->a=b
 |.int k a,b,h=>by cases b<;>simp[eqC]at h;obtain⟨rfl,rfl⟩:=h;rfl
 |.bool a,b,h=>by cases b<;>simp[eqC]at h;subst h;rfl
 |.str a,b,h=>by cases b<;>simp[eqC]at h;subst h;rfl
 |.sl r,b,h=>by cases b<;>simp[eqC]at h;rw[zwk h]
 |.slf r,b,h=>by cases b<;>simp[eqC]at h;rw[zwk h]
 |.iptr r o,b,h=>by cases b<;>simp[eqC]at h;rw[zwl h.1,h.2]
 |.fn f c,b,h=>by cases b<;>simp[eqC]at h;rw[zwl h.2,h.1]
 |.ifc t c,b,h=>by cases b<;>simp[eqC]at h
 |.nilfn,b,h=>by cases b<;>simp[eqC]at h;rfl
 |.nilif,b,h=>by cases b<;>simp[eqC]at h;rfl
 |.nilp,b,h=>by cases b<;>simp[eqC]at h;rfl
 |.nilm,b,h=>by cases b<;>simp[eqC]at h;rfl
 |.ref a1 a2 a3 a4,b,h=>by cases b<;>simp[eqC]at h;obtain⟨rfl,rfl,rfl,rfl⟩:=h;rfl
 |.msl a1 a2 a3 a4,b,h=>by cases b<;>simp[eqC]at h;obtain⟨rfl,rfl,rfl,rfl⟩:=h;rfl
 |.mp a,b,h=>by cases b<;>simp[eqC]at h;subst h;rfl
theorem zwl:∀{a b:List C},z1v a b=true->a=b
 |[],b,h=>by cases b<;>simp[z1v]at h;rfl
 |c::r,b,h=>by
  cases b with
  |nil=>simp[z1v]at h
  |cons c' r'=>simp[z1v]at h;rw[yez h.1,zwl h.2]
theorem zwk:∀{a b:List (List C)},zx1 a b=true->a=b
 |[],b,h=>by cases b<;>simp[zx1]at h;rfl
 |c::r,b,h=>by
  cases b with
  |nil=>simp[zx1]at h
  |cons c' r'=>simp[zx1]at h;rw[zwl h.1,zwk h.2]
end
def eqV:V->V->Bool
 |.one a,.one b=>eqC a b
 |.agg a,.agg b=>z1v a b
 |.un,.un=>true
 |_,_=>false
theorem ya4 {a b:V} (h:eqV a b=true):a=b:=by
 cases a<;>cases b<;>simp[eqV]at h
 ·rw[yez h]
 ·rw[zwl h]
 ·rfl
def eqVs:List V->List V->Bool
 |[],[]=>true
 |a::r,b::r'=>eqV a b&&eqVs r r'
 |_,_=>false
theorem ya3:∀{a b:List V},eqVs a b=true->a=b
 |[],b,h=>by cases b<;>simp[eqVs]at h;rfl
 |c::r,b,h=>by
  cases b with
  |nil=>simp[eqVs]at h
  |cons c' r'=>simp[eqVs]at h;rw[ya4 h.1,ya3 h.2]
def eqOo:Option O->Option O->Bool
 |none,none=>true
 |some (.cells v s r),some (.cells v' s' r')=>decide (v=v'/\s=s')&&zx1 r r'
 |some .dead,some .dead=>true
 |_,_=>false
theorem ya6 {a b:Option O} (h:eqOo a b=true):a=b:=by
 cases a with
 |none=>cases b<;>simp[eqOo]at h;rfl
 |some a=>cases b with
  |none=>cases a<;>simp[eqOo]at h
  |some b=>
   cases a<;>cases b<;>simp[eqOo]at h
   ·obtain⟨⟨rfl,rfl⟩,h2⟩:=h;rw[zwk h2]
   ·rfl
def z6v (S:List Nat) (H H':List O):Bool:=S.all fun i=>eqOo (H'[i]?) (H[i]?)
theorem zzt {S:List Nat} {H H':List O} (h:z6v S H H'=true):zoj S H H':=by
 intro i hi;simp only[z6v,List.all_eq_true]at h;exact ya6 (h i hi)
def eqOs:List O->List O->Bool
 |[],[]=>true
 |a::r,b::r'=>eqOo (some a) (some b)&&eqOs r r'
 |_,_=>false
theorem ya5:∀{a b:List O},eqOs a b=true->a=b
 |[],b,h=>by cases b<;>simp[eqOs]at h;rfl
 |c::r,b,h=>by
  cases b with
  |nil=>simp[eqOs]at h
  |cons c' r'=>simp[eqOs]at h;rw[Option.some.inj (ya6 h.1),ya5 h.2]
abbrev zzv:=FuncId->List V->List O->Option (V×List O)
def zmd (P:Program) (call:zzv):Prop:=∀g args H v H',call g args H=some (v,H')->Ct P g args H fun x H2=>x=v/\H2=H'
section
variable (P:Program) (call:zzv)
def pcOf (g:FuncId) (args:List V):Option V:=match call g args []with
 |some (v,H')=>match(v.view H').lt 0 with
  |true=>some (v.view H')
  |false=>none
 |none=>none
def yqk:V->Bool
 |.one (.ref ..)=>true
 |.one (.mp _)=>true
 |_=>false
def ypw (g:FuncId):Bool:=match P.funcs[g]? with
 |some fn=>ownFnL.contains fn.name
 |none=>false
def ya2 (g:FuncId) (args:List V) (H:List O):Option (V×List O):=
 match ypw P g||args.any yqk|| !ltVs 0 (args.map (V.view H))with
 |true=>call g args H
 |false=>match pcOf call g (args.map (V.view H))with
  |some x=>match args.all (fun a=> !a.own)||x.scalar with
   |true=>some (x,H)
   |false=>call g args H
  |none=>call g args H
def evOp (o:Oper) (st:St):Option St:=
 match o.op with
 |.call {callee:=.value f,args,argTypes:=_}=>match st.ρ f with
  |.one (.fn g cap)=>match ya2 P call g (args.toList.map st.ρ++cap.map V.one) st.H with
   |some (v,H')=>some (st.put o.dst v H')
   |none=>none
  |_=>none
 |op=>if(zdh P o.pos op st.ρ st.H).pre then some (st.put o.dst (zdh P o.pos op st.ρ st.H).v (zdh P o.pos op st.ρ st.H).h)else none
def z6f (P:Program) (pos:String) (op:Op) (ρ:Operand->V):Bool:=match op with
 |.makeSlice _ _ _=>ycw pos
 |.move _|.assign _|.pick _ _ _|.load _ _|.nilCheck _|.binOp _ _ _ _ _|.unOp _ _ _|.makeFunc _ _ _|.makeInterface _ _|.typeAssert _ _ _ _|.lookup _ _ _ _|.fieldAddr _ _ _|.field _ _ _|.indexAddr _ _ _|.index _ _ _|.extract _ _|.build _ _=>true
 |.convert _ _ x=>match ρ x with|.one (.int _ _)=>true|_=>false
 |.slice _ x _ _ _=>match ρ x with|.one (.str _)=>true|.one (.sl _)=>true|.one (.slf _)=>true|.one (.msl _ _ _ _)=>true|_=>false
 |.call {callee:=.builtin .len,args:=_,argTypes:=_}=>true
 |.call {callee:=.builtin .max,args:=_,argTypes:=_}=>true
 |.call {callee:=.builtin .min,args:=_,argTypes:=_}=>true
 |_=>false
def isBs:Op->Bool
 |.buildSlice _ _ _=>true
 |_=>false
def yg9 (pos:String) (op:Op) (st:St):Bool:=match isBs op with
 |true=>eqOs (zdh P pos op st.ρ st.H).h st.H
 |false=>z6f P pos op st.ρ
def evQ (o:Oper) (st:St):Option St:=
 match o.op with
 |.call {callee:=.value f,args,argTypes:=_}=>match st.ρ f with
  |.one (.fn g cap)=>match ltVs 0 ((args.toList.map st.ρ++cap.map V.one).map (V.view st.H))with
   |true=>match pcOf call g ((args.toList.map st.ρ++cap.map V.one).map (V.view st.H))with
    |some x=>match(args.toList.map st.ρ++cap.map V.one).all (fun a=> !a.own)||x.scalar with
     |true=>some (st.put o.dst x st.H)
     |false=>none
    |none=>none
   |false=>none
  |_=>none
 |op=>if(zdh P o.pos op st.ρ st.H).pre/\z4p o.pos=false/\z7w o.pos=false/\yg9 P o.pos op st=true then some (st.put o.dst (zdh P o.pos op st.ρ st.H).v st.H)else none
def z1u (all:Array Oper) (o:Oper) (st:St):Option (Bool×St):=
 match o.guard with
 |none=>some (true,st)
 |some (j,want)=>match(all[j]?).bind (·.dst)with
  |some d=>match look st.t d with
   |.one (.bool b)=>some (b==want,⟨(d,.one (.bool b))::st.t,st.H⟩)
   |.tup []=>some (false,st)
   |_=>none
  |none=>none
def z7v (all:Array Oper):List Oper->St->Option St
 |[],st=>some st
 |o::rest,st=>match z1u all o st with
  |some (true,st1)=>match evOp P call o st1 with
   |some st2=>z7v all rest st2
   |none=>none
  |some (false,st1)=>z7v all rest (st1.put o.dst (.tup []) st1.H)
  |none=>none
def yat:Option (Prop×V×List Fo)->Prop
 |some (p,_,_)=>p
 |none=>False
instance dFresh (o:Oper) (st:St) (N:List Fo):Decidable (yat (zt4 P o st N)):=by
 unfold zt4;repeat' (first|(unfold yat;infer_instance)|split)
def z94 (all:Array Oper) (t:List (Nat×V)) (i:Nat):Bool:=match all[i]? with
 |some o=>match o.op,o.dst with
  |.move x,some d=>eqV (St.ρ ⟨t,[]⟩ x) (look t d)
  |.assign x,some d=>eqV (St.ρ ⟨t,[]⟩ x) (look t d)
  |_,_=>false
 |none=>false
def yfy (all:Array Oper) (k:Nat) (t:List (Nat×V)):Bool:=z0y all k||(z2x all k&&(zdg all k).all (z94 all t))
def z0l (all:Array Oper):List Oper->List Fo->St->Option St
 |[],N,st=>some ⟨st.t,st.H++N.map Fo.o⟩
 |o::rest,N,st=>match zt4 P o st N with
  |some (_,v,N')=>if yat (zt4 P o st N)then z0l all rest N' (st.put o.dst v st.H)else none
  |none=>match effT o.pos o.op with
   |true=>match yfy all (all.size-(rest.length+1)) st.t with
    |true=>z7v P call all (o::rest) ⟨st.t,st.H++N.map Fo.o⟩
    |false=>none
   |false=>match z6z o N with
    |true=>match z1u all o st with
     |some (true,st1)=>match evQ P call o st1 with
      |some st2=>z0l all rest N st2
      |none=>none
     |some (false,st1)=>z0l all rest N (st1.put o.dst (.tup []) st1.H)
     |none=>none
    |false=>none
def z7f (S:List Nat):V->Bool
 |.one (.ref id _ _ _)=>S.contains id
 |.one (.iptr _ _)=>true
 |_=>false
def z3u (op:Op) (ρ:Operand->V) (S:List Nat):Bool:=match op with
 |.move _|.assign _=>true
 |.fieldAddr _ x _=>z7f S (ρ x)
 |.load _ x=>z7f S (ρ x)
 |.nilCheck x=>z7f S (ρ x)
 |_=>false
def evF (S Fl FE:List Nat):Nat->List Oper->St->Option St
 |_,[],st=>some st
 |k,o::rest,st=>match effF o.op with
  |true=>match o.op with
   |.call {callee:=.value f,args,argTypes:=_}=>match st.ρ f with
    |.one (.fn g cap)=>match call g (args.toList.map st.ρ++cap.map V.one) st.H with
     |some (x,H1)=>match !FE.contains k||z6v S st.H H1 with
      |true=>evF S Fl FE (k+1) rest (st.put o.dst x H1)
      |false=>none
     |none=>none
    |_=>none
   |op=>if(zdh P o.pos op st.ρ st.H).pre/\(FE.contains k=false\/z6v S st.H (zdh P o.pos op st.ρ st.H).h=true)then evF S Fl FE (k+1) rest (st.put o.dst (zdh P o.pos op st.ρ st.H).v (zdh P o.pos op st.ρ st.H).h)else none
  |false=>if(zdh P o.pos o.op st.ρ st.H).pre/\z4p o.pos=false/\z7w o.pos=false/\z6f P o.pos o.op st.ρ=true/\(Fl.contains k=false\/z3u o.op st.ρ S=true)then evF S Fl FE (k+1) rest (st.put o.dst (zdh P o.pos o.op st.ρ st.H).v st.H)else none
def flOf (all:Array Oper):List Nat:=(List.range all.size).filter fun i=> !zcf all i&&floQ all i
def feOf (all:Array Oper):List Nat:=(List.range all.size).filter fun i=>zcf all i&&floE all i
def yia (ops:Array Oper) (st:St):Option St:=match floB ops&&floL ops (flOf ops) (feOf ops)with
 |true=>evF P call (List.range st.H.length) (flOf ops) (feOf ops) 0 ops.toList st
 |false=>none
def z3v:List (Nat×V)->List Nat->List (Nat×V)
 |[],_=>[]
 |(k,v)::r,seen=>match seen.contains k with
  |true=>z3v r seen
  |false=>(k,v)::z3v r (k::seen)
def St.slim (st:St):St:=⟨z3v st.t [],st.H⟩
def evC:Nat->Cf->Code->Option Nat->St->Option (Ex×St)
 |0,_,_,_,_=>none
 |k+1,n,c,some l,st=>match findLabel c l with
  |some rest=>match okC n.n rest with
   |true=>match evC k n rest none st with
    |some (.goto l',st1)=>evC k n c (some l') st1
    |r=>r
   |false=>none
  |none=>none
 |k+1,n,c,none,st=>match c with
  |.skip=>some (.normal,st)
  |.label _=>some (.normal,st)
  |.region _ ops draw=>match draw with
   |true=>match zxe ops with
    |true=>match P.follows .mixedOrders&&zu0 ops with
     |true=>match yia P call ops st with
      |some st1=>some (.normal,st1)
      |none=>none
     |false=>none
    |false=>match P.follows .mixedOrders&&zu0 ops with
     |true=>match z0l P call ops ops.toList [] st with
      |some st1=>some (.normal,st1)
      |none=>none
     |false=>none
   |false=>match z7v P call ops ops.toList st with
    |some st1=>some (.normal,st1)
    |none=>none
  |.seq a b=>match evC k n a none st with
   |some (.normal,st1)=>evC k n b none st1
   |r=>r
  |.cond c x y=>match st.ρ c with
   |.one (.bool true)=>evC k n x none st
   |.one (.bool false)=>evC k n y none st
   |_=>none
  |.block id c=>match evC k n c none st with
   |some (.exit i,st1)=>if i=id then some (.normal,st1)else some (.exit i,st1)
   |r=>r
  |.loop c=>match evC k n c none st.slim with
   |some (.normal,st1)=>evC k n (.loop c) none st1
   |r=>r
  |.scope c=>match evC k n c none st with
   |some (.goto l,st1)=>evC k n c (some l) st1
   |r=>r
  |.goto l=>some (.goto l,st)
  |.exit id=>some (.exit id,st)
  |.ret=>some (.ret,st)
  |_=>none
def resB (st:St):ResultVar->Option V
 |.tmp i=>some (look st.t i)
 |.cell i ty=>match look st.t i with
  |.one c=>match tAg P ty,zut st.H c with
   |some (g,n),some (row,off,_)=>match rowB st.H c&&decide (off+wd g n<=row.length)with
    |true=>some (ldV g n row off)
    |false=>none
   |_,_=>none
  |_=>none
def resL (st:St):List ResultVar->Option (List V)
 |[]=>some []
 |r::rs=>match resB P st r,resL st rs with
  |some x,some xs=>some (x::xs)
  |_,_=>none
def endB (rs:List ResultVar) (st:St):Option V:=match rs with
 |[r]=>resB P st r
 |rs=>match resL P st rs with
  |some xs=>some (.tup xs)
  |none=>none
def z6m (f:FuncId) (args:List V) (H:List O):Option (V×List O):=
 match P.funcs[f]? with
 |some fn=>match fn.body with
  |some c=>match !(fn.name== "runtime.NumGoroutine")&&okC fn.ntmps c with
   |true=>match evC P call 1000000 ⟨fn.ntmps,H.length⟩ c none ⟨zl3 0 args,H⟩with
    |some (.normal,st)=>match endB P fn.results.toList st with
     |some x=>some (x,st.H)
     |none=>none
    |some (.ret,st)=>match endB P fn.results.toList st with
     |some x=>some (x,st.H)
     |none=>none
    |_=>none
   |false=>none
  |none=>none
 |none=>none
end
def evK (P:Program):Nat->zzv
 |0=>fun _ _ _=>none
 |k+1=>z6m P (evK P k)
section
variable {P:Program} {call:zzv}
theorem z5y {f:FuncId} {args:List V} {v:V} {H':List O} (h:Ct P f args [] fun x H2=>x=v/\H2=H') (hl:(v.view H').lt 0=true):Pu P f args (v.view H'):=by
 refine⟨h.1,fun E vs hE hH hn hv=>Calls.mono (h.2 E vs hE hH hn hv) ?_⟩;rintro e w' ⟨u,y,E',rfl,rfl,⟨rfl,rfl⟩,hyv,hh,tr⟩;refine⟨u,_,E'.shut,rfl,rfl,⟨rfl,rfl⟩,zvu hh hyv hl,zug hh,?_⟩
 have e0:∀b,¬E.own b:=by rintro b ⟨id,o,ho,_⟩;simp[hH]at ho
 refine⟨tr.fr,tr.size,tr.os,tr.tape,tr.output,fun b hb _=>tr.keep b hb (e0 b),?_,by simp[hH],by simp[Env.shut],by simp[Env.shut]⟩;rintro b hb ⟨id,o,ho,_⟩;simp[Env.shut]at ho
theorem z1e (hc:zmd P call) {g:FuncId} {args:List V} {x:V} (h:pcOf call g args=some x):Pu P g args x/\x.lt 0=true:=by
 unfold pcOf at h;split at h
 ·rename_i v H' hv
  split at h
  ·rename_i hl
   obtain rfl:=Option.some.inj h;exact⟨z5y (hc _ _ _ _ _ hv) hl,hl⟩
  ·cases h
 ·cases h
theorem ya1 (hc:zmd P call):zmd P (ya2 P call):=by
 intro g args H v H' h;unfold ya2 at h;split at h
 ·exact hc _ _ _ _ _ h
 ·rename_i h0
  simp only[Bool.or_eq_false_iff,Bool.not_eq_false']at h0;split at h
  ·rename_i x hx
   split at h
   ·rename_i hb
    obtain⟨rfl,rfl⟩:=Prod.mk.inj (Option.some.inj h);obtain⟨hp,hl⟩:=z1e hc hx;exact zua hp rfl h0.2 hl (by simpa using hb) ⟨rfl,rfl⟩
   ·exact hc _ _ _ _ _ h
  ·exact hc _ _ _ _ _ h
theorem yh9 (hc:zmd P call) {o:Oper} {st st':St} {K:St->Prop} (h:evOp P call o st=some st') (hk:K st'):awpOp P o st K:=by
 obtain⟨dst,op,ty,pos,after,guard⟩:=o
 cases op with
 |call c=>
  obtain⟨callee,args,ats⟩:=c
  cases callee with
  |value f=>
   simp only[evOp]at h;simp only[awpOp];split at h
   ·rename_i g cap hf
    split at h
    ·rename_i v H' hv
     obtain rfl:=Option.some.inj h;rw[hf]
     exact(ya1 hc _ _ _ _ _ hv).mono fun x H2 ⟨e1,e2⟩=>by subst e1;subst e2;exact hk
    ·cases h
   ·cases h
  |_=>
   simp only[evOp]at h;split at h
   ·rename_i hp
    obtain rfl:=Option.some.inj h;exact⟨hp,fun _=>hk⟩
   ·cases h
 |_=>
  simp only[evOp]at h;split at h
  ·rename_i hp
   obtain rfl:=Option.some.inj h;exact⟨hp,fun _=>hk⟩
  ·cases h
theorem zyi {all:Array Oper} {o:Oper} {st st1:St} {b:Bool} {X Y:St->Prop} (h:z1u all o st=some (b,st1)) (hx:b=true->X st1) (hy:b=false->Y st1):guarded2 all o st X Y:=by
 unfold z1u at h;unfold guarded2;split at h
 ·rename_i hg
  obtain⟨rfl,rfl⟩:=Prod.mk.inj (Option.some.inj h);simp only[hg];exact hx rfl
 ·rename_i j want hg
  simp only[hg];split at h
  ·rename_i d hd
   simp only[hd];split at h
   ·rename_i c hl
    obtain⟨rfl,rfl⟩:=Prod.mk.inj (Option.some.inj h);simp only[hl];refine⟨fun e=>?_,fun e=>?_⟩
    ·subst e;exact hx (by simp)
    ·subst e;exact hy (by cases want<;>rfl)
   ·rename_i hl
    obtain⟨rfl,rfl⟩:=Prod.mk.inj (Option.some.inj h);simp only[hl];exact hy rfl
   ·cases h
  ·cases h
theorem zyk (hc:zmd P call) {all:Array Oper} {K:St->Prop}:∀{l:List Oper} {st st':St},z7v P call all l st=some st'->K st'->awpOps P all l st K
 |[],st,st',h,hk=>by
  obtain rfl:=Option.some.inj h;exact hk
 |o::rest,st,st',h,hk=>by
  unfold z7v at h;unfold awpOps;split at h
  ·rename_i st1 hg
   split at h
   ·rename_i st2 ho
    exact zyi hg (fun _=>yh9 hc ho (zyk hc h hk)) (fun e=>by cases e)
   ·cases h
  ·rename_i st1 hg
   exact zyi hg (fun e=>by cases e) (fun _=>zyk hc h hk)
  ·cases h
end
section
variable (P:Program) (H:List O)
theorem kMk {p f:Prop} {v:V}:(R.mk p f v H).pre->(R.mk p f v H).h=H:=fun _=>rfl
theorem kOk {v:V}:(R.ok v H).pre->(R.ok v H).h=H:=fun _=>rfl
theorem kBad:R.bad.pre->R.bad.h=H:=fun h=>h.elim
theorem yqc (t:TypeId) (a:V):(ztk P t a H).pre->(ztk P t a H).h=H:=by
 unfold ztk;repeat' (first|exact kMk H|exact kOk H|exact kBad H|split)
theorem yp9 (c a b:V):(z1d c a b H).pre->(z1d c a b H).h=H:=by
 unfold z1d;repeat' (first|exact kMk H|exact kOk H|exact kBad H|split)
theorem kInt (op:BinOp) (k:IntKind) (a b:Int):(intF op k a b H).pre->(intF op k a b H).h=H:=by
 unfold intF;repeat' (first|exact kMk H|exact kOk H|exact kBad H|split)
theorem kSh (op:BinOp) (k:IntKind) (a b:Int):(shF op k a b H).pre->(shF op k a b H).h=H:=by
 unfold shF;repeat' (first|exact kMk H|exact kOk H|exact kBad H|split)
theorem kStr (op:BinOp) (a b:List UInt8):(strF op a b H).pre->(strF op a b H).h=H:=by
 unfold strF;repeat' (first|exact kMk H|exact kOk H|exact kBad H|split)
theorem kEq (op:BinOp) (t:TypeId) (a b:List C):(eqF P op t a b H).pre->(eqF P op t a b H).h=H:=by
 unfold eqF;repeat' (first|exact kMk H|exact kOk H|exact kBad H|split)
theorem kNil (op:BinOp) (t:TypeId) (b:Bool):(nilF P op t b H).pre->(nilF P op t b H).h=H:=by
 unfold nilF;repeat' (first|exact kMk H|exact kOk H|exact kBad H|split)
theorem kUn (op:UnOp) (x:V):(unF op x H).pre->(unF op x H).h=H:=by
 unfold unF;repeat' (first|exact kMk H|exact kOk H|exact kBad H|split)
theorem kIA (t:TypeId) (x i:V):(zkf P t x i H).pre->(zkf P t x i H).h=H:=by
 unfold zkf;repeat' (first|exact kMk H|exact kOk H|exact kBad H|split)
theorem kIx (t:TypeId) (x i:V):(zwb P t x i H).pre->(zwb P t x i H).h=H:=by
 unfold zwb;repeat' (first|exact kMk H|exact kOk H|exact kBad H|split)
theorem kFA (t:TypeId) (x:V) (f:Nat):(zew P t x f H).pre->(zew P t x f H).h=H:=by
 unfold zew;repeat' (first|exact kMk H|exact kOk H|exact kBad H|split)
theorem kF (t:TypeId) (x:V) (f:Nat):(zwh P t x f H).pre->(zwh P t x f H).h=H:=by
 unfold zwh;repeat' (first|exact kMk H|exact kOk H|exact kBad H|split)
theorem kSR (t:TypeId) (rows:List (List C)) (lo hi mx:Option V):(zkr P t rows lo hi mx H).pre->(zkr P t rows lo hi mx H).h=H:=by
 unfold zkr;repeat' (first|exact kMk H|exact kOk H|exact kBad H|split)
theorem kLen (t:TypeId) (x:V):(lenF P t x H).pre->(lenF P t x H).h=H:=by
 unfold lenF;repeat' (first|exact kMk H|exact kOk H|exact kBad H|split)
theorem yk5 (t:TypeId) (parts:List (Nat×V)):(zwq P t parts H).pre->(zwq P t parts H).h=H:=by
 unfold zwq;repeat' (first|exact kMk H|exact kOk H|exact kBad H|split)
theorem yk4 (z:C) (ok:Bool) (o:Option (Option C)):(zze z ok H o).pre->(zze z ok H o).h=H:=by
 unfold zze;repeat' (first|exact kMk H|exact kOk H|exact kBad H|split)
theorem yqb (t:TypeId) (x:V):(zqz P t x H).pre->(zqz P t x H).h=H:=by
 unfold zqz;repeat' (first|exact kMk H|exact kOk H|exact kBad H|split)
theorem yqa (a:TypeId) (ok:Bool):(zzy P a ok H).pre->(zzy P a ok H).h=H:=by
 unfold zzy;repeat' (first|exact kMk H|exact kOk H|exact kBad H|split)
theorem yqd (ok:Bool) (cs:List C):(z1l ok cs H).pre->(z1l ok cs H).h=H:=by
 unfold z1l;repeat' (first|exact kMk H|exact kOk H|exact kBad H|split)
theorem kBin (op:BinOp) (t:TypeId) (x y:V):(binF P op t x y H).pre->(binF P op t x y H).h=H:=by
 unfold binF;repeat' (first|exact kMk H|exact kOk H|exact kBad H|exact kEq P H _ _ _ _|exact kNil P H _ _ _|exact kSh H _ _ _ _|exact kInt H _ _ _ _|exact kStr H _ _ _|split)
theorem yha (t:TypeId) (m k:V) (ok:Bool):(zq2 P t m k ok H).pre->(zq2 P t m k ok H).h=H:=by
 unfold zq2;repeat' (first|exact kBad H|exact yk4 H _ _ _|split)
theorem kTA (x:V) (a:TypeId) (ok:Bool):(zij P x a ok H).pre->(zij P x a ok H).h=H:=by
 unfold zij;repeat' (first|exact kBad H|exact yqa P H _ _|exact yqd H _ _|split)
theorem z2z {pos:String} {op:Op} {ρ:Operand->V} (hz:z4p pos=false) (hv:z7w pos=false) (hp:(zdh P pos op ρ H).pre) (hk:z6f P pos op ρ=true):(zdh P pos op ρ H).h=H:=by
 cases op<;>simp only[z6f,Bool.false_eq_true]at hk
 case makeSlice t l c=>
  revert hp;simp only[zdh,hk,zmf]
  repeat' (first|exact kMk H|exact kOk H|exact kBad H|split)
 case move=>rfl
 case assign=>rfl
 case pick=>exact yp9 H _ _ _ hp
 case load=>exact yqc P H _ _ hp
 case nilCheck x=>
  revert hp;simp only[zdh]
  repeat' (first|exact kMk H|exact kOk H|exact kBad H|split)
 case binOp=>exact kBin P H _ _ _ _ hp
 case unOp=>exact kUn H _ _ hp
 case makeFunc fn first cap=>
  revert hp;cases fn<;>simp only[zdh]
  all_goals (repeat' (first|exact kMk H|exact kOk H|exact kBad H|split))
 case makeInterface=>exact yqb P H _ _ hp
 case typeAssert=>exact kTA P H _ _ _ hp
 case lookup=>exact yha P H _ _ _ _ hp
 case fieldAddr=>exact kFA P H _ _ _ hp
 case field=>exact kF P H _ _ _ hp
 case indexAddr=>exact kIA P H _ _ _ hp
 case index=>exact kIx P H _ _ _ hp
 case extract x i=>
  revert hp;simp only[zdh]
  repeat' (first|exact kMk H|exact kOk H|exact kBad H|split)
 case build=>exact yk5 P H _ _ hp
 case convert s d x=>
  revert hp hk;simp only[zdh,hv,z4w]
  cases ρ x with
  |one c=>
   cases c with
   |int k n=>intro hp _;revert hp;simp only[z4x];repeat' (first|exact kMk H|exact kOk H|exact kBad H|split)
   |_=>simp
  |_=>simp
 case slice t x lo hi mx=>
  revert hp hk;simp only[zdh];split
  ·intro h;exact h.elim
  cases ρ x with
  |one c=>
   cases c<;>intro hp hk<;>revert hp<;>simp only[Bool.false_eq_true]at hk<;>simp only[zyw]
   all_goals (repeat' (first|exact kMk H|exact kOk H|exact kBad H|exact kSR P H _ _ _ _ _|split))
  |_=>intro hp hk;simp at hk
 case call c=>
  obtain⟨callee,args,ats⟩:=c
  cases callee with
  |builtin b=>
   revert hp;simp only[zdh,hz,biZ];cases b<;>simp only[Bool.false_eq_true]at hk
   case len=>unfold biF;repeat' (first|contradiction|exact kMk H|exact kOk H|exact kBad H|exact kLen P H _ _|split)
   case max=>unfold biF;repeat' (first|contradiction|exact kMk H|exact kOk H|exact kBad H|split)
   case min=>unfold biF;repeat' (first|contradiction|exact kMk H|exact kOk H|exact kBad H|split)
  |value f=>simp at hk
  |invoke r m=>simp at hk
end
section
variable {P:Program} {call:zzv}
theorem z6e {pos:String} {op:Op} {st:St} (hz:z4p pos=false) (hv:z7w pos=false) (hp:(zdh P pos op st.ρ st.H).pre) (hk:yg9 P pos op st=true):(zdh P pos op st.ρ st.H).h=st.H:=by
 unfold yg9 at hk;split at hk
 ·exact ya5 hk
 ·exact z2z P _ hz hv hp hk
theorem ymr (hc:zmd P call) {o:Oper} {st st':St} {K:St->Prop} (h:evQ P call o st=some st') (hk:K st'):awpQ P o st K:=by
 obtain⟨dst,op,ty,pos,after,guard⟩:=o
 cases op with
 |call c=>
  obtain⟨callee,args,ats⟩:=c
  cases callee with
  |value f=>
   simp only[evQ]at h;simp only[awpQ];split at h
   ·rename_i g cap hf
    rw[hf];split at h
    ·rename_i hl
     split at h
     ·rename_i x hx
      split at h
      ·rename_i hb
       obtain rfl:=Option.some.inj h;obtain⟨hp,hx0⟩:=z1e hc hx;exact⟨x,zua hp rfl hl hx0 (by simpa using hb) ⟨rfl,rfl⟩,hk⟩
      ·cases h
     ·cases h
    ·cases h
   ·cases h
  |_=>
   simp only[evQ]at h;split at h
   ·rename_i hp
    obtain⟨hp,hz,hv,hq⟩:=hp;obtain rfl:=Option.some.inj h
    have e:=z6e hz hv hp hq
    exact⟨hp,fun _=>⟨e,by rw[e];exact hk⟩⟩
   ·cases h
 |_=>
  simp only[evQ]at h;split at h
  ·rename_i hp
   obtain⟨hp,hz,hv,hq⟩:=hp;obtain rfl:=Option.some.inj h
   have e:=z6e hz hv hp hq
   exact⟨hp,fun _=>⟨e,by rw[e];exact hk⟩⟩
  ·cases h
theorem yca {all:Array Oper} {k:Nat} {t:List (Nat×V)} (h:yfy all k t=true):zx8 P all k t:=by
 simp only[yfy,Bool.or_eq_true,Bool.and_eq_true]at h
 rcases h with h|⟨h1,h2⟩
 ·exact .inl h
 ·refine .inr ⟨h1,?_⟩
  generalize zdg all k=L at h2
  induction L with
  |nil=>trivial
  |cons i L ih=>
   simp only[List.all_cons,Bool.and_eq_true]at h2;refine⟨?_,ih h2.2⟩
   have hi:=h2.1
   unfold z94 at hi;unfold z2y;split at hi
   ·rename_i o ho
    have eρ:∀(H:List O) x,St.ρ ⟨t,H⟩ x=St.ρ ⟨t,[]⟩ x:=fun H x=>by cases x<;>rfl
    rw[ho];simp only;split at hi
    ·rename_i x d e1 e2
     rw[e1,e2];exact fun H=>⟨trivial,rfl,by show St.ρ ⟨t,H⟩ x=_;rw[eρ];exact ya4 hi⟩
    ·rename_i x d e1 e2
     rw[e1,e2];exact fun H=>⟨trivial,rfl,by show St.ρ ⟨t,H⟩ x=_;rw[eρ];exact ya4 hi⟩
    ·cases hi
   ·cases hi
theorem zwj (hc:zmd P call) {all:Array Oper} {K:St->Prop}:∀{l:List Oper} {N:List Fo} {st st':St},z0l P call all l N st=some st'->K st'->awpDraw P all l N st K
 |[],N,st,st',h,hk=>by
  obtain rfl:=Option.some.inj h;exact hk
 |o::rest,N,st,st',h,hk=>by
  unfold z0l at h;unfold awpDraw;split at h
  ·rename_i p v N' hf
   rw[hf];split at h
   ·rename_i hp
    rw[hf]at hp;exact⟨hp,zwj hc h hk⟩
   ·cases h
  ·rename_i hf
   rw[hf];simp only;split at h
   ·rename_i he
    rw[he];split at h
    ·rename_i ht
     exact⟨yca ht,zyk hc h hk⟩
    ·cases h
   ·rename_i he
    rw[he];split at h
    ·rename_i hu
     refine⟨hu,?_⟩;split at h
     ·rename_i st1 hg
      split at h
      ·rename_i st2 ho
       exact zyi hg (fun _=>ymr hc ho (zwj hc h hk)) (fun e=>by cases e)
      ·cases h
     ·rename_i st1 hg
      exact zyi hg (fun e=>by cases e) (fun _=>zwj hc h hk)
     ·cases h
    ·cases h
theorem yc7 {t:TypeId} {c:C} {H H':List O} (e:zut H' c=zut H c):(ztk P t (.one c) H).pre->(ztk P t (.one c) H').pre/\(ztk P t (.one c) H').h=H'/\(ztk P t (.one c) H').v=(ztk P t (.one c) H).v:=by
 simp only[ztk];rw[e]
 cases tAg P t with
 |none=>exact fun h=>h.elim
 |some q=>cases zut H c with
  |none=>exact fun h=>h.elim
  |some r=>exact fun h=>⟨h,rfl,rfl⟩
theorem z1r {t:TypeId} {c:C} {f:Nat} {H H':List O} (e:∀id ver r off,c=.ref id ver r off->H'[id]? =H[id]?):(zew P t (.one c) f H).pre->(zew P t (.one c) f H').pre/\(zew P t (.one c) f H').h=H'/\(zew P t (.one c) f H').v=(zew P t (.one c) f H).v:=by
 unfold zew
 cases tFd P t f with
 |none=>exact fun h=>h.elim
 |some q=>
  cases c with
  |ref id ver r off=>
   simp only;rw[e id ver r off rfl]
   cases H[id]? with
   |none=>exact fun h=>h.elim
   |some o=>cases o with
    |cells cur sz rows=>exact fun h=>⟨h,rfl,rfl⟩
    |_=>exact fun h=>h.elim
  |iptr row off=>exact fun h=>⟨h,rfl,rfl⟩
  |_=>exact fun h=>h.elim
theorem z63 {pos:String} {op:Op} {ρ:Operand->V} {H:List O} {S:List Nat} (hp:(zdh P pos op ρ H).pre) (h:z3u op ρ S=true):zve P pos op ρ H S:=by
 intro H' hag
 have key:∀{x:V},z7f S x=true->∃c,x=.one c/\(∀id ver r off,c=.ref id ver r off->H'[id]? =H[id]?)/\zut H' c=zut H c:=by
  intro x hx
  cases x with
  |one c=>
   refine⟨c,rfl,?_⟩;cases c<;>simp only[z7f,Bool.false_eq_true]at hx
   case iptr row off=>exact⟨fun _ _ _ _ e=>(by cases e),rfl⟩
   case ref id ver r off=>
    have:=hag id (by simpa using hx)
    exact⟨fun _ _ _ _ e=>(by cases e;exact this),by simp only[zut,this]⟩
  |_=>simp[z7f]at hx
 cases op<;>simp only[z3u,Bool.false_eq_true]at h
 case move=>exact⟨trivial,rfl,rfl⟩
 case assign=>exact⟨trivial,rfl,rfl⟩
 case fieldAddr t x f=>
  obtain⟨c,e1,e2,_⟩:=key h;simp only[zdh,e1]at hp|-;exact z1r e2 hp
 case load t x=>
  obtain⟨c,e1,_,e2⟩:=key h;simp only[zdh,e1]at hp|-;exact yc7 e2 hp
 case nilCheck x=>
  obtain⟨c,e1,e2,_⟩:=key h;simp only[zdh,e1]at hp|-
  cases c with
  |ref id ver r off=>
   simp only at hp|-;rw[e2 id ver r off rfl]
   cases ho:H[id]? with
   |none=>rw[ho]at hp;exact hp.elim
   |some o=>cases o with
    |cells cur sz rows=>rw[ho]at hp;exact⟨hp,rfl,rfl⟩
    |_=>rw[ho]at hp;exact hp.elim
  |iptr row off=>exact⟨trivial,rfl,rfl⟩
  |_=>exact hp.elim
theorem z3i (hc:zmd P call) {S Fl FE:List Nat} {K:St->Prop}:∀{l:List Oper} {k:Nat} {st st':St},evF P call S Fl FE k l st=some st'->K st'->awpF P S Fl FE k l st K
 |[],k,st,st',h,hk=>by simp only[evF]at h;obtain rfl:=Option.some.inj h;exact hk
 |o::rest,k,st,st',h,hk=>by
  obtain⟨dst,op,ty,pos,after,guard⟩:=o;simp only[evF]at h;simp only[awpF];split at h
  ·rename_i he
   rw[he];simp only
   cases op with
   |call c=>
    obtain⟨callee,args,ats⟩:=c
    cases callee with
    |value f=>
     (try simp only at h);(try simp only)
     split at h
     ·rename_i g cap hf
      rw[hf];split at h
      ·rename_i x H1 hv
       split at h
       ·rename_i hb
        refine⟨x,H1,hc _ _ _ _ _ hv,fun hfe=>?_,z3i hc h hk⟩;rw[hfe]at hb;exact zzt (by simpa using hb)
       ·cases h
      ·cases h
     ·cases h
    |_=>
     (try simp only at h);(try simp only)
     split at h
     ·rename_i hb
      exact⟨hb.1,fun hfe=>zzt (by rcases hb.2 with e|e<;>simp_all),z3i hc h hk⟩
     ·cases h
   |_=>
    (try simp only at h);(try simp only)
    split at h
    ·rename_i hb
     exact⟨hb.1,fun hfe=>zzt (by rcases hb.2 with e|e<;>simp_all),z3i hc h hk⟩
    ·cases h
  ·rename_i he
   rw[he];simp only;split at h
   ·rename_i hb
    obtain⟨hp,hz,hv,hq,hs⟩:=hb
    exact⟨hp,z2z P _ hz hv hp hq,fun hfl=>z63 hp (by rcases hs with e|e<;>simp_all),z3i hc h hk⟩
   ·cases h
theorem yds (hc:zmd P call) {ops:Array Oper} {st st':St} {K:St->Prop} (h:yia P call ops st=some st') (hk:K st'):floB ops=true/\∃S Fl FE,floL ops Fl FE=true/\awpF P S Fl FE 0 ops.toList st K:=by
 unfold yia at h;split at h
 ·rename_i hb
  simp only[Bool.and_eq_true]at hb;exact⟨hb.1,_,_,_,hb.2,z3i hc h hk⟩
 ·cases h
theorem zzd:∀(t:List (Nat×V)) (seen:List Nat) (i:Nat),look (z3v t seen) i=if seen.contains i then .un else look t i
 |[],seen,i=>by simp[z3v,look]
 |(k,v)::r,seen,i=>by
  unfold z3v;split
  ·rename_i hs
   rw[zzd r seen i];split
   ·rfl
   ·rename_i hi
    rw[zex];split
    ·rename_i e;subst e;exact absurd hs hi
    ·rfl
  ·rename_i hs
   rw[zex,zzd r (k::seen) i,zex]
   by_cases e:k=i
   ·subst e;have hs':k∉seen:=by simpa using hs
    simp[hs,hs']
   ·have e':(i==k)=false:=by simp;exact fun h=>e h.symm
    simp only[List.contains_cons,e',Bool.false_or,if_neg e]
theorem LoopSem.slim {n:Cf} {c:Code} {st:St} {Q:Ex->St->Prop} (h:LoopSem P n c st.slim Q):LoopSem P n c st Q:=by
 intro hok ctx a E hs
 exact h hok ctx a E ⟨hs.len,hs.hm,hs.defers,fun i=>by
  show VRel E (look (z3v st.t []) i) _
  rw[zzd];exact hs.tm i,hs.H,hs.rel,hs.tr⟩
theorem zmc (hc:zmd P call):∀(k:Nat) (n:Cf) (c:Code) (lab:Option Nat) (st:St) (e:Ex) (st':St),evC P call k n c lab st=some (e,st')->∀Q:Ex->St->Prop,Q e st'->match lab with
  |none=>awp P n c st Q
  |some l=>z7s P n c Q (.goto l) st
 |0,_,_,_,_,_,_,h,_,_=>by cases h
 |k+1,n,c,some l,st,e,st',h,Q,hq=>by
  simp only[evC]at h;split at h
  ·rename_i rest hf
   split at h
   ·rename_i hok
    refine⟨rest,hf,hok,zxu hok ?_⟩;split at h
    ·rename_i l' st1 h1
     exact zmc hc k n rest none st _ st1 h1 _ (zmc hc k n c (some l') st1 e st' h Q hq)
    ·rename_i h1
     refine zmc hc k n rest none st e st' h _ ?_
     cases e with
     |goto l'=>exact absurd h (h1 l' st')
     |_=>exact hq
   ·cases h
  ·cases h
 |k+1,n,c,none,st,e,st',h,Q,hq=>by
  show awp P n c st Q
  cases c with
  |skip=>simp only[evC]at h;obtain⟨rfl,rfl⟩:=Prod.mk.inj (Option.some.inj h);exact hq
  |label _=>simp only[evC]at h;obtain⟨rfl,rfl⟩:=Prod.mk.inj (Option.some.inj h);exact hq
  |region _ ops draw=>
   simp only[evC]at h
   cases draw with
   |true=>
    dsimp only at h;simp only[awp];split at h
    ·rename_i hf
     rw[hf];split at h
     ·rename_i hd
      simp only[Bool.and_eq_true]at hd;split at h
      ·rename_i st1 h1
       obtain⟨rfl,rfl⟩:=Prod.mk.inj (Option.some.inj h);obtain⟨q1,S,Fl,FE,q2,q3⟩:=yds hc h1 hq;exact⟨hd.1,hd.2,q1,S,Fl,FE,q2,q3⟩
      ·cases h
     ·cases h
    ·rename_i hf
     rw[hf];split at h
     ·rename_i hd
      simp only[Bool.and_eq_true]at hd;split at h
      ·rename_i st1 h1
       obtain⟨rfl,rfl⟩:=Prod.mk.inj (Option.some.inj h);exact⟨hd.1,hd.2,zwj hc h1 hq⟩
      ·cases h
     ·cases h
   |false=>
    dsimp only at h;simp only[awp];split at h
    ·rename_i st1 h1
     obtain⟨rfl,rfl⟩:=Prod.mk.inj (Option.some.inj h);exact zyk hc h1 hq
    ·cases h
  |seq a b=>
   simp only[evC]at h;simp only[awp];split at h
   ·rename_i st1 h1
    exact zmc hc k n a none st _ st1 h1 _ (zmc hc k n b none st1 e st' h Q hq)
   ·rename_i h1
    refine zmc hc k n a none st e st' h _ ?_
    cases e with
    |normal=>exact absurd h (h1 st')
    |_=>exact hq
  |cond x a b=>
   simp only[evC]at h;simp only[awp,z1y];split at h
   ·rename_i hx;rw[hx];exact⟨fun _=>zmc hc k n a none st e st' h Q hq,fun e=>by cases e⟩
   ·rename_i hx;rw[hx];exact⟨fun e=>(by cases e),fun _=>zmc hc k n b none st e st' h Q hq⟩
   ·cases h
  |block id b=>
   simp only[evC]at h;simp only[awp];split at h
   ·rename_i i st1 h1
    refine zmc hc k n b none st _ st1 h1 _ ?_;simp only[z0p];split at h
    ·rename_i hi
     obtain⟨rfl,rfl⟩:=Prod.mk.inj (Option.some.inj h);rw[if_pos hi];exact hq
    ·rename_i hi
     obtain⟨rfl,rfl⟩:=Prod.mk.inj (Option.some.inj h);rw[if_neg hi];exact hq
   ·rename_i h1
    refine zmc hc k n b none st e st' h _ ?_
    cases e with
    |exit i=>exact absurd h (h1 i st')
    |_=>exact hq
  |loop b=>
   simp only[evC]at h;simp only[awp];refine LoopSem.slim (zzb ?_);split at h
   ·rename_i st1 h1
    exact zmc hc k n b none _ _ st1 h1 _ (zmc hc k n (.loop b) none st1 e st' h Q hq)
   ·rename_i h1
    refine zmc hc k n b none _ e st' h _ ?_
    cases e with
    |normal=>exact absurd h (h1 st')
    |_=>exact hq
  |scope b=>
   simp only[evC]at h;simp only[awp];split at h
   ·rename_i l st1 h1
    exact zmc hc k n b none st _ st1 h1 _ (zmc hc k n b (some l) st1 e st' h Q hq)
   ·rename_i h1
    refine zmc hc k n b none st e st' h _ ?_
    cases e with
    |goto l=>exact absurd h (h1 l st')
    |_=>exact hq
  |goto l=>simp only[evC]at h;obtain⟨rfl,rfl⟩:=Prod.mk.inj (Option.some.inj h);exact hq
  |exit id=>simp only[evC]at h;obtain⟨rfl,rfl⟩:=Prod.mk.inj (Option.some.inj h);exact hq
  |ret=>simp only[evC]at h;obtain⟨rfl,rfl⟩:=Prod.mk.inj (Option.some.inj h);exact hq
  |_=>simp only[evC]at h;cases h
theorem z8z {st:St} {r:ResultVar} {x:V} (h:resB P st r=some x):∃p,zjz P st.H st.t r=some (x,p)/\p:=by
 cases r with
 |tmp i=>simp only[resB]at h;obtain rfl:=Option.some.inj h;exact⟨True,rfl,trivial⟩
 |cell i ty=>
  simp only[resB]at h;simp only[zjz];split at h
  ·rename_i c hl
   rw[hl];simp only;split at h
   ·rename_i g n row off p h1 h2
    rw[h1,h2];simp only;split at h
    ·rename_i hb
     obtain rfl:=Option.some.inj h;simp only[Bool.and_eq_true,decide_eq_true_eq]at hb;exact⟨_,rfl,(z5q h2).1 hb.1,hb.2⟩
    ·cases h
   ·cases h
  ·cases h
theorem z8y {st:St}:∀{rs:List ResultVar} {xs:List V},resL P st rs=some xs->∃ys,rs.mapM (zjz P st.H st.t)=some ys/\(∀y∈ys,y.2)/\ys.map (·.1)=xs
 |[],xs,h=>by obtain rfl:=Option.some.inj h;exact⟨[],rfl,by simp,rfl⟩
 |r::rs,xs,h=>by
  simp only[resL]at h;split at h
  ·rename_i x ys hx hy
   obtain rfl:=Option.some.inj h;obtain⟨p,h1,h2⟩:=z8z hx;obtain⟨zs,h3,h4,h5⟩:=z8y hy;refine⟨(x,p)::zs,by simp[List.mapM_cons,h1,h3],?_,by simp[h5]⟩;intro y hy
   rcases List.mem_cons.1 hy with rfl|hy
   ·exact h2
   ·exact h4 y hy
  ·cases h
theorem ya8 {rs:List ResultVar} {st:St} {x:V} {K:V->List O->Prop} (h:endB P rs st=some x) (hk:K x st.H):resK P rs st K:=by
 unfold endB at h;unfold resK;split at h
 ·rename_i r
  obtain⟨p,h1,h2⟩:=z8z h;simp only[h1];exact⟨h2,hk⟩
 ·rename_i hn
  split at h
  ·rename_i xs hx
   obtain rfl:=Option.some.inj h;obtain⟨ys,h1,h2,h3⟩:=z8y hx;split
   ·rename_i r;exact absurd rfl (hn r)
   ·rw[h1]
    simp only;exact⟨h2,by rw[h3];exact hk⟩
  ·cases h
theorem z3j (hc:zmd P call):zmd P (z6m P call):=by
 intro g args H v H' h;unfold z6m at h;split at h
 ·rename_i fn hf
  split at h
  ·rename_i c hb
   split at h
   ·rename_i ho
    simp only[Bool.and_eq_true,Bool.not_eq_true']at ho;refine zt8 hf hb ho.1 ho.2 ?_;split at h
    ·rename_i st h1
     split at h
     ·rename_i x hx
      obtain⟨rfl,rfl⟩:=Prod.mk.inj (Option.some.inj h);exact zmc hc _ _ _ none _ _ _ h1 _ (by simp only[endK];exact ya8 hx ⟨rfl,rfl⟩)
     ·cases h
    ·rename_i st h1
     split at h
     ·rename_i x hx
      obtain⟨rfl,rfl⟩:=Prod.mk.inj (Option.some.inj h);exact zmc hc _ _ _ none _ _ _ h1 _ (by simp only[endK];exact ya8 hx ⟨rfl,rfl⟩)
     ·cases h
    ·cases h
   ·cases h
  ·cases h
 ·cases h
theorem yex:∀k,zmd P (evK P k)
 |0=>fun _ _ _ _ _ h=>by cases h
 |k+1=>z3j (yex k)
def evKO (P:Program) (orc:zzv):Nat->zzv
 |0=>orc
 |k+1=>fun g args H=>match orc g args H with
  |some r=>some r
  |none=>z6m P (evKO P orc k) g args H
theorem ya0 {orc:zzv} (ho:zmd P orc):∀k,zmd P (evKO P orc k)
 |0=>ho
 |k+1=>by
  intro g args H v H' h;simp only[evKO]at h;split at h
  ·rename_i r hr
   obtain rfl:=Option.some.inj h;exact ho _ _ _ _ _ hr
  ·exact z3j (ya0 ho k) _ _ _ _ _ h
theorem z88 {orc:zzv} (ho:zmd P orc) (k:Nat) {g:FuncId} {args:List V} {x:V} (h:pcOf (evKO P orc k) g args=some x):Pu P g args x:=(z1e (ya0 ho k) h).1
theorem z1c (k:Nat) {g:FuncId} {args:List V} {x:V} (h:pcOf (evK P k) g args=some x):Pu P g args x:=(z1e (yex k) h).1
end
end Go.Lz

end
section
namespace Go.Lz
open Go.Proofs
set_option maxRecDepth 100000
theorem zov {f:FuncId} {fn:Func} {t s b:Nat} {rows:List (List C)} {H:List O} (hf:Tryz.prog.funcs[f]? =some fn) (h:(∀r∈rows,r.length=s)/\rows.length*b<=140737488355328/\rows.length<=lim) (hb:fn.body=some (ye1 t 4):=by rfl) (I:(tSl Tryz.prog t).map (fun q=>(q.2.1,q.2.2,((tZ Tryz.prog q.1).bind V.cs).map List.length))=some (s,b,some s):=by kernel_rfl) (hs:0<s:=by decide)
  (ab:(fn.name== "runtime.NumGoroutine")=false:=by kernel_rfl) (ae:fn.ntmps=8:=by rfl) (ad:fn.results= #[.tmp 2]:=by rfl):Ct Tryz.prog f [.one (.sl rows)] H fun v H'=>v=zsa H rows/\H'=zsb H s rows:=by
 cases ht:tSl Tryz.prog t with
 |none=>rw[ht]at I;cases I
 |some q=>
  obtain⟨e,s',b'⟩:=q;rw[ht]at I;simp only[Option.map_some,Option.some.injEq,Prod.mk.injEq]at I;obtain⟨rfl,rfl,I⟩:=I
  cases U:tZ Tryz.prog e with
  |none=>simp[U]at I
  |some z=>
   rw[U]at I
   cases aa:z.cs with
   |none=>simp[aa]at I
   |some zs=>exact yd0 hf hb ab ae ad ht U aa (by simpa [aa]using I) hs h.1 h.2.1 h.2.2
theorem zn0 {xs:List (List Int)} {H:List O} (h:24*xs.length<=140737488355328):Ct Tryz.prog 56 [.one (.sl (xs.map (eL eI)))] H fun v H'=>v=.one (.msl H.length 0 0 xs.length)/\H'=H++[.cells 0 1 (xs.map (eL eI))]:=by
 have:=zov (H:=H) Tryz.func56 (rows:=xs.map (eL eI)) (s:=1) (b:=24) (t:=32) ⟨fun r hr=>by obtain⟨x,_,rfl⟩:=List.mem_map.1 hr;simp[go_sem],by simp;omega,by simp[lim];omega⟩
 simpa [zsa,zsb]using this
theorem zn1 {xs:List (A4 Int)} {H:List O} (h:32*xs.length<=140737488355328):Ct Tryz.prog 57 [.one (.sl (xs.map (eA4 eI)))] H fun v H'=>v=.one (.msl H.length 0 0 xs.length)/\H'=H++[.cells 0 4 (xs.map (eA4 eI))]:=by
 have:=zov (H:=H) Tryz.func57 (rows:=xs.map (eA4 eI)) (s:=4) (b:=32) (t:=33) ⟨fun r hr=>by obtain⟨x,_,rfl⟩:=List.mem_map.1 hr;simp[go_sem],by simp;omega,by simp[lim];omega⟩
 simpa [zsa,zsb]using this
def zkk (s:List (Int)):Option (List (Int)):=need (8*s.length<=140737488355328) (some s)
theorem zik {xs:List (Int)} {H:List O} (h:8*xs.length<=140737488355328):Ct Tryz.prog 58 [.one (.sl (xs.map eI))] H fun v H'=>v=.one (.msl H.length 0 0 xs.length)/\H'=H++[.cells 0 1 (xs.map eI)]:=by
 have:=zov (H:=H) Tryz.func58 (rows:=xs.map eI) (s:=1) (b:=8) (t:=36) ⟨fun r hr=>by obtain⟨x,_,rfl⟩:=List.mem_map.1 hr;simp[go_sem],by simp;omega,by simp[lim];omega⟩
 simpa [zsa,zsb]using this
theorem zqq {s:List (Int)} {r:List (Int)} (h:zkk s=some r):Pu Tryz.prog 58 [.one (.sl (s.map eI))] (.one (.sl (r.map eI))):=by
 obtain⟨h1,h2⟩:=z1g h;cases h2
 have e:(V.one (.msl 0 0 0 s.length)).view [O.cells 0 1 (s.map eI)]=.one (.sl (s.map eI)):=by simp[go_sem]
 have:=z5y (v:=.one (.msl 0 0 0 s.length)) (H':=[.cells 0 1 (s.map eI)]) (by simpa using zik (xs:=s) (H:=[]) h1) (by rw[e];simp[go_sem])
 rw[e]at this;exact this
theorem zkz {xs:List (xsa)} {H:List O} (h:16*xs.length<=140737488355328):Ct Tryz.prog 59 [.one (.sl (xs.map xr8))] H fun v H'=>v=.one (.msl H.length 0 0 xs.length)/\H'=H++[.cells 0 2 (xs.map xr8)]:=by
 have:=zov (H:=H) Tryz.func59 (rows:=xs.map xr8) (s:=2) (b:=16) (t:=37) ⟨fun r hr=>by obtain⟨x,_,rfl⟩:=List.mem_map.1 hr;simp[go_sem],by simp;omega,by simp[lim];omega⟩
 simpa [zsa,zsb]using this
end Go.Lz

end
section
namespace Go.Lz
open Go.Proofs
set_option maxRecDepth 100000
def cloneTab:List (Nat×Nat×Nat):=[(56,1,24),(57,4,32),(58,1,8),(59,2,16)]
def orcC:zzv:=fun g args H=>match args with
 |[.one (.sl rows)]=>match cloneTab.find? (fun p=>p.1==g)with
  |some (_,s,b)=>if(∀r∈rows,r.length=s)/\rows.length*b<=140737488355328/\rows.length<=lim then some (zsa H rows,zsb H s rows)else none
  |none=>none
 |_=>none
theorem ygz:zmd Tryz.prog orcC:=by
 intro g args H v H' h;unfold orcC at h;split at h
 ·rename_i rows
  split at h
  ·rename_i U s b hf
   split at h
   ·rename_i hc
    obtain⟨rfl,rfl⟩:=Prod.mk.inj (Option.some.inj h)
    have hm:=List.mem_of_find?_eq_some hf
    have I:=List.find?_some hf
    simp only[beq_iff_eq]at I;subst I;simp only[cloneTab,List.mem_cons,Prod.mk.injEq,List.not_mem_nil,or_false]at hm
    rcases hm with⟨rfl,rfl,rfl⟩|⟨rfl,rfl,rfl⟩|⟨rfl,rfl,rfl⟩|⟨rfl,rfl,rfl⟩
    ·exact zov Tryz.func56 hc
    ·exact zov Tryz.func57 hc
    ·exact zov Tryz.func58 hc
    ·exact zov Tryz.func59 hc
   ·cases h
  ·cases h
 ·cases h
def yej:xrw:=⟨⟨[[108,111,119],[104,105,103,104]],[⟨0,1⟩]⟩,[],[⟨[104],⟨2,0,0⟩,0,1,0⟩],[],[]⟩
def ye0:xrx:=⟨8,0,0,[],[⟨1,1,2,[],[]⟩,⟨1,0,2,[],[]⟩]⟩
theorem z99:Pu Tryz.prog 149 [.agg (xr5 yej),.one (.sl (([1]:List Int).map eI)),.agg (xr3 ye0)] (.one (.int .i64 0)):=
 yaa (lr:=[1]) (z1c 20 (by kernel_rfl)) (z1c 20 (by kernel_rfl)) (z1c 20 (by kernel_rfl))
def yp7:List V:=[.agg (xr5 yej),.one (.sl (([1]:List Int).map eI)),.agg (xr3 ye0)]
def orcE:zzv:=fun g args H=>match g==149&&H.isEmpty&&eqVs args yp7 with
 |true=>some (.one (.int .i64 0),[])
 |false=>orcC g args H
theorem ygy:zmd Tryz.prog orcE:=by
 intro g args H v H' h;unfold orcE at h;split at h
 ·rename_i hc
  simp only[Bool.and_eq_true,beq_iff_eq,List.isEmpty_iff]at hc;obtain⟨⟨rfl,rfl⟩,h3⟩:=hc;obtain⟨rfl,rfl⟩:=Prod.mk.inj (Option.some.inj h);rw[ya3 h3];exact z99
 ·exact ygz _ _ _ _ _ h
def zfz:Option Bool:=some true
theorem zi7 {r:Bool} (h:zfz=some r):Pu Tryz.prog 9 [] (.one (.bool r)):=by
 obtain rfl:=Option.some.inj h;exact z88 ygy 40 (by kernel_rfl)
end Go.Lz

end
section
namespace Go.Lz
open Go.Proofs
attribute [-go_sem] zmz g_b gd_b
set_option maxRecDepth 100000
set_option maxHeartbeats 4000000
noncomputable section
end
end Go.Lz

end
section
namespace Go.Lz
open Go.Proofs
attribute [-go_sem] zmz g_b gd_b
set_option maxRecDepth 100000
set_option maxHeartbeats 4000000
noncomputable section
def zlg (p:xrw):((List Int)×Nat)->Option (((List Int)×Nat)⊕(List Int))
 |(I,U)=>if(U:Int)<(p.Blocks.length:Int)then((p.Blocks[U]?).bind fun aa=>need ((I.length+1)*8<=140737488355328) (some (.inl ((I++[aa.Label]),(U+1)))))else(some (.inr (I)))
def zm6 (p:xrw):((List Int)×Nat)->Option (((List Int)×Nat)⊕(List Int))
 |(I,U)=>if(U:Int)<(p.Vars.length:Int)then((p.Vars[U]?).bind fun aa=>need ((I.length+1)*8<=140737488355328) (some (.inl ((I++[aa.Label]),(U+1)))))else(some (.inr (I)))
def zm7 (r_:xsd):((List (List Int))×Nat)->Option (((List (List Int))×Nat)⊕(List (List Int)))
 |(I,U)=>if(U:Int)<(r_.Memory.Cells.length:Int)then((I[U]?).bind fun aa=>(zkk aa).bind fun ab=>some (.inl ((I.set U ab),(U+1))))else(some (.inr (I)))
def zt6 (p:xrw) (I:xsd) (e:xrx) (pc:Int):Option (Int×xsd):=
 need (24*I.Memory.Cells.length<=140737488355328) (need (32*I.Memory.Blocks.length<=140737488355328) ((loop (zm7 I) (I.Memory.Cells,0)).bind (fun aa=>need (8*I.Left.length<=140737488355328) (need (8*I.Latches.length<=140737488355328) (need (16*I.Events.length<=140737488355328) ((loop (zm6 p) ([],0)).bind (fun ab=>(loop (zlg p) (ab,0)).bind (fun ad=>(zoa aa I.Memory.Blocks I.Left I.Latches I.Events I.Now p ad e pc).bind fun U=>some (U.1,(⟨(⟨aa,I.Memory.Blocks⟩:xsg),I.Left,U.2.1,U.2.2,I.Now⟩:xsd))))))))))
end
theorem z3h {p:xrw} {I:xsd} {e:xrx} {pc:Int} {r:Int×xsd} (h:zt6 p I e pc=some r):
  Pu Tryz.prog 10 [.agg (xr5 p),.agg (xsk I),.agg (xr3 e),.one (.int .i64 pc)] (.tup [.one (.int .i64 r.1),.agg (xsk r.2)]):=by
 have F:=trivial;have R:=trivial
 refine pT Tryz.func10 ?_;simp only[Tryz.f10];unfold zt6 at h;refine yos ?_;refine tr ?_;intros;refine iS Tryz.func31 ?_;simp only[Tryz.f31];refine tt ?_
 first|refine⟨by kernel_rfl,[4],[4,5,6,8,9],[3,7],by kernel_rfl,?_⟩|refine⟨mo,zry (by kernel_rfl),by kernel_rfl,[4],[4,5,6,8,9],[3,7],by kernel_rfl,?_⟩
 refine tt ?_
 repeat (first|(with_reducible intro _)|((with_reducible refine zs4 ?_ ?_);first|((with_reducible refine sq_i ?_);exact sq_)|exact ss))
 refine nd h F fun h F=>?_;refine cC8 (zn0 F.1) ?_;refine tt ?_
 repeat (first|(with_reducible intro _)|((with_reducible refine zs4 ?_ ?_);first|((with_reducible refine sq_i ?_);exact sq_)|exact ss))
 refine nd h F fun h F=>?_;refine cC8 (zn1 F.1) ?_;refine tt ?_
 repeat (first|(with_reducible intro _)|((with_reducible refine zs4 ?_ ?_);first|((with_reducible refine sq_i ?_);exact sq_)|exact ss))
 refine bi h fun U h aG=>?_;refine tr ?_;intros
 refine lX aG (fun|(aj,aq),_=>⟨[(1,.one (.ref 4 0 0 0)),(2,.one (.ref 5 0 0 0)),(19,.one (.msl 6 0 0 aj.length)),(20,.one (.int .i64 (I.Memory.Cells.length:Int))),(21,.one (.int .i64 (aq:Int)))],[.cells 0 6 [[.sl (p.Lattice.Names.map eS),.sl (p.Lattice.Below.map (eA2 eI)),.sl (p.Sites.map xrz),.sl (p.Vars.map xr0),.sl (p.Blocks.map xr1),.sl (p.Tasks.map xr2)]],.cells 0 6 [[.sl (I.Memory.Cells.map (eL eI)),.sl (I.Memory.Blocks.map (eA4 eI)),.sl (I.Left.map eI),.sl (I.Latches.map eI),.sl (I.Events.map xr8),.int .i64 I.Now]],.cells 0 5 [[.int .i64 e.Op,.int .i64 e.N,.int .i64 e.Kind,.str e.Name,.sl (e.Args.map xr3)]],.cells 0 6 [[.slf [],.slf [],.slf [],.slf [],.slf [],.int .i64 0]],.cells 0 6 [[.msl 6 0 0 aj.length,.msl 7 0 0 I.Memory.Blocks.length,.sl (I.Left.map eI),.sl (I.Latches.map eI),.sl (I.Events.map xr8),.int .i64 I.Now]],.cells 0 6 [[.slf [],.slf [],.slf [],.slf [],.slf [],.int .i64 0]],.cells 0 1 (aj.map (eL eI)),.cells 0 4 (I.Memory.Blocks.map (eA4 eI))]⟩) (fun|U,_=>⟨[(1,.one (.ref 4 0 0 0)),(2,.one (.ref 5 0 0 0))],[.cells 0 6 [[.sl (p.Lattice.Names.map eS),.sl (p.Lattice.Below.map (eA2 eI)),.sl (p.Sites.map xrz),.sl (p.Vars.map xr0),.sl (p.Blocks.map xr1),.sl (p.Tasks.map xr2)]],.cells 0 6 [[.sl (I.Memory.Cells.map (eL eI)),.sl (I.Memory.Blocks.map (eA4 eI)),.sl (I.Left.map eI),.sl (I.Latches.map eI),.sl (I.Events.map xr8),.int .i64 I.Now]],.cells 0 5 [[.int .i64 e.Op,.int .i64 e.N,.int .i64 e.Kind,.str e.Name,.sl (e.Args.map xr3)]],.cells 0 6 [[.slf [],.slf [],.slf [],.slf [],.slf [],.int .i64 0]],.cells 0 6 [[.msl 6 0 0 U.length,.msl 7 0 0 I.Memory.Blocks.length,.sl (I.Left.map eI),.sl (I.Latches.map eI),.sl (I.Events.map xr8),.int .i64 I.Now]],.cells 0 6 [[.slf [],.slf [],.slf [],.slf [],.slf [],.int .i64 0]],.cells 0 1 (U.map (eL eI)),.cells 0 4 (I.Memory.Blocks.map (eA4 eI))]⟩) (fun _=>some 0) ?_ ?_
 intro i6 b6 aO;obtain rfl:=Option.some.inj aO;obtain⟨⟩:=b6;dsimp only at h|-;refine tt ?_
 first|refine⟨by kernel_rfl,[4],[3,4,6,7,9],[2,5,8],by kernel_rfl,?_⟩|refine⟨mo,zry (by kernel_rfl),by kernel_rfl,[4],[3,4,6,7,9],[2,5,8],by kernel_rfl,?_⟩
 refine tt ?_
 repeat (first|(with_reducible intro _)|((with_reducible refine zs4 ?_ ?_);first|((with_reducible refine sq_i ?_);exact sq_)|exact ss))
 refine nd h F fun h F=>?_;refine cC8 (zik F.1) ?_;refine tt ?_
 repeat (first|(with_reducible intro _)|((with_reducible refine zs4 ?_ ?_);first|((with_reducible refine sq_i ?_);exact sq_)|exact ss))
 refine nd h F fun h F=>?_;refine cC8 (zik F.1) ?_;refine tt ?_
 repeat (first|(with_reducible intro _)|((with_reducible refine zs4 ?_ ?_);first|((with_reducible refine sq_i ?_);exact sq_)|exact ss))
 refine nd h F fun h F=>?_;refine cC8 (zkz F.1) ?_;refine tt ?_
 repeat (first|(with_reducible intro _)|((with_reducible refine zs4 ?_ ?_);first|((with_reducible refine sq_i ?_);exact sq_)|exact ss))
 refine tt ?_
 show Sem' _ _ _ _ _
 refine bi h fun an h aB=>?_;refine bi h fun aa h aC=>?_;refine cutF 4 [2] [2,3] [1] mo (by kernel_rfl) ?_;refine tt ?_
 repeat (first|(with_reducible intro _)|((with_reducible refine zs4 ?_ ?_);first|((with_reducible refine sq_i ?_);exact sq_)|exact ss))
 refine iF (.one (.ref 12 0 0 0)) ([.cells 0 6 [[.sl (p.Lattice.Names.map eS),.sl (p.Lattice.Below.map (eA2 eI)),.sl (p.Sites.map xrz),.sl (p.Vars.map xr0),.sl (p.Blocks.map xr1),.sl (p.Tasks.map xr2)]],.cells 0 6 [[.msl 6 0 0 U.length,.msl 7 0 0 I.Memory.Blocks.length,.msl 8 0 0 I.Left.length,.msl 9 0 0 I.Latches.length,.msl 10 0 0 I.Events.length,.int .i64 I.Now]],.cells 0 5 [[.int .i64 e.Op,.int .i64 e.N,.int .i64 e.Kind,.str e.Name,.sl (e.Args.map xr3)]],.cells 0 6 [[.slf [],.slf [],.slf [],.slf [],.slf [],.int .i64 0]],.cells 0 6 [[.msl 6 0 0 U.length,.msl 7 0 0 I.Memory.Blocks.length,.msl 8 0 0 I.Left.length,.msl 9 0 0 I.Latches.length,.msl 10 0 0 I.Events.length,.int .i64 I.Now]],.cells 0 6 [[.msl 6 0 0 U.length,.msl 7 0 0 I.Memory.Blocks.length,.msl 8 0 0 I.Left.length,.msl 9 0 0 I.Latches.length,.msl 10 0 0 I.Events.length,.int .i64 I.Now]],.cells 0 1 (U.map (eL eI)),.cells 0 4 (I.Memory.Blocks.map (eA4 eI)),.cells 0 1 (I.Left.map eI),.cells 0 1 (I.Latches.map eI),.cells 0 2 (I.Events.map xr8),.cells 0 6 [[.sl (p.Lattice.Names.map eS),.sl (p.Lattice.Below.map (eA2 eI)),.sl (p.Sites.map xrz),.sl (p.Vars.map xr0),.sl (p.Blocks.map xr1),.sl (p.Tasks.map xr2)]],.cells 0 8 [[.ref 1 0 0 0,.sl (p.Lattice.Names.map eS),.sl (p.Lattice.Below.map (eA2 eI)),.sl (p.Sites.map xrz),.sl (p.Vars.map xr0),.sl (p.Blocks.map xr1),.sl (p.Tasks.map xr2),.msl 13 aa.length 0 aa.length]],.cells aa.length 1 (aa.map eI)]) Tryz.func32 ?_ ?_
 ·simp only[Tryz.f32]
  refine tr ?_;intros;refine yj1 12 7 1 (by rfl) (by rfl) ?_
  refine lE (fun(av:(List Int)×Nat) (aw:Unit)=>match av,aw with|(ae,ar),_=>⟨[(2,.one (.ref 11 0 0 0)),(5,.one (.ref 12 0 0 0)),(15,.one (.sl (p.Vars.map xr0))),(16,.one (.int .i64 (p.Vars.length:Int))),(17,.one (.int .i64 (ar:Int)))],[.cells 0 6 [[.sl (p.Lattice.Names.map eS),.sl (p.Lattice.Below.map (eA2 eI)),.sl (p.Sites.map xrz),.sl (p.Vars.map xr0),.sl (p.Blocks.map xr1),.sl (p.Tasks.map xr2)]],.cells 0 6 [[.msl 6 0 0 U.length,.msl 7 0 0 I.Memory.Blocks.length,.msl 8 0 0 I.Left.length,.msl 9 0 0 I.Latches.length,.msl 10 0 0 I.Events.length,.int .i64 I.Now]],.cells 0 5 [[.int .i64 e.Op,.int .i64 e.N,.int .i64 e.Kind,.str e.Name,.sl (e.Args.map xr3)]],.cells 0 6 [[.slf [],.slf [],.slf [],.slf [],.slf [],.int .i64 0]],.cells 0 6 [[.msl 6 0 0 U.length,.msl 7 0 0 I.Memory.Blocks.length,.msl 8 0 0 I.Left.length,.msl 9 0 0 I.Latches.length,.msl 10 0 0 I.Events.length,.int .i64 I.Now]],.cells 0 6 [[.msl 6 0 0 U.length,.msl 7 0 0 I.Memory.Blocks.length,.msl 8 0 0 I.Left.length,.msl 9 0 0 I.Latches.length,.msl 10 0 0 I.Events.length,.int .i64 I.Now]],.cells 0 1 (U.map (eL eI)),.cells 0 4 (I.Memory.Blocks.map (eA4 eI)),.cells 0 1 (I.Left.map eI),.cells 0 1 (I.Latches.map eI),.cells 0 2 (I.Events.map xr8),.cells 0 6 [[.sl (p.Lattice.Names.map eS),.sl (p.Lattice.Below.map (eA2 eI)),.sl (p.Sites.map xrz),.sl (p.Vars.map xr0),.sl (p.Blocks.map xr1),.sl (p.Tasks.map xr2)]],.cells 0 8 [[.ref 1 0 0 0,.sl (p.Lattice.Names.map eS),.sl (p.Lattice.Below.map (eA2 eI)),.sl (p.Sites.map xrz),.sl (p.Vars.map xr0),.sl (p.Blocks.map xr1),.sl (p.Tasks.map xr2),.msl 13 ae.length 0 ae.length]],.cells ae.length 1 (ae.map eI)]⟩) (fun(ax:List Int) (ay:Unit)=>match ax,ay with|an,_=>⟨[(2,.one (.ref 11 0 0 0)),(5,.one (.ref 12 0 0 0))],[.cells 0 6 [[.sl (p.Lattice.Names.map eS),.sl (p.Lattice.Below.map (eA2 eI)),.sl (p.Sites.map xrz),.sl (p.Vars.map xr0),.sl (p.Blocks.map xr1),.sl (p.Tasks.map xr2)]],.cells 0 6 [[.msl 6 0 0 U.length,.msl 7 0 0 I.Memory.Blocks.length,.msl 8 0 0 I.Left.length,.msl 9 0 0 I.Latches.length,.msl 10 0 0 I.Events.length,.int .i64 I.Now]],.cells 0 5 [[.int .i64 e.Op,.int .i64 e.N,.int .i64 e.Kind,.str e.Name,.sl (e.Args.map xr3)]],.cells 0 6 [[.slf [],.slf [],.slf [],.slf [],.slf [],.int .i64 0]],.cells 0 6 [[.msl 6 0 0 U.length,.msl 7 0 0 I.Memory.Blocks.length,.msl 8 0 0 I.Left.length,.msl 9 0 0 I.Latches.length,.msl 10 0 0 I.Events.length,.int .i64 I.Now]],.cells 0 6 [[.msl 6 0 0 U.length,.msl 7 0 0 I.Memory.Blocks.length,.msl 8 0 0 I.Left.length,.msl 9 0 0 I.Latches.length,.msl 10 0 0 I.Events.length,.int .i64 I.Now]],.cells 0 1 (U.map (eL eI)),.cells 0 4 (I.Memory.Blocks.map (eA4 eI)),.cells 0 1 (I.Left.map eI),.cells 0 1 (I.Latches.map eI),.cells 0 2 (I.Events.map xr8),.cells 0 6 [[.sl (p.Lattice.Names.map eS),.sl (p.Lattice.Below.map (eA2 eI)),.sl (p.Sites.map xrz),.sl (p.Vars.map xr0),.sl (p.Blocks.map xr1),.sl (p.Tasks.map xr2)]],.cells 0 8 [[.ref 1 0 0 0,.sl (p.Lattice.Names.map eS),.sl (p.Lattice.Below.map (eA2 eI)),.sl (p.Sites.map xrz),.sl (p.Vars.map xr0),.sl (p.Blocks.map xr1),.sl (p.Tasks.map xr2),.msl 13 an.length 0 an.length]],.cells an.length 1 (an.map eI)]⟩) (fun(_:List Int)=>some 0) () aB ?_ ?_
  intro i17 a5 aH;obtain rfl:=Option.some.inj aH;dsimp only;refine tr ?_;intros
  refine lE (fun(av:(List Int)×Nat) (aw:Unit)=>match av,aw with|(af,au),_=>⟨[(5,.one (.ref 12 0 0 0)),(34,.one (.sl (p.Blocks.map xr1))),(35,.one (.int .i64 (p.Blocks.length:Int))),(36,.one (.int .i64 (au:Int)))],[.cells 0 6 [[.sl (p.Lattice.Names.map eS),.sl (p.Lattice.Below.map (eA2 eI)),.sl (p.Sites.map xrz),.sl (p.Vars.map xr0),.sl (p.Blocks.map xr1),.sl (p.Tasks.map xr2)]],.cells 0 6 [[.msl 6 0 0 U.length,.msl 7 0 0 I.Memory.Blocks.length,.msl 8 0 0 I.Left.length,.msl 9 0 0 I.Latches.length,.msl 10 0 0 I.Events.length,.int .i64 I.Now]],.cells 0 5 [[.int .i64 e.Op,.int .i64 e.N,.int .i64 e.Kind,.str e.Name,.sl (e.Args.map xr3)]],.cells 0 6 [[.slf [],.slf [],.slf [],.slf [],.slf [],.int .i64 0]],.cells 0 6 [[.msl 6 0 0 U.length,.msl 7 0 0 I.Memory.Blocks.length,.msl 8 0 0 I.Left.length,.msl 9 0 0 I.Latches.length,.msl 10 0 0 I.Events.length,.int .i64 I.Now]],.cells 0 6 [[.msl 6 0 0 U.length,.msl 7 0 0 I.Memory.Blocks.length,.msl 8 0 0 I.Left.length,.msl 9 0 0 I.Latches.length,.msl 10 0 0 I.Events.length,.int .i64 I.Now]],.cells 0 1 (U.map (eL eI)),.cells 0 4 (I.Memory.Blocks.map (eA4 eI)),.cells 0 1 (I.Left.map eI),.cells 0 1 (I.Latches.map eI),.cells 0 2 (I.Events.map xr8),.cells 0 6 [[.sl (p.Lattice.Names.map eS),.sl (p.Lattice.Below.map (eA2 eI)),.sl (p.Sites.map xrz),.sl (p.Vars.map xr0),.sl (p.Blocks.map xr1),.sl (p.Tasks.map xr2)]],.cells 0 8 [[.ref 1 0 0 0,.sl (p.Lattice.Names.map eS),.sl (p.Lattice.Below.map (eA2 eI)),.sl (p.Sites.map xrz),.sl (p.Vars.map xr0),.sl (p.Blocks.map xr1),.sl (p.Tasks.map xr2),.msl 13 af.length 0 af.length]],.cells af.length 1 (af.map eI)]⟩) (fun(ax:List Int) (ay:Unit)=>match ax,ay with|aa,_=>⟨[(5,.one (.ref 12 0 0 0))],[.cells 0 6 [[.sl (p.Lattice.Names.map eS),.sl (p.Lattice.Below.map (eA2 eI)),.sl (p.Sites.map xrz),.sl (p.Vars.map xr0),.sl (p.Blocks.map xr1),.sl (p.Tasks.map xr2)]],.cells 0 6 [[.msl 6 0 0 U.length,.msl 7 0 0 I.Memory.Blocks.length,.msl 8 0 0 I.Left.length,.msl 9 0 0 I.Latches.length,.msl 10 0 0 I.Events.length,.int .i64 I.Now]],.cells 0 5 [[.int .i64 e.Op,.int .i64 e.N,.int .i64 e.Kind,.str e.Name,.sl (e.Args.map xr3)]],.cells 0 6 [[.slf [],.slf [],.slf [],.slf [],.slf [],.int .i64 0]],.cells 0 6 [[.msl 6 0 0 U.length,.msl 7 0 0 I.Memory.Blocks.length,.msl 8 0 0 I.Left.length,.msl 9 0 0 I.Latches.length,.msl 10 0 0 I.Events.length,.int .i64 I.Now]],.cells 0 6 [[.msl 6 0 0 U.length,.msl 7 0 0 I.Memory.Blocks.length,.msl 8 0 0 I.Left.length,.msl 9 0 0 I.Latches.length,.msl 10 0 0 I.Events.length,.int .i64 I.Now]],.cells 0 1 (U.map (eL eI)),.cells 0 4 (I.Memory.Blocks.map (eA4 eI)),.cells 0 1 (I.Left.map eI),.cells 0 1 (I.Latches.map eI),.cells 0 2 (I.Events.map xr8),.cells 0 6 [[.sl (p.Lattice.Names.map eS),.sl (p.Lattice.Below.map (eA2 eI)),.sl (p.Sites.map xrz),.sl (p.Vars.map xr0),.sl (p.Blocks.map xr1),.sl (p.Tasks.map xr2)]],.cells 0 8 [[.ref 1 0 0 0,.sl (p.Lattice.Names.map eS),.sl (p.Lattice.Below.map (eA2 eI)),.sl (p.Sites.map xrz),.sl (p.Vars.map xr0),.sl (p.Blocks.map xr1),.sl (p.Tasks.map xr2),.msl 13 aa.length 0 aa.length]],.cells aa.length 1 (aa.map eI)]⟩) (fun(_:List Int)=>some 2) () aC ?_ ?_
  intro i25 a7 aI;obtain rfl:=Option.some.inj aI;dsimp only;exact fin;intro aJ a8 aP aW a9 ab az aK;obtain⟨af,au⟩:=aP;dsimp only[zlg]at ab|-;refine fl ab F ?_ ?_<;>intro ab _ F;refine bx ab F fun aX ab aU F=>?_;refine tt ?_
  repeat (first|(with_reducible intro _)|refine⟨sb,?_⟩)
  refine⟨lt_ [0],?_⟩;refine nd ab F fun ab F=>?_;cases ab;refine tr ?_;intros;refine wn au F fun F=>?_;exact bk aK az (());cases ab;refine tt ?_;exact xt az aJ ();intro aL ba aQ aY bb ad aA aM;obtain⟨ae,ar⟩:=aQ;dsimp only[zm6]at ad|-;refine fl ad F ?_ ?_<;>intro ad _ F;refine bx ad F fun aZ ad aV F=>?_;refine tt ?_
  repeat (first|(with_reducible intro _)|refine⟨sb,?_⟩)
  refine⟨lt_ [0],?_⟩;refine nd ad F fun ad F=>?_;cases ad;refine tr ?_;intros;refine wn ar F fun F=>?_;exact bk aM aA (());cases ad;refine tt ?_;exact xt aA aL ()
 refine tt ?_
 repeat (first|(with_reducible intro _)|((with_reducible refine zs4 ?_ ?_);first|((with_reducible refine sq_i ?_);exact sq_)|exact ss))
 refine bi h fun ao h aD=>?_
 refine cLX8 [12,1,6,7,8,9,10,13] (.one (.int .i64 ao.1)) (fun aR:Nat×Nat=>match aR with|(ak,al)=>[.cells 0 6 [[.sl (p.Lattice.Names.map eS),.sl (p.Lattice.Below.map (eA2 eI)),.sl (p.Sites.map xrz),.sl (p.Vars.map xr0),.sl (p.Blocks.map xr1),.sl (p.Tasks.map xr2)]],.cells 0 6 [[.msl 6 0 0 U.length,.msl 7 0 0 I.Memory.Blocks.length,.msl 8 0 0 I.Left.length,.msl 9 ak 0 ao.2.1.length,.msl 10 al 0 ao.2.2.length,.int .i64 I.Now]],.cells 0 5 [[.int .i64 e.Op,.int .i64 e.N,.int .i64 e.Kind,.str e.Name,.sl (e.Args.map xr3)]],.cells 0 6 [[.slf [],.slf [],.slf [],.slf [],.slf [],.int .i64 0]],.cells 0 6 [[.msl 6 0 0 U.length,.msl 7 0 0 I.Memory.Blocks.length,.msl 8 0 0 I.Left.length,.msl 9 0 0 I.Latches.length,.msl 10 0 0 I.Events.length,.int .i64 I.Now]],.cells 0 6 [[.msl 6 0 0 U.length,.msl 7 0 0 I.Memory.Blocks.length,.msl 8 0 0 I.Left.length,.msl 9 0 0 I.Latches.length,.msl 10 0 0 I.Events.length,.int .i64 I.Now]],.cells 0 1 (U.map (eL eI)),.cells 0 4 (I.Memory.Blocks.map (eA4 eI)),.cells 0 1 (I.Left.map eI),.cells ak 1 (ao.2.1.map eI),.cells al 2 (ao.2.2.map xr8),.cells 0 6 [[.sl (p.Lattice.Names.map eS),.sl (p.Lattice.Below.map (eA2 eI)),.sl (p.Sites.map xrz),.sl (p.Vars.map xr0),.sl (p.Blocks.map xr1),.sl (p.Tasks.map xr2)]],.cells 0 8 [[.ref 1 0 0 0,.sl (p.Lattice.Names.map eS),.sl (p.Lattice.Below.map (eA2 eI)),.sl (p.Sites.map xrz),.sl (p.Vars.map xr0),.sl (p.Blocks.map xr1),.sl (p.Tasks.map xr2),.msl 13 aa.length 0 aa.length]],.cells aa.length 1 (aa.map eI)]) (zwi (w0:=0) (w1:=0) (w2:=0) (w3:=0) (w4:=0) (w5:=0) (w6:=0) (w7:=aa.length) aD) ?_
 rintro⟨ak,al⟩;dsimp only;refine tr ?_;intros;cases h;exact fin;intro aS m6 s6 a6 o6 ai aE aT;obtain⟨aj,aq⟩:=s6;obtain⟨⟩:=a6;dsimp only[zm7]at ai|-;refine fl ai F ?_ ?_<;>intro ai _ F;refine bx ai F fun bc ai a4 F=>?_;refine bi ai fun aF ai aN=>?_;refine tr ?_;intros;refine cD (zqq aN) ?_
 have R:=And.intro (show(List.map (eL eI) aj).set aq [.sl (aF.map eI)]=List.map (eL eI) (aj.set aq aF) by simp[go_sem,List.map_set]) R
 cases ai;refine tr ?_;intros;refine wn aq F fun F=>?_;exact bk aT aE ();cases ai;refine tt ?_;exact xt aE aS ()
end Go.Lz

end
section
namespace Go.Lz
open Go.Proofs
attribute [-go_sem] zmz g_b gd_b
set_option maxRecDepth 100000
set_option maxHeartbeats 4000000
noncomputable section
def zb0 (r_:xsd) (U:Int×xsd):Nat->Option ((Nat)⊕(Bool⊕Unit))
 |I=>if(I:Int)<(U.2.Latches.length:Int)then(if(U.2.Latches.length:Int)=(r_.Latches.length:Int)then((r_.Latches[I]?).bind fun aa=>if aa=0 then(some (.inl (I+1)))else((U.2.Latches[I]?).bind fun ab=>if ab=aa then(some (.inl (I+1)))else(some (.inr (.inl (false))))))else(some (.inr (.inl (false)))))else(some (.inr (.inr (()))))
def zfg (p:xrw) (U:xsd) (e:xrx):Option Bool:=
 (zg6 p U).bind fun ak=>if ak=0 then((zfz).bind fun al=>some al)else((zfy p e).bind fun an=>if an=true then((zt6 p U e 0).bind fun I=>if(I.2.Events.length:Int)<(U.Events.length:Int)then(some false)else((loop (zb0 U I) 0).bind (fun ao=>match ao with|(.inl aa)=>some aa|(.inr ())=>(zam p e).bind fun ab=>(zav ab I.1).bind fun ad=>if ad=true then((zdl I.2.Memory U.Memory).bind fun ae=>if ae=true then((zbj I.2.Left U.Left).bind fun af=>if af=true then((zfz).bind fun ai=>some ai)else(some false))else(some false))else(some false))))else((zfz).bind fun aj=>some aj))
end
theorem zn8 {p:xrw} {r_:xsd} {e:xrx} {r:Bool} (h:zfg p r_ e=some r):
  Pu Tryz.prog 5 [.agg (xr5 p),.agg (xsk r_),.agg (xr3 e)] (.one (.bool r)):=by
 have F:=trivial;have R:=trivial
 refine pA Tryz.func5 ?_;simp only[Tryz.f5];unfold zfg at h;refine bi h fun aI h ao=>?_;refine tr ?_;intros;refine cS (zs2 ao) ?_;refine fi h F ?_ ?_<;>intro h _ F;refine bi h fun aJ h aq=>?_;refine tr ?_;intros;refine cS (zi7 aq) ?_;cases h;exact fin;refine bi h fun aK h ar=>?_;refine tr ?_;intros;refine cS (zrq ar) ?_;refine fv h F ?_ ?_<;>intro h _ F;refine bi h fun U h au=>?_;refine tr ?_
 intros;refine cS (z3h au) ?_;refine tr ?_;intros;refine fl h F ?_ ?_<;>intro h _ F;cases h;exact fin;refine bi h fun aw h av=>?_;refine tt ?_
 refine lX av (fun|ab,_=>⟨[(3,.one (.ref 0 0 0 0)),(4,.one (.ref 1 0 0 0)),(5,.one (.ref 2 0 0 0)),(7,.one (.int .i64 U.1)),(8,.one (.ref 3 0 0 0)),(9,.one (.int .i64 (ab:Int)))],[.cells 0 6 [[.sl (p.Lattice.Names.map eS),.sl (p.Lattice.Below.map (eA2 eI)),.sl (p.Sites.map xrz),.sl (p.Vars.map xr0),.sl (p.Blocks.map xr1),.sl (p.Tasks.map xr2)]],.cells 0 6 [[.sl (r_.Memory.Cells.map (eL eI)),.sl (r_.Memory.Blocks.map (eA4 eI)),.sl (r_.Left.map eI),.sl (r_.Latches.map eI),.sl (r_.Events.map xr8),.int .i64 r_.Now]],.cells 0 5 [[.int .i64 e.Op,.int .i64 e.N,.int .i64 e.Kind,.str e.Name,.sl (e.Args.map xr3)]],.cells 0 6 [[.sl (U.2.Memory.Cells.map (eL eI)),.sl (U.2.Memory.Blocks.map (eA4 eI)),.sl (U.2.Left.map eI),.sl (U.2.Latches.map eI),.sl (U.2.Events.map xr8),.int .i64 U.2.Now]]]⟩) (fun|(.inl az),_=>⟨[],[]⟩|(.inr ()),_=>⟨[(3,.one (.ref 0 0 0 0)),(4,.one (.ref 1 0 0 0)),(5,.one (.ref 2 0 0 0)),(7,.one (.int .i64 U.1)),(8,.one (.ref 3 0 0 0))],[.cells 0 6 [[.sl (p.Lattice.Names.map eS),.sl (p.Lattice.Below.map (eA2 eI)),.sl (p.Sites.map xrz),.sl (p.Vars.map xr0),.sl (p.Blocks.map xr1),.sl (p.Tasks.map xr2)]],.cells 0 6 [[.sl (r_.Memory.Cells.map (eL eI)),.sl (r_.Memory.Blocks.map (eA4 eI)),.sl (r_.Left.map eI),.sl (r_.Latches.map eI),.sl (r_.Events.map xr8),.int .i64 r_.Now]],.cells 0 5 [[.int .i64 e.Op,.int .i64 e.N,.int .i64 e.Kind,.str e.Name,.sl (e.Args.map xr3)]],.cells 0 6 [[.sl (U.2.Memory.Cells.map (eL eI)),.sl (U.2.Memory.Blocks.map (eA4 eI)),.sl (U.2.Left.map eI),.sl (U.2.Latches.map eI),.sl (U.2.Events.map xr8),.int .i64 U.2.Now]]]⟩) (fun|(.inl _)=>none|(.inr _)=>some 0) ?_ ?_
 intro i7 b7 al
 rcases aw with ax|⟨⟩
 cases al;obtain rfl:=Option.some.inj al;obtain⟨⟩:=b7;dsimp only at h|-;refine bi h fun aA h ad=>?_;refine tr ?_;intros;refine cS (zbc ad) ?_;refine bi h fun aB h ae=>?_;refine tr ?_;intros;refine cS (zd3 ae) ?_;refine fv h F ?_ ?_<;>intro h _ F;refine bi h fun aC h af=>?_;refine tr ?_;intros;refine cS (zpy af) ?_;refine fv h F ?_ ?_<;>intro h _ F;refine bi h fun aD h ai=>?_;refine tr ?_
 intros;refine cS (zjr ai) ?_;refine fv h F ?_ ?_<;>intro h _ F;refine bi h fun aE h aj=>?_;refine tr ?_;intros;refine cS (zi7 aj) ?_;cases h;exact fin;cases h;exact fin;cases h;exact fin;cases h;exact fin;intro ay m7 ab a7 o7 I aa an;obtain⟨⟩:=a7;dsimp only[zb0]at I|-;refine tr ?_;intros;refine fl I F ?_ ?_<;>intro I _ F;refine tr ?_;intros;refine fi I F ?_ ?_<;>intro I _ F;refine bx I F fun aL I aF F=>?_
 refine tr ?_;intros;refine fi I F ?_ ?_<;>intro I _ F;cases I;refine tr ?_;intros;refine wn ab F fun F=>?_;exact bk an aa ();refine bx I F fun aM I aG F=>?_;refine tr ?_;intros;refine fi I F ?_ ?_<;>intro I _ F;cases I;refine tt ?_;refine wn ab F fun F=>?_;exact bk an aa ();cases I;obtain rfl:=sr aa
 try dsimp only at h
 cases h;exact fin;cases I;obtain rfl:=sr aa
 try dsimp only at h
 cases h;exact fin;cases I;refine tt ?_;exact xt aa ay ();refine bi h fun aH h ak=>?_;refine tr ?_;intros;refine cS (zi7 ak) ?_;cases h;exact fin
end Go.Lz

end
section
namespace Go.Lz
def zeroCells (vars:List xr7):List (List Int):=vars.map fun v=>List.replicate (zw0 v.Type_) 0
theorem z4e (m:xsg):zdl m m=some true:=by
 unfold zdl
 rw[if_pos rfl,if_pos rfl,zum (fun i=>i) m.Cells.length (.inr ()) (fun i hi=>by
  have I:m.Cells[i]? =some m.Cells[i]:=List.getElem?_eq_getElem hi
  simp only[zfc];rw[if_pos (by omega),I,Option.bind_some,Option.bind_some,yes]
  simp) (by simp[zfc]),Option.bind_some]
 simp only
 rw[zum (fun i=>i) m.Blocks.length (.inr ()) (fun i hi=>by
  have I:m.Blocks[i]? =some m.Blocks[i]:=List.getElem?_eq_getElem hi
  simp only[zfb];rw[if_pos (by omega),I,Option.bind_some,Option.bind_some]
  simp) (by simp[zfb]),Option.bind_some]
end Go.Lz

end
section
namespace Go.Lz
theorem ycv {e:xrx} (h:zbu e=some true) (o:e.Op=1):okV e.Kind e.N:=by
 unfold zbu at h;rw[if_pos o]at h
 by_cases n0:0<=e.N
 ·rw[if_pos n0]at h
  by_cases I:e.Kind=1
  ·rw[if_pos I]at h
   by_cases n1:e.N<=1
   ·exact .inl ⟨I,by omega⟩
   ·rw[if_neg n1,if_neg (by omega),if_neg (by omega),if_neg (by omega)]at h;cases h
  rw[if_neg I]at h
  by_cases U:e.Kind=2
  ·rw[if_pos U]at h
   by_cases n1:e.N<=32767
   ·exact .inr (.inl ⟨U,by omega⟩)
   ·rw[if_neg n1,if_neg (by omega),if_neg (by omega)]at h;cases h
  rw[if_neg U]at h
  by_cases n1:e.N<=2147483647
  ·by_cases k3:e.Kind=3\/e.Kind=4
   ·exact .inr (.inr ⟨k3,by omega⟩)
   ·rw[if_neg (by omega),if_neg (by omega)]at h;cases h
  ·rw[if_neg n1,ite_self]at h
   repeat' (first|(cases h;done)|split at h)
 ·rw[if_neg n0]at h;cases h
theorem okE {p:xrw} (P:zkv p) {C:List (List Int)} {B:List (A4 Int)} (hC:C.length=p.Vars.length) (hB:B.length=p.Blocks.length) (U:∀(i:Nat) v c,p.Vars[i]? =some v->C[i]? =some c->∀x∈c,okV v.Type_.Kind x):
  ∀(n:Nat) (e:xrx),depE e<=n->GoodE e->zfh p e≠0->okV (zfh p e) (vE p C B e).1
 |0,e,h,_,_=>by rw[zdv]at h;omega
 |n+1,e,h,g,h0=>by
  have K:=z6d P g h0
  rw[zdv]at h
  have I:∀x∈e.Args,zfh p x≠0->okV (zfh p x) (vE p C B x).1:=fun x hx k=>okE P hC hB U n x (by have:=zf2 hx;omega) (g.arg hx) k
  have cell:∀{v:xr7},p.Vars[(varN p e.Name).toNat]? =some v->(e.Op=2\/e.Op=3)->okV v.Type_.Kind (vE p C B e).1:=fun{v} hv o=>by
   have hi:(varN p e.Name).toNat<C.length:=by
    have:=(List.getElem?_eq_some_iff.1 hv).1;omega
   have kv:isK v.Type_.Kind:=(P.vars v (List.mem_of_getElem? hv)).kind
   rw[zx4];unfold vO;rw[if_neg (by omega),if_pos o,hv,List.getElem?_eq_getElem hi];simp only;unfold getN
   cases hp:zr7 v.Type_ C[(varN p e.Name).toNat].length ((vEs p C B e.Args).getD 0 0)with
   |none=>exact z51 kv
   |some k=>
    have hk:=z5z hp
    simp only;rw[List.getD_eq_getElem?_getD,List.getElem?_eq_getElem hk];exact U _ v _ hv (List.getElem?_eq_getElem hi) _ (List.getElem_mem hk)
  cases K with
  |num o a k=>
   rw[k,zx4];unfold vO;rw[if_pos o]
   have:=g.ok;rw[zwe]at this
   exact ycv this.1 o
  |var v o a i0 hv l k=>rw[k];exact cell hv (.inl o)
  |index v x o a i0 hv l kx k=>rw[k];exact cell hv (.inr o)
  |out b l o a i0 hb hl n0 n1 k=>
   have hi:(zh6 p e.Name).toNat<B.length:=by
    have:=(List.getElem?_eq_some_iff.1 hb).1;omega
   obtain⟨v,w1,w2⟩:=ykn B[(zh6 p e.Name).toNat] hl n0 n1;rw[k,zx4];unfold vO;rw[if_neg (by omega),if_neg (by omega),if_pos o,hb,List.getElem?_eq_getElem hi];simp only[w1];exact w2
  |site x o a i0 k=>
   have:=I x (by rw[a];simp) (by omega)
   rw[k,zx4];unfold vO;rw[if_neg (by omega),if_neg (by omega),if_neg (by omega),if_pos o,a,vEs];exact this
  |un x o a k=>
   obtain⟨v,w1,w2⟩:=unOk (a:=(vE p C B x).1) o k h0;rw[zx4];unfold vO;rw[if_neg (by omega),if_neg (by omega),if_neg (by omega),if_neg (by omega),if_pos o,a,vEs,kArg];simp only[List.getD_cons_zero,w1];exact w2
  |bin x y o a kk k=>
   obtain⟨v,c,w1,w2,_⟩:=ym7 (a:=(vE p C B x).1) (b:=(vE p C B y).1) o k h0;rw[zx4];unfold vO;rw[if_neg (by omega),if_neg (by omega),if_neg (by omega),if_neg (by omega),if_neg (by omega),a,vEs,vEs,vEs,kArg];simp only[List.getD_cons_zero,List.getD_cons_succ,w1];exact w2
def LG (s t:RS):Prop:=t.1.length=s.1.length/\(∀(i:Nat) a,s.1[i]? =some a->a≠0->t.1[i]? =some a)/\s.2.length<=t.2.length
theorem LG.rfl {s:RS}:LG s s:=⟨by rfl,fun _ _ h _=>h,Nat.le_refl _⟩
theorem LG.trans {s t u:RS} (h:LG s t) (k:LG t u):LG s u:=⟨by rw[k.1,h.1],fun i a ha h0=>k.2.1 i a (h.2.1 i a ha h0) h0,Nat.le_trans h.2.2 k.2.2⟩
theorem LG.latch {s:RS} {j c:Int}:LG s (zzg s.1 j c,s.2):=by
 unfold zzg;split
 ·rename_i h
  refine⟨by simp,fun i a ha h0=>?_,Nat.le_refl _⟩
  have:¬j.toNat=i:=fun e=>by rw[e,ha]at h;exact h0 (Option.some.inj h.2)
  simp only;rw[List.getElem?_set_ne this];exact ha
 ·exact LG.rfl
theorem LG.step {p:xrw} {labels:List Int} {pc:Int} {e:xrx} {v:Int×Int} {s:RS}:LG s (rO p labels pc e v s):=by
 unfold rO;split
 ·exact⟨by rfl,fun _ _ h _=>h,by simp⟩
 ·split
  ·exact LG.rfl
  ·exact LG.latch
mutual
theorem z85 {p:xrw} {C:List (List Int)} {B:List (A4 Int)} {labels:List Int} {pc:Int}:∀(e:xrx) (s:RS),LG s (rE p C B labels pc e s)
 |⟨op,n,k,name,args⟩,s=>by
  rw[rE];exact(z5w args s).trans LG.step
theorem z5w {p:xrw} {C:List (List Int)} {B:List (A4 Int)} {labels:List Int} {pc:Int}:∀(l:List xrx) (s:RS),LG s (rEs p C B labels pc l s)
 |[],s=>by rw[rEs];exact LG.rfl
 |e::es,s=>by
  rw[rEs];exact(z85 e s).trans (z5w es _)
end
def zzh (p:xrw):List Int:=p.Vars.map (·.Label)++p.Blocks.map (·.Label)
noncomputable def ansN (p:xrw) (r:xsd) (e:xrx) (pc:Int):Int×xsd:=
 ((vE p r.Memory.Cells r.Memory.Blocks e).1,⟨r.Memory,r.Left,(rE p r.Memory.Cells r.Memory.Blocks (zzh p) pc e (r.Latches,r.Events)).1,(rE p r.Memory.Cells r.Memory.Blocks (zzh p) pc e (r.Latches,r.Events)).2,r.Now⟩)
structure RunP (p:xrw) (r:xsd):Prop where
 nc:r.Memory.Cells.length=p.Vars.length
 nb:r.Memory.Blocks.length=p.Blocks.length
 nl:r.Left.length<=1000
 nt:r.Latches.length<=1000
 ne:r.Events.length<=100000000
 cl:∀c∈r.Memory.Cells,c.length<=1000
theorem ydr {p:xrw} (P:zkv p) {r:xsd} (R:RunP p r) {e:xrx} (g:GoodE e) (h0:zfh p e≠0) (pc:Int):zt6 p r e pc=some (ansN p r e pc):=by
 have h1:=P.nv;have h2:=P.nb;have h3:=R.nc;have h4:=R.nb;have h5:=R.nl;have h6:=R.nt;have h7:=R.ne;have h8:=g.sz;have h9:=g.dep
 unfold zt6;rw[zf3 (by omega),zf3 (by omega)]
 have e1:loop (zm7 r) (r.Memory.Cells,0)=some r.Memory.Cells:=zum (fun i=>(r.Memory.Cells,i)) r.Memory.Cells.length r.Memory.Cells (fun i hi=>by
  have I:r.Memory.Cells[i]? =some r.Memory.Cells[i]:=List.getElem?_eq_getElem hi
  have hc:=R.cl _ (List.getElem_mem hi)
  simp only[zm7];rw[if_pos (by omega),I,Option.bind_some];unfold zkk
  rw[zf3 (by omega),Option.bind_some,List.set_getElem_self]) (by simp only[zm7];rw[if_neg (by omega)])
 rw[e1,Option.bind_some,zf3 (by omega),zf3 (by omega),zf3 (by omega)]
 have e2:loop (zm6 p) ([],0)=some (p.Vars.map (·.Label)):=zum (fun i=>((p.Vars.take i).map (·.Label),i)) p.Vars.length (p.Vars.map (·.Label)) (fun i hi=>by
  have I:p.Vars[i]? =some p.Vars[i]:=List.getElem?_eq_getElem hi
  simp only[zm6]
  rw[if_pos (by omega),I,Option.bind_some,zf3 (by rw[List.length_map,List.length_take];omega),zqo hi,List.map_append];rfl) (by
  simp only[zm6]
  rw[if_neg (by omega),List.take_of_length_le (Nat.le_refl _)])
 have e3:=zum (f:=zlg p) (fun i=>(p.Vars.map (·.Label)++(p.Blocks.take i).map (·.Label),i)) p.Blocks.length (zzh p) (fun i hi=>by
  have I:p.Blocks[i]? =some p.Blocks[i]:=List.getElem?_eq_getElem hi
  simp only[zlg]
  rw[if_pos (by omega),I,Option.bind_some,zf3 (by rw[List.length_append,List.length_map,List.length_map,List.length_take];omega),zqo hi,List.map_append,List.append_assoc];rfl) (by
  simp only[zlg]
  rw[if_neg (by omega),List.take_of_length_le (Nat.le_refl _)];rfl)
 have U:loop (zlg p) (p.Vars.map (·.Label),0)=some (zzh p):=by simpa using e3
 obtain⟨v1,_⟩:=yec P h3 h4 (left:=r.Left) (labels:=zzh p) (now:=r.Now) (pc:=pc) 1000000 e (by omega) g h0 (r.Latches,r.Events) (by simp only;omega)
 have v2:zoa r.Memory.Cells r.Memory.Blocks r.Left r.Latches r.Events r.Now p (zzh p) e pc=_:=v1
 rw[e2,Option.bind_some,U,Option.bind_some,v2,Option.bind_some];rfl
theorem FitR.run {p:xrw} {r:xsd} (F:FitR p r):RunP p r:=by
 have h:=F.G.P.nl
 refine⟨F.nc,F.nb,by rw[F.nl];omega,by rw[F.nt];omega,by have:=F.ne;omega,fun c hc=>?_⟩;obtain⟨i,hi,rfl⟩:=List.getElem_of_mem hc
 have hv:i<p.Vars.length:=by rw[<-F.nc];exact hi
 have:=(F.cells i _ _ (List.getElem?_eq_getElem hv) (List.getElem?_eq_getElem hi)).1
 have:=ycf p.Vars[i].Type_
 omega
theorem z5a:zfz=some true:=rfl
theorem z8e {r:xsd} {a:Int×xsd} (h:LG (r.Latches,r.Events) (a.2.Latches,a.2.Events)):loop (zb0 r a) 0=some (.inr ()):=by
 have hl:a.2.Latches.length=r.Latches.length:=h.1
 exact zum (f:=zb0 r a) (fun i=>i) a.2.Latches.length (Sum.inr ()) (fun i hi=>by
  have h1:i<r.Latches.length:=by omega
  simp only[zb0];rw[if_pos (by omega),if_pos (by omega),List.getElem?_eq_getElem h1,Option.bind_some]
  by_cases z:r.Latches[i]=0
  ·rw[if_pos z]
  ·have:=h.2.1 i _ (List.getElem?_eq_getElem h1) z
   rw[if_neg z];simp only at this
   rw[this,Option.bind_some,if_pos rfl]) (by simp only[zb0];rw[if_neg (by omega)])
theorem z6y (p:xrw) (r:xsd) (e:xrx):zfg p r e=some true:=by
 unfold zfg;obtain⟨n,h1,h2⟩:=ylh p r;rw[h1,Option.bind_some]
 rcases h2 with rfl|⟨F,rfl⟩
 ·rw[if_pos rfl,z5a];rfl
 rw[if_neg (by decide)]
 have P:=F.G.P
 obtain⟨b,h3,h4⟩:=yfu (p:=p) (by have:=P.nl;omega) e;rw[h3,Option.bind_some]
 cases b with
 |false=>rw[if_neg (by decide),z5a];rfl
 |true=>
 obtain⟨g,I⟩:=h4 rfl
 have k0:zfh p e≠0:=by omega
 have G:=z85 (p:=p) (C:=r.Memory.Cells) (B:=r.Memory.Blocks) (labels:=zzh p) (pc:=0) e (r.Latches,r.Events)
 rw[if_pos rfl,ydr P F.run g k0,Option.bind_some,if_neg (by have:=G.2.2;simp only[ansN]at this|-;omega),z8e G,Option.bind_some];simp only;rw[(zqi P g).1,Option.bind_some]
 show((zav (zfh p e) (vE p r.Memory.Cells r.Memory.Blocks e).1).bind _)=_
 rw[z9h (okE P F.nc F.nb (fun i v c hv hc=>(F.cells i v c hv hc).2) _ e (Nat.le_refl _) g k0),Option.bind_some,if_pos rfl]
 show((zdl r.Memory r.Memory).bind _)=_
 rw[z4e,Option.bind_some,if_pos rfl]
 show((zbj r.Left r.Left).bind _)=_
 rw[yes,Option.bind_some,z5a];simp
end Go.Lz

end
section
namespace Go.Lz
open Go.Proofs
def okI (k:IntKind) (n:Int):Prop:=k.min<=n/\n<=k.max
def okS (s:Str):Prop:=s.length<=lim
def okL {α:Type} (p:α->Prop) (xs:List α):Prop:=xs.length<=lim/\∀x∈xs,p x
theorem zkb {P:Program} {e:TypeId} {α:Type} {f:α->List C} {ok:α->Prop} (h:∀cs,Ty P e cs->∃x,cs=f x/\ok x):∀rows:List (List C),(∀r∈rows,Ty P e r)->∃xs:List α,rows=xs.map f/\∀x∈xs,ok x
 |[],_=>⟨[],rfl,by simp⟩
 |r::rows,hr=>by
  obtain⟨x,U,o1⟩:=h r (hr r (by simp));obtain⟨xs,e2,o2⟩:=zkb h rows (fun r' I=>hr r' (by simp[I]))
  exact⟨x::xs,by rw[U,e2];rfl,fun y hy=>by rcases List.mem_cons.1 hy with rfl|hy;exact o1;exact o2 y hy⟩
theorem zvy {P:Program} {e:TypeId} {α:Type} {f:α->List C} {ok:α->Prop}:∀rows:List (List C),(∀r∈rows,Ty P e r)->(∀r∈rows,Ty P e r->∃x,r=f x/\ok x)->∃xs:List α,rows=xs.map f/\∀x∈xs,ok x
 |[],_,_=>⟨[],rfl,by simp⟩
 |r::rows,hr,h=>by
  obtain⟨x,e1,o1⟩:=h r (by simp) (hr r (by simp));obtain⟨xs,e2,o2⟩:=zvy rows (fun U I=>hr U (by simp[I])) (fun U I=>h U (by simp[I]))
  exact⟨x::xs,by rw[e1,e2];rfl,fun y hy=>by rcases List.mem_cons.1 hy with rfl|hy;exact o1;exact o2 y hy⟩
def okA2 {α:Type} (p:α->Prop) (x:A2 α):Prop:=p x.a0/\p x.a1
def okA4 {α:Type} (p:α->Prop) (x:A4 α):Prop:=p x.a0/\p x.a1/\p x.a2/\p x.a3
set_option maxRecDepth 100000 in
theorem ti_9 (cs:List C) (h:Ty Tryz.prog 9 cs):∃x:Str,cs=eS x/\okS x:=by
 obtain⟨n,rfl,hn⟩:=h.str_inv Tryz.underlying9;exact⟨n,rfl,hn⟩
set_option maxRecDepth 100000 in
theorem yok (cs:List C) (h:Ty Tryz.prog 22 cs):∃x:List Str,cs=(eL eS) x/\(okL okS) x:=by
 obtain⟨rows,rfl,hl,hr⟩:=h.slice_inv Tryz.underlying22;obtain⟨xs,rfl,ho⟩:=zkb ti_9 rows hr;exact⟨xs,rfl,by simpa using hl,ho⟩
set_option maxRecDepth 100000 in
theorem ti_3 (cs:List C) (h:Ty Tryz.prog 3 cs):∃x:Int,cs=eI x/\(okI .i64) x:=by
 obtain⟨n,rfl,hn⟩:=h.int_inv Tryz.underlying3;exact⟨n,rfl,hn⟩
set_option maxRecDepth 100000 in
theorem yjr (cs:List C) (h:Ty Tryz.prog 103 cs):∃x:A2 Int,cs=(eA2 eI) x/\(okA2 (okI .i64)) x:=by
 obtain⟨hl,hf⟩:=h.array_inv Tryz.underlying103
 have e_:Tryz.prog.cellsOf 103=2:=by kernel_rfl
 rw[e_]at hl
 have e_3:Tryz.prog.cellsOf 3=1:=by kernel_rfl
 obtain⟨c0,c1,rfl⟩:∃c0 c1,cs=[c0,c1]:=by
  match cs,hl with
  |[c0,c1],_=>exact⟨c0,c1,rfl⟩
 have h0:Ty Tryz.prog 3 [c0]:=by
  have:=hf 0 (by decide)
  simp only[e_3]at this;exact this
 obtain⟨x0,q0,o0⟩:=ti_3 _ h0
 have h1:Ty Tryz.prog 3 [c1]:=by
  have:=hf 1 (by decide)
  simp only[e_3]at this;exact this
 obtain⟨x1,q1,o1⟩:=ti_3 _ h1;refine⟨⟨x0,x1⟩,?_,⟨o0,o1⟩⟩
 have hx:(eA2 eI) ⟨x0,x1⟩=eI x0++eI x1:=by simp[go_sem]
 rw[hx,<-q0,<-q1];rfl
set_option maxRecDepth 100000 in
theorem yoj (cs:List C) (h:Ty Tryz.prog 23 cs):∃x:List (A2 Int),cs=(eL (eA2 eI)) x/\(okL (okA2 (okI .i64))) x:=by
 obtain⟨rows,rfl,hl,hr⟩:=h.slice_inv Tryz.underlying23;obtain⟨xs,rfl,ho⟩:=zkb yjr rows hr;exact⟨xs,rfl,by simpa using hl,ho⟩
def xs8 (x:xr4):Prop:=(okL okS) x.Names/\(okL (okA2 (okI .i64))) x.Below
set_option maxRecDepth 100000 in
theorem yoi (cs:List C) (h:Ty Tryz.prog 25 cs):∃x:xr4,cs=xsf x/\xs8 x:=by
 obtain⟨hl,hf⟩:=h.struct_inv Tryz.underlying25
 have e_:Tryz.prog.cellsOf 25=2:=by kernel_rfl
 rw[e_]at hl
 have e_22:Tryz.prog.cellsOf 22=1:=by kernel_rfl
 have e_23:Tryz.prog.cellsOf 23=1:=by kernel_rfl
 obtain⟨c0,c1,rfl⟩:∃c0 c1,cs=[c0,c1]:=by
  match cs,hl with
  |[c0,c1],_=>exact⟨c0,c1,rfl⟩
 have h0:Ty Tryz.prog 22 [c0]:=by
  have:=hf _ (List.mem_of_getElem? (i:=0) rfl)
  simp only[e_22]at this;exact this
 obtain⟨x0,q0,o0⟩:=yok _ h0
 have h1:Ty Tryz.prog 23 [c1]:=by
  have:=hf _ (List.mem_of_getElem? (i:=1) rfl)
  simp only[e_23]at this;exact this
 obtain⟨x1,q1,o1⟩:=yoj _ h1;refine⟨⟨x0,x1⟩,?_,⟨o0,o1⟩⟩
 have hx:xsf ⟨x0,x1⟩=(eL eS) x0++(eL (eA2 eI)) x1:=by simp[go_sem]
 rw[hx,<-q0,<-q1];rfl
def xsy (x:xsb):Prop:=okS x.Name/\(okI .i64) x.From/\(okI .i64) x.To
set_option maxRecDepth 100000 in
theorem yjp (cs:List C) (h:Ty Tryz.prog 129 cs):∃x:xsb,cs=xrz x/\xsy x:=by
 obtain⟨hl,hf⟩:=h.struct_inv Tryz.underlying129
 have e_:Tryz.prog.cellsOf 129=3:=by kernel_rfl
 rw[e_]at hl
 have e_3:Tryz.prog.cellsOf 3=1:=by kernel_rfl
 have e_9:Tryz.prog.cellsOf 9=1:=by kernel_rfl
 obtain⟨c0,c1,c2,rfl⟩:∃c0 c1 c2,cs=[c0,c1,c2]:=by
  match cs,hl with
  |[c0,c1,c2],_=>exact⟨c0,c1,c2,rfl⟩
 have h0:Ty Tryz.prog 9 [c0]:=by
  have:=hf _ (List.mem_of_getElem? (i:=0) rfl)
  simp only[e_9]at this;exact this
 obtain⟨x0,q0,o0⟩:=ti_9 _ h0
 have h1:Ty Tryz.prog 3 [c1]:=by
  have:=hf _ (List.mem_of_getElem? (i:=1) rfl)
  simp only[e_3]at this;exact this
 obtain⟨x1,q1,o1⟩:=ti_3 _ h1
 have h2:Ty Tryz.prog 3 [c2]:=by
  have:=hf _ (List.mem_of_getElem? (i:=2) rfl)
  simp only[e_3]at this;exact this
 obtain⟨x2,q2,o2⟩:=ti_3 _ h2;refine⟨⟨x0,x1,x2⟩,?_,⟨o0,o1,o2⟩⟩
 have hx:xrz ⟨x0,x1,x2⟩=eS x0++eI x1++eI x2:=by simp[go_sem]
 rw[hx,<-q0,<-q1,<-q2];rfl
set_option maxRecDepth 100000 in
theorem yoh (cs:List C) (h:Ty Tryz.prog 26 cs):∃x:List xsb,cs=(eL xrz) x/\(okL xsy) x:=by
 obtain⟨rows,rfl,hl,hr⟩:=h.slice_inv Tryz.underlying26;obtain⟨xs,rfl,ho⟩:=zkb yjp rows hr;exact⟨xs,rfl,by simpa using hl,ho⟩
def xs9 (x:xsc):Prop:=(okI .i64) x.Kind/\(okI .i64) x.Low/\(okI .i64) x.Len
set_option maxRecDepth 100000 in
theorem yn6 (cs:List C) (h:Ty Tryz.prog 64 cs):∃x:xsc,cs=xsi x/\xs9 x:=by
 obtain⟨hl,hf⟩:=h.struct_inv Tryz.underlying64
 have e_:Tryz.prog.cellsOf 64=3:=by kernel_rfl
 rw[e_]at hl
 have e_3:Tryz.prog.cellsOf 3=1:=by kernel_rfl
 obtain⟨c0,c1,c2,rfl⟩:∃c0 c1 c2,cs=[c0,c1,c2]:=by
  match cs,hl with
  |[c0,c1,c2],_=>exact⟨c0,c1,c2,rfl⟩
 have h0:Ty Tryz.prog 3 [c0]:=by
  have:=hf _ (List.mem_of_getElem? (i:=0) rfl)
  simp only[e_3]at this;exact this
 obtain⟨x0,q0,o0⟩:=ti_3 _ h0
 have h1:Ty Tryz.prog 3 [c1]:=by
  have:=hf _ (List.mem_of_getElem? (i:=1) rfl)
  simp only[e_3]at this;exact this
 obtain⟨x1,q1,o1⟩:=ti_3 _ h1
 have h2:Ty Tryz.prog 3 [c2]:=by
  have:=hf _ (List.mem_of_getElem? (i:=2) rfl)
  simp only[e_3]at this;exact this
 obtain⟨x2,q2,o2⟩:=ti_3 _ h2;refine⟨⟨x0,x1,x2⟩,?_,⟨o0,o1,o2⟩⟩
 have hx:xsi ⟨x0,x1,x2⟩=eI x0++eI x1++eI x2:=by simp[go_sem]
 rw[hx,<-q0,<-q1,<-q2];rfl
def xsz (x:xr7):Prop:=okS x.Name/\xs9 x.Type_/\(okI .i64) x.Mode/\(okI .i64) x.Label/\(okI .i64) x.Safe
set_option maxRecDepth 100000 in
theorem yn5 (cs:List C) (h:Ty Tryz.prog 66 cs):∃x:xr7,cs=xr0 x/\xsz x:=by
 obtain⟨hl,hf⟩:=h.struct_inv Tryz.underlying66
 have e_:Tryz.prog.cellsOf 66=7:=by kernel_rfl
 rw[e_]at hl
 have e_3:Tryz.prog.cellsOf 3=1:=by kernel_rfl
 have e_9:Tryz.prog.cellsOf 9=1:=by kernel_rfl
 have e_64:Tryz.prog.cellsOf 64=3:=by kernel_rfl
 obtain⟨c0,c1,c2,c3,c4,c5,c6,rfl⟩:∃c0 c1 c2 c3 c4 c5 c6,cs=[c0,c1,c2,c3,c4,c5,c6]:=by
  match cs,hl with
  |[c0,c1,c2,c3,c4,c5,c6],_=>exact⟨c0,c1,c2,c3,c4,c5,c6,rfl⟩
 have h0:Ty Tryz.prog 9 [c0]:=by
  have:=hf _ (List.mem_of_getElem? (i:=0) rfl)
  simp only[e_9]at this;exact this
 obtain⟨x0,q0,o0⟩:=ti_9 _ h0
 have h1:Ty Tryz.prog 64 [c1,c2,c3]:=by
  have:=hf _ (List.mem_of_getElem? (i:=1) rfl)
  simp only[e_64]at this;exact this
 obtain⟨x1,q1,o1⟩:=yn6 _ h1
 have h2:Ty Tryz.prog 3 [c4]:=by
  have:=hf _ (List.mem_of_getElem? (i:=2) rfl)
  simp only[e_3]at this;exact this
 obtain⟨x2,q2,o2⟩:=ti_3 _ h2
 have h3:Ty Tryz.prog 3 [c5]:=by
  have:=hf _ (List.mem_of_getElem? (i:=3) rfl)
  simp only[e_3]at this;exact this
 obtain⟨x3,q3,o3⟩:=ti_3 _ h3
 have h4:Ty Tryz.prog 3 [c6]:=by
  have:=hf _ (List.mem_of_getElem? (i:=4) rfl)
  simp only[e_3]at this;exact this
 obtain⟨x4,q4,o4⟩:=ti_3 _ h4;refine⟨⟨x0,x1,x2,x3,x4⟩,?_,⟨o0,o1,o2,o3,o4⟩⟩
 have hx:xr0 ⟨x0,x1,x2,x3,x4⟩=eS x0++xsi x1++eI x2++eI x3++eI x4:=by simp[go_sem]
 rw[hx,<-q0,<-q1,<-q2,<-q3,<-q4];rfl
set_option maxRecDepth 100000 in
theorem yog (cs:List C) (h:Ty Tryz.prog 27 cs):∃x:List xr7,cs=(eL xr0) x/\(okL xsz) x:=by
 obtain⟨rows,rfl,hl,hr⟩:=h.slice_inv Tryz.underlying27;obtain⟨xs,rfl,ho⟩:=zkb yn5 rows hr;exact⟨xs,rfl,by simpa using hl,ho⟩
def xs1 (x:xr9):Prop:=okS x.Name/\okS x.Kind/\(okI .i64) x.Label
set_option maxRecDepth 100000 in
theorem yn4 (cs:List C) (h:Ty Tryz.prog 69 cs):∃x:xr9,cs=xr1 x/\xs1 x:=by
 obtain⟨hl,hf⟩:=h.struct_inv Tryz.underlying69
 have e_:Tryz.prog.cellsOf 69=3:=by kernel_rfl
 rw[e_]at hl
 have e_3:Tryz.prog.cellsOf 3=1:=by kernel_rfl
 have e_9:Tryz.prog.cellsOf 9=1:=by kernel_rfl
 obtain⟨c0,c1,c2,rfl⟩:∃c0 c1 c2,cs=[c0,c1,c2]:=by
  match cs,hl with
  |[c0,c1,c2],_=>exact⟨c0,c1,c2,rfl⟩
 have h0:Ty Tryz.prog 9 [c0]:=by
  have:=hf _ (List.mem_of_getElem? (i:=0) rfl)
  simp only[e_9]at this;exact this
 obtain⟨x0,q0,o0⟩:=ti_9 _ h0
 have h1:Ty Tryz.prog 9 [c1]:=by
  have:=hf _ (List.mem_of_getElem? (i:=1) rfl)
  simp only[e_9]at this;exact this
 obtain⟨x1,q1,o1⟩:=ti_9 _ h1
 have h2:Ty Tryz.prog 3 [c2]:=by
  have:=hf _ (List.mem_of_getElem? (i:=2) rfl)
  simp only[e_3]at this;exact this
 obtain⟨x2,q2,o2⟩:=ti_3 _ h2;refine⟨⟨x0,x1,x2⟩,?_,⟨o0,o1,o2⟩⟩
 have hx:xr1 ⟨x0,x1,x2⟩=eS x0++eS x1++eI x2:=by simp[go_sem]
 rw[hx,<-q0,<-q1,<-q2];rfl
set_option maxRecDepth 100000 in
theorem yof (cs:List C) (h:Ty Tryz.prog 28 cs):∃x:List xr9,cs=(eL xr1) x/\(okL xs1) x:=by
 obtain⟨rows,rfl,hl,hr⟩:=h.slice_inv Tryz.underlying28;obtain⟨xs,rfl,ho⟩:=zkb yn4 rows hr;exact⟨xs,rfl,by simpa using hl,ho⟩
set_option maxRecDepth 100000 in
theorem yb6 (cs:List C) (h:Ty Tryz.prog 36 cs):∃x:List Int,cs=(eL eI) x/\(okL (okI .i64)) x:=by
 obtain⟨rows,rfl,hl,hr⟩:=h.slice_inv Tryz.underlying36;obtain⟨xs,rfl,ho⟩:=zkb ti_3 rows hr;exact⟨xs,rfl,by simpa using hl,ho⟩
inductive xsh:xrx->Prop
 |mk {x:xrx} (h:(okI .i64) x.Op/\(okI .i64) x.N/\(okI .i64) x.Kind/\okS x.Name/\x.Args.length<=lim) (h0:∀y∈x.Args,xsh y):xsh x
theorem xsh.all {x:xrx} (h:xsh x):(okI .i64) x.Op/\(okI .i64) x.N/\(okI .i64) x.Kind/\okS x.Name/\(okL xsh) x.Args:=by
 cases h with
 |mk h h0=>obtain⟨a0,a1,a2,a3,I⟩:=h;exact⟨a0,a1,a2,a3,⟨I,h0⟩⟩
set_option maxRecDepth 100000 in
theorem yjo:∀(n:Nat) (cs:List C),SizeOf.sizeOf cs<n->Ty Tryz.prog 42 cs->∃x:xrx,cs=xr3 x/\xsh x
 |0,cs,hs,h=>by omega
 |n+1,cs,hs,h=>by
  obtain⟨hl,hf⟩:=h.struct_inv Tryz.underlying42
  have e_:Tryz.prog.cellsOf 42=5:=by kernel_rfl
  rw[e_]at hl
  have e_3:Tryz.prog.cellsOf 3=1:=by kernel_rfl
  have e_9:Tryz.prog.cellsOf 9=1:=by kernel_rfl
  have e_40:Tryz.prog.cellsOf 40=1:=by kernel_rfl
  obtain⟨c0,c1,c2,c3,c4,rfl⟩:∃c0 c1 c2 c3 c4,cs=[c0,c1,c2,c3,c4]:=by
   match cs,hl with
   |[c0,c1,c2,c3,c4],_=>exact⟨c0,c1,c2,c3,c4,rfl⟩
  have h0:Ty Tryz.prog 3 [c0]:=by
   have:=hf _ (List.mem_of_getElem? (i:=0) rfl)
   simp only[e_3]at this;exact this
  obtain⟨x0,q0,o0⟩:=ti_3 _ h0
  have h1:Ty Tryz.prog 3 [c1]:=by
   have:=hf _ (List.mem_of_getElem? (i:=1) rfl)
   simp only[e_3]at this;exact this
  obtain⟨x1,q1,o1⟩:=ti_3 _ h1
  have h2:Ty Tryz.prog 3 [c2]:=by
   have:=hf _ (List.mem_of_getElem? (i:=2) rfl)
   simp only[e_3]at this;exact this
  obtain⟨x2,q2,o2⟩:=ti_3 _ h2
  have h3:Ty Tryz.prog 9 [c3]:=by
   have:=hf _ (List.mem_of_getElem? (i:=3) rfl)
   simp only[e_9]at this;exact this
  obtain⟨x3,q3,o3⟩:=ti_9 _ h3
  have h4:Ty Tryz.prog 40 [c4]:=by
   have:=hf _ (List.mem_of_getElem? (i:=4) rfl)
   simp only[e_40]at this;exact this
  obtain⟨rows4,w4,l4,r4⟩:=h4.slice_inv Tryz.underlying40;cases w4;obtain⟨x4,q4,o4⟩:=zvy rows4 r4 (fun r hr hy=>yjo n r (by have:=List.sizeOf_lt_of_mem hr;simp at hs;omega) hy);subst q4;refine⟨⟨x0,x1,x2,x3,x4⟩,?_,.mk ⟨o0,o1,o2,o3,by simpa using l4⟩ o4⟩
  have hx:xr3 ⟨x0,x1,x2,x3,x4⟩=eI x0++eI x1++eI x2++eS x3++[.sl (x4.map xr3)]:=by simp[go_sem]
  rw[hx,<-q0,<-q1,<-q2,<-q3];rfl
theorem yb5 (cs:List C) (h:Ty Tryz.prog 42 cs):∃x:xrx,cs=xr3 x/\xsh x:=yjo _ cs (Nat.lt_succ_self _) h
theorem ynv {X:V} (h:TyV Tryz.prog 42 X):∃x:xrx,X=.agg (xr3 x)/\xsh x:=by
 obtain⟨cs,rfl,h2⟩:=h.agg_inv (by simp[zqf,Tryz.underlying42]);obtain⟨x,rfl,o⟩:=yb5 _ h2;exact⟨x,rfl,o⟩
set_option maxRecDepth 100000 in
theorem yn7 (cs:List C) (h:Ty Tryz.prog 40 cs):∃x:List xrx,cs=(eL xr3) x/\(okL xsh) x:=by
 obtain⟨rows,rfl,hl,hr⟩:=h.slice_inv Tryz.underlying40;obtain⟨xs,rfl,ho⟩:=zkb yb5 rows hr;exact⟨xs,rfl,by simpa using hl,ho⟩
inductive xsj:xry->Prop
 |mk {x:xry} (h:(okI .i64) x.Kind/\okS x.Name/\xsh x.Target/\xsh x.Value/\(okL xsh) x.Args/\x.Body.length<=lim/\x.Else.length<=lim) (h0:∀y∈x.Body,xsj y) (h1:∀y∈x.Else,xsj y):xsj x
theorem xsj.all {x:xry} (h:xsj x):(okI .i64) x.Kind/\okS x.Name/\xsh x.Target/\xsh x.Value/\(okL xsh) x.Args/\(okL xsj) x.Body/\(okL xsj) x.Else:=by
 cases h with
 |mk h h0 h1=>obtain⟨a0,a1,a2,a3,I,U,b1⟩:=h;exact⟨a0,a1,a2,a3,I,⟨U,h0⟩,⟨b1,h1⟩⟩
set_option maxRecDepth 100000 in
theorem yfv:∀(n:Nat) (cs:List C),SizeOf.sizeOf cs<n->Ty Tryz.prog 76 cs->∃x:xry,cs=xr6 x/\xsj x
 |0,cs,hs,h=>by omega
 |n+1,cs,hs,h=>by
  obtain⟨hl,hf⟩:=h.struct_inv Tryz.underlying76
  have e_:Tryz.prog.cellsOf 76=15:=by kernel_rfl
  rw[e_]at hl
  have e_3:Tryz.prog.cellsOf 3=1:=by kernel_rfl
  have e_9:Tryz.prog.cellsOf 9=1:=by kernel_rfl
  have e_40:Tryz.prog.cellsOf 40=1:=by kernel_rfl
  have e_42:Tryz.prog.cellsOf 42=5:=by kernel_rfl
  have e_74:Tryz.prog.cellsOf 74=1:=by kernel_rfl
  obtain⟨c0,c1,c2,c3,c4,c5,c6,c7,c8,c9,c10,c11,c12,c13,c14,rfl⟩:∃c0 c1 c2 c3 c4 c5 c6 c7 c8 c9 c10 c11 c12 c13 c14,cs=[c0,c1,c2,c3,c4,c5,c6,c7,c8,c9,c10,c11,c12,c13,c14]:=by
   match cs,hl with
   |[c0,c1,c2,c3,c4,c5,c6,c7,c8,c9,c10,c11,c12,c13,c14],_=>exact⟨c0,c1,c2,c3,c4,c5,c6,c7,c8,c9,c10,c11,c12,c13,c14,rfl⟩
  have h0:Ty Tryz.prog 3 [c0]:=by
   have:=hf _ (List.mem_of_getElem? (i:=0) rfl)
   simp only[e_3]at this;exact this
  obtain⟨x0,q0,o0⟩:=ti_3 _ h0
  have h1:Ty Tryz.prog 9 [c1]:=by
   have:=hf _ (List.mem_of_getElem? (i:=1) rfl)
   simp only[e_9]at this;exact this
  obtain⟨x1,q1,o1⟩:=ti_9 _ h1
  have h2:Ty Tryz.prog 42 [c2,c3,c4,c5,c6]:=by
   have:=hf _ (List.mem_of_getElem? (i:=2) rfl)
   simp only[e_42]at this;exact this
  obtain⟨x2,q2,o2⟩:=yb5 _ h2
  have h3:Ty Tryz.prog 42 [c7,c8,c9,c10,c11]:=by
   have:=hf _ (List.mem_of_getElem? (i:=3) rfl)
   simp only[e_42]at this;exact this
  obtain⟨x3,q3,o3⟩:=yb5 _ h3
  have h4:Ty Tryz.prog 40 [c12]:=by
   have:=hf _ (List.mem_of_getElem? (i:=4) rfl)
   simp only[e_40]at this;exact this
  obtain⟨x4,q4,o4⟩:=yn7 _ h4
  have h5:Ty Tryz.prog 74 [c13]:=by
   have:=hf _ (List.mem_of_getElem? (i:=5) rfl)
   simp only[e_74]at this;exact this
  obtain⟨rows5,w5,l5,r5⟩:=h5.slice_inv Tryz.underlying74;cases w5
  have h6:Ty Tryz.prog 74 [c14]:=by
   have:=hf _ (List.mem_of_getElem? (i:=6) rfl)
   simp only[e_74]at this;exact this
  obtain⟨rows6,w6,l6,r6⟩:=h6.slice_inv Tryz.underlying74;cases w6;obtain⟨x5,q5,o5⟩:=zvy rows5 r5 (fun r hr hy=>yfv n r (by have:=List.sizeOf_lt_of_mem hr;simp at hs;omega) hy);obtain⟨x6,q6,o6⟩:=zvy rows6 r6 (fun r hr hy=>yfv n r (by have:=List.sizeOf_lt_of_mem hr;simp at hs;omega) hy);subst q5 q6;refine⟨⟨x0,x1,x2,x3,x4,x5,x6⟩,?_,.mk ⟨o0,o1,o2,o3,o4,by simpa using l5,by simpa using l6⟩ o5 o6⟩
  have hx:xr6 ⟨x0,x1,x2,x3,x4,x5,x6⟩=eI x0++eS x1++xr3 x2++xr3 x3++(eL xr3) x4++[.sl (x5.map xr6)]++[.sl (x6.map xr6)]:=by simp[go_sem]
  rw[hx,<-q0,<-q1,<-q2,<-q3,<-q4];rfl
theorem yn1 (cs:List C) (h:Ty Tryz.prog 76 cs):∃x:xry,cs=xr6 x/\xsj x:=yfv _ cs (Nat.lt_succ_self _) h
set_option maxRecDepth 100000 in
theorem yn2 (cs:List C) (h:Ty Tryz.prog 74 cs):∃x:List xry,cs=(eL xr6) x/\(okL xsj) x:=by
 obtain⟨rows,rfl,hl,hr⟩:=h.slice_inv Tryz.underlying74;obtain⟨xs,rfl,ho⟩:=zkb yn1 rows hr;exact⟨xs,rfl,by simpa using hl,ho⟩
def xs2 (x:xse):Prop:=(okI .i64) x.Every/\(okI .i64) x.Priority/\(okL (okI .i64)) x.Budget/\(okL xsj) x.Body
set_option maxRecDepth 100000 in
theorem yn0 (cs:List C) (h:Ty Tryz.prog 78 cs):∃x:xse,cs=xr2 x/\xs2 x:=by
 obtain⟨hl,hf⟩:=h.struct_inv Tryz.underlying78
 have e_:Tryz.prog.cellsOf 78=4:=by kernel_rfl
 rw[e_]at hl
 have e_3:Tryz.prog.cellsOf 3=1:=by kernel_rfl
 have e_36:Tryz.prog.cellsOf 36=1:=by kernel_rfl
 have e_74:Tryz.prog.cellsOf 74=1:=by kernel_rfl
 obtain⟨c0,c1,c2,c3,rfl⟩:∃c0 c1 c2 c3,cs=[c0,c1,c2,c3]:=by
  match cs,hl with
  |[c0,c1,c2,c3],_=>exact⟨c0,c1,c2,c3,rfl⟩
 have h0:Ty Tryz.prog 3 [c0]:=by
  have:=hf _ (List.mem_of_getElem? (i:=0) rfl)
  simp only[e_3]at this;exact this
 obtain⟨x0,q0,o0⟩:=ti_3 _ h0
 have h1:Ty Tryz.prog 3 [c1]:=by
  have:=hf _ (List.mem_of_getElem? (i:=1) rfl)
  simp only[e_3]at this;exact this
 obtain⟨x1,q1,o1⟩:=ti_3 _ h1
 have h2:Ty Tryz.prog 36 [c2]:=by
  have:=hf _ (List.mem_of_getElem? (i:=2) rfl)
  simp only[e_36]at this;exact this
 obtain⟨x2,q2,o2⟩:=yb6 _ h2
 have h3:Ty Tryz.prog 74 [c3]:=by
  have:=hf _ (List.mem_of_getElem? (i:=3) rfl)
  simp only[e_74]at this;exact this
 obtain⟨x3,q3,o3⟩:=yn2 _ h3;refine⟨⟨x0,x1,x2,x3⟩,?_,⟨o0,o1,o2,o3⟩⟩
 have hx:xr2 ⟨x0,x1,x2,x3⟩=eI x0++eI x1++(eL eI) x2++(eL xr6) x3:=by simp[go_sem]
 rw[hx,<-q0,<-q1,<-q2,<-q3];rfl
set_option maxRecDepth 100000 in
theorem yoe (cs:List C) (h:Ty Tryz.prog 29 cs):∃x:List xse,cs=(eL xr2) x/\(okL xs2) x:=by
 obtain⟨rows,rfl,hl,hr⟩:=h.slice_inv Tryz.underlying29;obtain⟨xs,rfl,ho⟩:=zkb yn0 rows hr;exact⟨xs,rfl,by simpa using hl,ho⟩
def xta (x:xrw):Prop:=xs8 x.Lattice/\(okL xsy) x.Sites/\(okL xsz) x.Vars/\(okL xs1) x.Blocks/\(okL xs2) x.Tasks
set_option maxRecDepth 100000 in
theorem yod (cs:List C) (h:Ty Tryz.prog 31 cs):∃x:xrw,cs=xr5 x/\xta x:=by
 obtain⟨hl,hf⟩:=h.struct_inv Tryz.underlying31
 have e_:Tryz.prog.cellsOf 31=6:=by kernel_rfl
 rw[e_]at hl
 have e_25:Tryz.prog.cellsOf 25=2:=by kernel_rfl
 have e_26:Tryz.prog.cellsOf 26=1:=by kernel_rfl
 have e_27:Tryz.prog.cellsOf 27=1:=by kernel_rfl
 have e_28:Tryz.prog.cellsOf 28=1:=by kernel_rfl
 have e_29:Tryz.prog.cellsOf 29=1:=by kernel_rfl
 obtain⟨c0,c1,c2,c3,c4,c5,rfl⟩:∃c0 c1 c2 c3 c4 c5,cs=[c0,c1,c2,c3,c4,c5]:=by
  match cs,hl with
  |[c0,c1,c2,c3,c4,c5],_=>exact⟨c0,c1,c2,c3,c4,c5,rfl⟩
 have h0:Ty Tryz.prog 25 [c0,c1]:=by
  have:=hf _ (List.mem_of_getElem? (i:=0) rfl)
  simp only[e_25]at this;exact this
 obtain⟨x0,q0,o0⟩:=yoi _ h0
 have h1:Ty Tryz.prog 26 [c2]:=by
  have:=hf _ (List.mem_of_getElem? (i:=1) rfl)
  simp only[e_26]at this;exact this
 obtain⟨x1,q1,o1⟩:=yoh _ h1
 have h2:Ty Tryz.prog 27 [c3]:=by
  have:=hf _ (List.mem_of_getElem? (i:=2) rfl)
  simp only[e_27]at this;exact this
 obtain⟨x2,q2,o2⟩:=yog _ h2
 have h3:Ty Tryz.prog 28 [c4]:=by
  have:=hf _ (List.mem_of_getElem? (i:=3) rfl)
  simp only[e_28]at this;exact this
 obtain⟨x3,q3,o3⟩:=yof _ h3
 have h4:Ty Tryz.prog 29 [c5]:=by
  have:=hf _ (List.mem_of_getElem? (i:=4) rfl)
  simp only[e_29]at this;exact this
 obtain⟨x4,q4,o4⟩:=yoe _ h4;refine⟨⟨x0,x1,x2,x3,x4⟩,?_,⟨o0,o1,o2,o3,o4⟩⟩
 have hx:xr5 ⟨x0,x1,x2,x3,x4⟩=xsf x0++(eL xrz) x1++(eL xr0) x2++(eL xr1) x3++(eL xr2) x4:=by simp[go_sem]
 rw[hx,<-q0,<-q1,<-q2,<-q3,<-q4];rfl
theorem ynx {X:V} (h:TyV Tryz.prog 31 X):∃x:xrw,X=.agg (xr5 x)/\xta x:=by
 obtain⟨cs,rfl,h2⟩:=h.agg_inv (by simp[zqf,Tryz.underlying31]);obtain⟨x,rfl,o⟩:=yod _ h2;exact⟨x,rfl,o⟩
set_option maxRecDepth 100000 in
theorem yoc (cs:List C) (h:Ty Tryz.prog 32 cs):∃x:List (List Int),cs=(eL (eL eI)) x/\(okL (okL (okI .i64))) x:=by
 obtain⟨rows,rfl,hl,hr⟩:=h.slice_inv Tryz.underlying32;obtain⟨xs,rfl,ho⟩:=zkb yb6 rows hr;exact⟨xs,rfl,by simpa using hl,ho⟩
set_option maxRecDepth 100000 in
theorem yn3 (cs:List C) (h:Ty Tryz.prog 71 cs):∃x:A4 Int,cs=(eA4 eI) x/\(okA4 (okI .i64)) x:=by
 obtain⟨hl,hf⟩:=h.array_inv Tryz.underlying71
 have e_:Tryz.prog.cellsOf 71=4:=by kernel_rfl
 rw[e_]at hl
 have e_3:Tryz.prog.cellsOf 3=1:=by kernel_rfl
 obtain⟨c0,c1,c2,c3,rfl⟩:∃c0 c1 c2 c3,cs=[c0,c1,c2,c3]:=by
  match cs,hl with
  |[c0,c1,c2,c3],_=>exact⟨c0,c1,c2,c3,rfl⟩
 have h0:Ty Tryz.prog 3 [c0]:=by
  have:=hf 0 (by decide)
  simp only[e_3]at this;exact this
 obtain⟨x0,q0,o0⟩:=ti_3 _ h0
 have h1:Ty Tryz.prog 3 [c1]:=by
  have:=hf 1 (by decide)
  simp only[e_3]at this;exact this
 obtain⟨x1,q1,o1⟩:=ti_3 _ h1
 have h2:Ty Tryz.prog 3 [c2]:=by
  have:=hf 2 (by decide)
  simp only[e_3]at this;exact this
 obtain⟨x2,q2,o2⟩:=ti_3 _ h2
 have h3:Ty Tryz.prog 3 [c3]:=by
  have:=hf 3 (by decide)
  simp only[e_3]at this;exact this
 obtain⟨x3,q3,o3⟩:=ti_3 _ h3;refine⟨⟨x0,x1,x2,x3⟩,?_,⟨o0,o1,o2,o3⟩⟩
 have hx:(eA4 eI) ⟨x0,x1,x2,x3⟩=eI x0++eI x1++eI x2++eI x3:=by simp[go_sem]
 rw[hx,<-q0,<-q1,<-q2,<-q3];rfl
set_option maxRecDepth 100000 in
theorem yob (cs:List C) (h:Ty Tryz.prog 33 cs):∃x:List (A4 Int),cs=(eL (eA4 eI)) x/\(okL (okA4 (okI .i64))) x:=by
 obtain⟨rows,rfl,hl,hr⟩:=h.slice_inv Tryz.underlying33;obtain⟨xs,rfl,ho⟩:=zkb yn3 rows hr;exact⟨xs,rfl,by simpa using hl,ho⟩
def xtb (x:xsg):Prop:=(okL (okL (okI .i64))) x.Cells/\(okL (okA4 (okI .i64))) x.Blocks
set_option maxRecDepth 100000 in
theorem yoa (cs:List C) (h:Ty Tryz.prog 35 cs):∃x:xsg,cs=xsl x/\xtb x:=by
 obtain⟨hl,hf⟩:=h.struct_inv Tryz.underlying35
 have e_:Tryz.prog.cellsOf 35=2:=by kernel_rfl
 rw[e_]at hl
 have e_32:Tryz.prog.cellsOf 32=1:=by kernel_rfl
 have e_33:Tryz.prog.cellsOf 33=1:=by kernel_rfl
 obtain⟨c0,c1,rfl⟩:∃c0 c1,cs=[c0,c1]:=by
  match cs,hl with
  |[c0,c1],_=>exact⟨c0,c1,rfl⟩
 have h0:Ty Tryz.prog 32 [c0]:=by
  have:=hf _ (List.mem_of_getElem? (i:=0) rfl)
  simp only[e_32]at this;exact this
 obtain⟨x0,q0,o0⟩:=yoc _ h0
 have h1:Ty Tryz.prog 33 [c1]:=by
  have:=hf _ (List.mem_of_getElem? (i:=1) rfl)
  simp only[e_33]at this;exact this
 obtain⟨x1,q1,o1⟩:=yob _ h1;refine⟨⟨x0,x1⟩,?_,⟨o0,o1⟩⟩
 have hx:xsl ⟨x0,x1⟩=(eL (eL eI)) x0++(eL (eA4 eI)) x1:=by simp[go_sem]
 rw[hx,<-q0,<-q1];rfl
def xs3 (x:xsa):Prop:=(okI .i64) x.Site/\(okI .i64) x.Value
set_option maxRecDepth 100000 in
theorem yjq (cs:List C) (h:Ty Tryz.prog 111 cs):∃x:xsa,cs=xr8 x/\xs3 x:=by
 obtain⟨hl,hf⟩:=h.struct_inv Tryz.underlying111
 have e_:Tryz.prog.cellsOf 111=2:=by kernel_rfl
 rw[e_]at hl
 have e_3:Tryz.prog.cellsOf 3=1:=by kernel_rfl
 obtain⟨c0,c1,rfl⟩:∃c0 c1,cs=[c0,c1]:=by
  match cs,hl with
  |[c0,c1],_=>exact⟨c0,c1,rfl⟩
 have h0:Ty Tryz.prog 3 [c0]:=by
  have:=hf _ (List.mem_of_getElem? (i:=0) rfl)
  simp only[e_3]at this;exact this
 obtain⟨x0,q0,o0⟩:=ti_3 _ h0
 have h1:Ty Tryz.prog 3 [c1]:=by
  have:=hf _ (List.mem_of_getElem? (i:=1) rfl)
  simp only[e_3]at this;exact this
 obtain⟨x1,q1,o1⟩:=ti_3 _ h1;refine⟨⟨x0,x1⟩,?_,⟨o0,o1⟩⟩
 have hx:xr8 ⟨x0,x1⟩=eI x0++eI x1:=by simp[go_sem]
 rw[hx,<-q0,<-q1];rfl
set_option maxRecDepth 100000 in
theorem yn9 (cs:List C) (h:Ty Tryz.prog 37 cs):∃x:List xsa,cs=(eL xr8) x/\(okL xs3) x:=by
 obtain⟨rows,rfl,hl,hr⟩:=h.slice_inv Tryz.underlying37;obtain⟨xs,rfl,ho⟩:=zkb yjq rows hr;exact⟨xs,rfl,by simpa using hl,ho⟩
def xtc (x:xsd):Prop:=xtb x.Memory/\(okL (okI .i64)) x.Left/\(okL (okI .i64)) x.Latches/\(okL xs3) x.Events/\(okI .i64) x.Now
set_option maxRecDepth 100000 in
theorem yn8 (cs:List C) (h:Ty Tryz.prog 39 cs):∃x:xsd,cs=xsk x/\xtc x:=by
 obtain⟨hl,hf⟩:=h.struct_inv Tryz.underlying39
 have e_:Tryz.prog.cellsOf 39=6:=by kernel_rfl
 rw[e_]at hl
 have e_3:Tryz.prog.cellsOf 3=1:=by kernel_rfl
 have e_35:Tryz.prog.cellsOf 35=2:=by kernel_rfl
 have e_36:Tryz.prog.cellsOf 36=1:=by kernel_rfl
 have e_37:Tryz.prog.cellsOf 37=1:=by kernel_rfl
 obtain⟨c0,c1,c2,c3,c4,c5,rfl⟩:∃c0 c1 c2 c3 c4 c5,cs=[c0,c1,c2,c3,c4,c5]:=by
  match cs,hl with
  |[c0,c1,c2,c3,c4,c5],_=>exact⟨c0,c1,c2,c3,c4,c5,rfl⟩
 have h0:Ty Tryz.prog 35 [c0,c1]:=by
  have:=hf _ (List.mem_of_getElem? (i:=0) rfl)
  simp only[e_35]at this;exact this
 obtain⟨x0,q0,o0⟩:=yoa _ h0
 have h1:Ty Tryz.prog 36 [c2]:=by
  have:=hf _ (List.mem_of_getElem? (i:=1) rfl)
  simp only[e_36]at this;exact this
 obtain⟨x1,q1,o1⟩:=yb6 _ h1
 have h2:Ty Tryz.prog 36 [c3]:=by
  have:=hf _ (List.mem_of_getElem? (i:=2) rfl)
  simp only[e_36]at this;exact this
 obtain⟨x2,q2,o2⟩:=yb6 _ h2
 have h3:Ty Tryz.prog 37 [c4]:=by
  have:=hf _ (List.mem_of_getElem? (i:=3) rfl)
  simp only[e_37]at this;exact this
 obtain⟨x3,q3,o3⟩:=yn9 _ h3
 have h4:Ty Tryz.prog 3 [c5]:=by
  have:=hf _ (List.mem_of_getElem? (i:=4) rfl)
  simp only[e_3]at this;exact this
 obtain⟨x4,q4,o4⟩:=ti_3 _ h4;refine⟨⟨x0,x1,x2,x3,x4⟩,?_,⟨o0,o1,o2,o3,o4⟩⟩
 have hx:xsk ⟨x0,x1,x2,x3,x4⟩=xsl x0++(eL eI) x1++(eL eI) x2++(eL xr8) x3++eI x4:=by simp[go_sem]
 rw[hx,<-q0,<-q1,<-q2,<-q3,<-q4];rfl
theorem ynw {X:V} (h:TyV Tryz.prog 39 X):∃x:xsd,X=.agg (xsk x)/\xtc x:=by
 obtain⟨cs,rfl,h2⟩:=h.agg_inv (by simp[zqf,Tryz.underlying39]);obtain⟨x,rfl,o⟩:=yn8 _ h2;exact⟨x,rfl,o⟩
end Go.Lz

end
section
namespace Go.Proofs.YtcceddpmmgabjaaGreat
open Go.Lz Go.ChangeShapes Go.WideShapes Go.ChangeAt Go.RowKit
theorem ownK:ownKnob Tryz.prog.godebug=none:=by kernel_rfl
theorem yda:laidOutB Tryz.prog=true:=by kernel_rfl
set_option maxRecDepth 100000 in
theorem zyd (os:Os) (started:os.Started) (H:Type) (enc:TypeId×Value->H):
  ReturnsInHanded {} Tryz.checked os 5 .any (Rows.evalValidSpec.pre6 enc Tryz.prog Tryz.f5 Rows.evalValidRow.domain false) (Rows.evalValidSpec.post enc Tryz.prog Tryz.f5 false true false false):=by
 refine z2v (C:=Tryz.checked) (S:=[31,25,22,9,23,103,3,26,129,27,66,64,28,69,29,78,36,74,76,42,40,39,35,32,33,71,37,111]) (b:=4) ownK started (by kernel_rfl) Tryz.func5
  (ChangeSpec.witness6 (enc:=enc) (C:=Tryz.checked) false ⟨#[], #[.agg #[.slice none 0 0,.slice none 0 0,.slice none 0 0,.slice none 0 0,.slice none 0 0,.slice none 0 0],.agg #[.slice none 0 0,.slice none 0 0,.slice none 0 0,.slice none 0 0,.slice none 0 0,.int .i64 0],.agg #[.int .i64 0,.int .i64 0,.int .i64 0,.string ⟨#[]⟩,.slice none 0 0]],[]⟩ 8 (by kernel_rfl) (by kernel_rfl) (by kernel_rfl) (by kernel_rfl))
  (by kernel_rfl) (by kernel_rfl) yda rfl rfl Tryz.underlying4 ?_ ?_ rfl
 ·intro ds hl
  match ds,hl with
  |[d0,d1,d2],_=>rfl
 ·intro Xs hT _
  obtain⟨x0,xs,rfl,hx0,hT⟩:=TysV.cons_inv (P:=Tryz.prog) (t:=31) (ts:=[39,42]) hT;obtain⟨x1,xs,rfl,hx1,hT⟩:=TysV.cons_inv hT;obtain⟨x2,xs,rfl,hx2,hT⟩:=TysV.cons_inv hT;obtain rfl:=TysV.nil_inv hT;obtain⟨p,rfl,o_p⟩:=ynx hx0;obtain⟨r_,rfl,o_r_⟩:=ynw hx1;obtain⟨e,rfl,o_e⟩:=ynv hx2;exact zn8 (z6y p r_ e)
theorem evalValid_holds:Rows.EvalValidSaid:=
 OpenClaim.holds_of_wide 5 Tryz.f5 rfl rfl rfl rfl rfl rfl rfl ⟨rfl,rfl,rfl,rfl,rfl⟩ rfl rfl rfl rfl rfl (by kernel_rfl) Tryz.func5 (by kernel_rfl)
  (of_decide_eq_true (by kernel_rfl)) (by unfold Func.isWrapper;first|(rw[if_pos (by decide+kernel)];kernel_rfl)|(rw[if_neg (by decide+kernel)];exact⟨rfl,rfl⟩))
  (fun os started H enc _=>zyd os started H enc)
#print axioms evalValid_holds
end Go.Proofs.YtcceddpmmgabjaaGreat

end
