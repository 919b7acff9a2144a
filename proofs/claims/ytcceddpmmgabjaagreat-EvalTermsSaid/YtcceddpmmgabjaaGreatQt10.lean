/- A term's value, and the run behind it, are those that the reference says. Over the model of the program as it was translated; no condition. The parts of a proof: P15y, ST, TL3. -/
import Derived.Test.YtcceddpmmgabjaaGreatQt9
import Derived.Test.YtcceddpmmgabjaaGreatRows
set_option linter.unusedVariables false
set_option linter.unusedSimpArgs false
open Go.Proofs.Tryz
section
namespace Go.Lz
theorem yea {t:xt3} {l:List Int} {i:Int}:zgk t l i=some (match zpd t l.length i with|some k=>(k:Int)|none=>-1):=by
 unfold zgk zpd;rw[z1r,yar];simp only[Waa]
 by_cases h:tOk t
 case neg=>simp[h]
 by_cases h2:l.length=zwq t
 case neg=>simp only[h,if_true,h2,and_false,if_false];rw[if_neg (by omega)]
 have a1:=h.2.1;have a2:=h.2.2.1;have a3:=h.2.2.2.1;have a4:=h.2.2.2.2.1
 by_cases h3:t.Len=0
 ·simp[h,h2,h3]
 have e:w64 (t.Low+t.Len)=t.Low+t.Len:=zhd (by omega) (by omega)
 simp only[h,h2,h3,if_true,if_false,true_and,e]
 by_cases h4:i<t.Low
 ·have:¬(t.Low<=i/\i<t.Low+t.Len):=by omega
  simp[h4,this]
 by_cases h5:t.Low+t.Len<=i
 ·have:¬(t.Low<=i/\i<t.Low+t.Len):=by omega
  simp[h4,h5,this]
 ·have I:t.Low<=i/\i<t.Low+t.Len:=by omega
  have U:w64 (i-t.Low)=i-t.Low:=zhd (by omega) (by omega)
  simp only[h4,h5,if_false,if_pos I,U]
  congr 1;exact(Int.toNat_of_nonneg (by omega)).symm
theorem yf3 (t:xt3) (l:List Int) (i:Int):zf1 t l i=some (getN t l i):=by
 unfold zf1 getN;rw[yea,Waa]
 cases h:zpd t l.length i with
 |none=>simp
 |some k=>
  have:=z7p h
  simp[idx,this,List.getD_eq_getElem?_getD]
theorem z5o (k n:Int):zan k n=some (zmi k n):=by
 have tm:∀m:Int,0<m->∃q,n=m*q+n.tmod m/\(0<=n->0<=n.tmod m/\n.tmod m<m)/\(n<=0->-m<n.tmod m/\n.tmod m<=0):=fun m hm=>by
  refine⟨n.tdiv m,(Int.mul_tdiv_add_tmod n m).symm,fun h=>⟨Int.tmod_nonneg _ h,Int.tmod_lt_of_pos _ hm⟩,fun h=>?_⟩
  have h1:(-n).tmod m=-n.tmod m:=Int.neg_tmod ..
  have h2:=Int.tmod_nonneg m (show 0<=-n by omega)
  have h3:=Int.tmod_lt_of_pos (-n) hm
  omega
 unfold zan;rw[yau];simp only[Waa]
 rcases kinds k with rfl|rfl|rfl|rfl|⟨h1,h2,h3,h4⟩
 ·by_cases h:n=0<;>simp[h,z9w]
 ·obtain⟨q,h1,h2,h3⟩:=tm 65536 (by decide)
  simp only[zbm,z6z,show(w64 (2*32768))=65536 from rfl,show w64 (0-32768)=-32768 from rfl,if_true,Waa,show((2:Int)=1)=False by simp,if_false,show((16:Int)=0)=False by simp,zc9 (show¬(65536:Int)=0 by decide)]
  generalize n.tmod 65536=r at*
  simp only[zn1]
  repeat' split
  all_goals (congr 1;omega)
 ·obtain⟨q,h1,h2,h3⟩:=tm 4294967296 (by decide)
  simp only[zbm,z6y,show(w64 (2*2147483648))=4294967296 from rfl,show w64 (0-2147483648)=-2147483648 from rfl,if_true,Waa,show((3:Int)=1)=False by simp,show((3:Int)=2)=False by simp,if_false,show((32:Int)=0)=False by simp,zc9 (show¬(4294967296:Int)=0 by decide)]
  generalize n.tmod 4294967296=r at*
  simp only[zn1]
  repeat' split
  all_goals (congr 1;omega)
 ·obtain⟨q,h1,h2,h3⟩:=tm 4294967296 (by decide)
  simp only[zbm,z6x,show(w64 (2*2147483648))=4294967296 from rfl,show w64 (0-2147483648)=-2147483648 from rfl,if_true,Waa,show((4:Int)=1)=False by simp,show((4:Int)=2)=False by simp,show((4:Int)=3)=False by simp,if_false,show((32:Int)=0)=False by simp,zc9 (show¬(4294967296:Int)=0 by decide)]
  generalize n.tmod 4294967296=r at*
  simp only[zn1]
  repeat' split
  all_goals (congr 1;omega)
 ·simp[h1,h2,h3,h4,yfw h1 h2 h3 h4]
theorem ygw {k n:Int} (h:okV k n):zmi k n=n:=by
 rcases h with⟨rfl,h⟩|⟨rfl,h1,h2⟩|⟨rfl|rfl,h1,h2⟩
 ·rw[z9w];rcases h with rfl|rfl<;>rfl
 ·rw[z6z];omega
 ·rw[z6y];omega
 ·rw[z6x];omega
theorem yph {op k a r:Int} (U:op=5\/op=6) (h:zag op k=some r) (h0:r≠0):zek op k a=zj6 op k a:=by
 have hk:=(zlx h h0).1
 have e:r=k:=zyd h h0 (by omega)
 unfold zek zj6;rw[h,zrz h,Waa,Waa,if_neg h0,if_neg h0];simp only[z5o,za7,Waa];subst e
 rcases U with rfl|rfl
 ·rfl
 ·show(if r=1 then some (w64 (1-zmi r a))else some (zmi r (w64 (-1-zmi r a))))=(if r=1 then some (w64 (1-zmi r a))else some (xnot .i64 (zmi r a)))
  have h4:=z1p h h0
  have hv:=zr3 hk a
  by_cases I:r=1
  ·rw[if_pos I,if_pos I]
  ·rw[if_neg I,if_neg I,z9v (by unfold okV at hv;omega) (by unfold okV at hv;omega)]
   have:w64 (-1-zmi r a)=-1-zmi r a:=by rw[zn1];unfold okV at hv;omega
   rw[this,ygw (by unfold okV at hv|-;omega)]
theorem z93 (b:Bool):zb2 b=zlt b:=rfl
theorem yow {op k a b r:Int} (ho:7<=op/\op<=20) (h:zag op k=some r) (h0:r≠0):zfq op k a b=zk5 op k a b:=by
 unfold zfq zk5 zmf;rw[h,zrz h,Waa,Waa];simp only[z5o,za7,Waa,z93,if_neg h0]
 have:op=7\/op=8\/op=9\/op=10\/op=11\/op=12\/op=13\/op=14\/op=15\/op=16\/op=17\/op=18\/op=19\/op=20:=by omega
 have two:∀x:Option Int,(x.bind fun I=>some I)=x:=fun x=>by cases x<;>rfl
 have U:∀(x:Int) (y:Option (Int×Int)),(if x=0 then some ((0:Int),(1:Int))else need (¬x=0) y)=(if x=0 then some (0,1)else y):=fun x y=>by
  by_cases h:x=0
  ·rw[if_pos h,if_pos h]
  ·rw[if_neg h,if_neg h,zc9 h]
 rcases this with rfl|rfl|rfl|rfl|rfl|rfl|rfl|rfl|rfl|rfl|rfl|rfl|rfl|rfl<;>simp[two,U]
theorem yma {name:Str} (s:A4 Int) {i:Int} {l:List Int} (hl:za5 name=some l) (h0:0<=i) (h1:i<(l.length:Int)):ziu name s i=zf4 name s i:=by
 have U:∀b,zfz b=zbn b:=fun b=>rfl
 have two:∀x:Option Int,(x.bind fun I=>some I)=x:=fun x=>by cases x<;>rfl
 unfold ziu;rw[hl,Waa,if_neg (by omega),if_neg (by omega)];simp only[U,z5o];unfold za5 at hl
 repeat' (first|(cases hl;done)|split at hl)
 all_goals cases hl
 all_goals (simp only[Waj,Wam,Int.natCast_add,Int.reduceAdd]at h1;subst_vars)
 all_goals (have hi:i=0\/i=1\/i=2:=by omega)
 all_goals (rcases hi with rfl|rfl|rfl)
 all_goals (first|(exfalso;revert h1;decide)|skip)
 all_goals (first
  |(simp[zf4,zcl,za7,idx,two];done)
  |(obtain⟨v1,e1,g1⟩:=z03 (decide (s.a3<=s.a0))
    obtain⟨v2,e2,g2⟩:=z03 (decide (s.a0<=0))
    simp[zf4,zcl,za7,idx,two,e1,e2];done))
def zv4 (r:xtt) (s:RS):xtt:=⟨r.Memory,r.Left,s.1,s.2,r.Now⟩
theorem z7z {p:xtm} (P:zlc p) {e:xtn} (g:GoodE e) (pc:Int):zei p e pc=some (zno p.Lattice pc (labN p (zko p) e)):=by
 unfold zei zi4;rw[z5p P,Waa,z4r P g,Waa,Waa,z0d (by have:=P.nl;omega),Waa]
theorem z4q {r:xtt} {s:RS} {v j c:Int} (hs:s.1.length<=1000):(if j<0 then some (v,zv4 r s)else(if(s.1.length:Int)<=j then some (v,zv4 r s)else((idx s.1 j).bind fun x=>if x=0 then((ze6 s.1 j c).bind fun I=>some (v,zv4 r (I,s.2)))else some (v,zv4 r s))))=some (v,zv4 r (zxk s.1 j c,s.2)):=by
 unfold zxk
 by_cases h0:j<0
 ·rw[if_pos h0,if_neg (fun h=>by omega)]
 rw[if_neg h0]
 by_cases h1:(s.1.length:Int)<=j
 ·rw[if_pos h1,if_neg (fun h=>by rw[WbI (by omega)]at h;cases h.2)]
 rw[if_neg h1]
 have hi:j.toNat<s.1.length:=by omega
 rw[zm1 (by omega) (Wac hi),Waa,Wac hi]
 by_cases z:s.1[j.toNat]=0
 ·have U:¬s.1.isEmpty=true:=by
   cases h:s.1 with
   |nil=>rw[h]at hi;simp only[Wam]at hi;omega
   |cons _ _=>simp
  rw[if_pos z,if_pos ⟨by omega,by rw[z]⟩];unfold ze6;rw[if_neg U,zc9 (by omega),zm1 (by omega) (Wac hi),Waa,Waa]
 ·rw[if_neg z,if_neg (fun h=>z (Wab h.2))]
theorem z7m {p:xtm} {C:List (List Int)} {B:List (A4 Int)} {labels:List Int} {pc:Int} {e:xtn} {s:RS}:(rE p C B labels pc e s).1.length=s.1.length:=(yav e s).1
theorem yfy {p:xtm} (P:zlc p) {r:xtt} (hC:r.Memory.Cells.length=p.Vars.length) (hB:r.Memory.Blocks.length=p.Blocks.length) (hV:∀(i:Nat) v c,p.Vars[i]? =some v->r.Memory.Cells[i]? =some c->c.length=zwq v.Type_) {pc:Int}:
  ∀(n:Nat) (e:xtn),depE e<=n->GoodE e->zf5 p e≠0->∀s:RS,s.1.length<=1000->s.2.length+szE e<=1000000000->
   zcf n p (zv4 r s) e pc=some ((vE p r.Memory.Cells r.Memory.Blocks e).1,zv4 r (rE p r.Memory.Cells r.Memory.Blocks (zko p) pc e s))/\(rE p r.Memory.Cells r.Memory.Blocks (zko p) pc e s).2.length<=s.2.length+szE e
 |0,e,h,_,_,_,_,_=>by rw[zd5]at h;omega
 |n+1,e,h,g,h0,s,hl,hs=>by
  have hlen:=(z90 P hC hB (left:=[]) (labels:=zko p) (now:=0) (pc:=pc) (n+1) e h g h0 s hs).2
  refine⟨?_,hlen⟩
  have K:=z72 P g h0
  have hsz:=zum e
  rw[zd5]at h
  have U:∀x∈e.Args,zf5 p x≠0->∀s:RS,s.1.length<=1000->s.2.length+szE x<=1000000000->zcf n p (zv4 r s) x pc=some ((vE p r.Memory.Cells r.Memory.Blocks x).1,zv4 r (rE p r.Memory.Cells r.Memory.Blocks (zko p) pc x s))/\(rE p r.Memory.Cells r.Memory.Blocks (zko p) pc x s).2.length<=s.2.length+szE x:=
   fun x I k s hl hs=>yfy P hC hB hV n x (by have:=zgs I;omega) (g.arg I) k s hl hs
  show zcg (zcf n) p (zv4 r s) e pc=_
  rw[yly];unfold zcg
  have cell:∀{v:xtv} {x:Int},0<=varN p e.Name->p.Vars[(varN p e.Name).toNat]? =some v->(e.Op=2\/e.Op=3)->(vEs p r.Memory.Cells r.Memory.Blocks e.Args).getD 0 0=x->∃c,idx r.Memory.Cells (varN p e.Name)=some c/\r.Memory.Cells[(varN p e.Name).toNat]? =some c/\vE p r.Memory.Cells r.Memory.Blocks e=getN v.Type_ c x:=fun{v x} i0 hv o I=>by
   have hi:(varN p e.Name).toNat<r.Memory.Cells.length:=by
    have:=(Wag.1 hv).1;omega
   refine⟨_,zm1 i0 (Wac hi),Wac hi,?_⟩;rw[zzh];unfold vO;rw[if_neg (by omega),if_pos o,hv,Wac hi,I]
  have eta:∀q:RS,(⟨(zv4 r q).Memory,(zv4 r q).Left,(zv4 r q).Latches,(zv4 r q).Events,(zv4 r q).Now⟩:xtt)=zv4 r q:=fun q=>rfl
  cases K with
  |num o a k=>
   have e1:vE p r.Memory.Cells r.Memory.Blocks e=(e.N,0):=by rw[zzh];unfold vO;rw[if_pos o]
   rw[if_pos o,znj (by omega),e1,a,rEs]
   all_goals rfl
  |var v o a i0 hv l k=>
   obtain⟨c,h1,h3,h2⟩:=cell (x:=0) i0 hv (.inl o) (by rw[a,vEs];rfl)
   have gv:=P.vars v (Wad hv)
   have tk:tOk v.Type_:=⟨by have:=gv.kind;omega,gv.len.1,gv.len.2,gv.low.1,gv.low.2,gv.zero⟩
   have c0:(getN v.Type_ c 0).2=0:=by
    unfold getN zpd;rw[if_pos ⟨tk,hV _ v c hv h3⟩,if_pos l]
   rw[if_neg (by omega),if_pos o,znj (by omega),zpc,Waa,zm1 i0 hv,Waa]
   show((idx r.Memory.Cells (varN p e.Name)).bind _)=_
   rw[h1,Waa,yf3,Waa,h2,c0,if_pos rfl,a,rEs]
   all_goals rfl
  |out b l o a i0 hb aa n0 n1 k=>
   have hi:(zio p e.Name).toNat<r.Memory.Blocks.length:=by
    have:=(Wag.1 hb).1;omega
   obtain⟨v,w1,_⟩:=ymb r.Memory.Blocks[(zio p e.Name).toNat] aa n0 n1
   have e1:vE p r.Memory.Cells r.Memory.Blocks e=(v,0):=by
    rw[zzh];unfold vO;rw[if_neg (by omega),if_neg (by omega),if_pos o,hb,Wac hi]
    simp only[w1];all_goals rfl
   rw[if_neg (by omega),if_neg (by omega),if_pos o,znj (by omega),zmo,Waa,zm1 i0 hb,Waa]
   show((idx r.Memory.Blocks (zio p e.Name)).bind _)=_
   rw[zm1 i0 (Wac hi),Waa,yma _ aa n0 n1,w1,Waa,e1,a,rEs]
   all_goals rfl
  |index v x o a i0 hv l kx k=>
   have I:x∈e.Args:=by rw[a];simp
   have es:szEs e.Args=szE x:=by rw[a];simp[szEs]
   obtain⟨r1,r2⟩:=U x I (by omega) s hl (by omega);obtain⟨c,h1,h3,h2⟩:=cell (x:=(vE p r.Memory.Cells r.Memory.Blocks x).1) i0 hv (.inr o) (by rw[a,vEs];rfl);rw[if_neg (by omega),if_neg (by omega),if_neg (by omega),a,Wat,Waa];simp only[eta];rw[r1,Waa,if_pos o,znj (by omega),zpc,Waa,zm1 i0 hv,Waa]
   show((idx r.Memory.Cells (varN p e.Name)).bind _)=_
   rw[h1,Waa,yf3,Waa,<-h2,rEs,rEs]
   by_cases z:(vE p r.Memory.Cells r.Memory.Blocks e).2=0
   ·rw[if_pos z,if_pos z];all_goals rfl
   ·rw[if_neg z,if_neg z,z7z P g,Waa]
    exact z4q (r:=r) (s:=rE p r.Memory.Cells r.Memory.Blocks (zko p) pc x s) (by rw[z7m];exact hl)
  |site x o a i0 k=>
   have I:x∈e.Args:=by rw[a];simp
   have es:szEs e.Args=szE x:=by rw[a];simp[szEs]
   obtain⟨r1,r2⟩:=U x I (by omega) s hl (by omega)
   have e1:vE p r.Memory.Cells r.Memory.Blocks e=((vE p r.Memory.Cells r.Memory.Blocks x).1,0):=by
    rw[zzh];unfold vO
    rw[if_neg (by omega),if_neg (by omega),if_neg (by omega),if_pos o,a,vEs];all_goals rfl
   have e2:rO p (zko p) pc e (vE p r.Memory.Cells r.Memory.Blocks e) (rEs p r.Memory.Cells r.Memory.Blocks (zko p) pc e.Args s)=((rE p r.Memory.Cells r.Memory.Blocks (zko p) pc x s).1,(rE p r.Memory.Cells r.Memory.Blocks (zko p) pc x s).2++[⟨zou p e.Name,(vE p r.Memory.Cells r.Memory.Blocks x).1⟩]):=by
    unfold rO;rw[if_pos o,e1,a,rEs,rEs]
   rw[e2,e1,if_neg (by omega),if_neg (by omega),if_neg (by omega),a,Wat,Waa];simp only[eta];rw[r1,Waa,if_neg (by omega),if_pos o,zr1,Waa,zc9 (by show((rE p r.Memory.Cells r.Memory.Blocks (zko p) pc x s).2.length+1)*16<=_;omega)]
   all_goals rfl
  |un x o a k=>
   have I:x∈e.Args:=by rw[a];simp
   have es:szEs e.Args=szE x:=by rw[a];simp[szEs]
   have g1:=g.arg I
   have kx:zf5 p x≠0:=by
    have:=(zlx k h0).1
    unfold isK at this;omega
   obtain⟨r1,r2⟩:=U x I kx s hl (by omega);obtain⟨v,w1,_⟩:=unOk (a:=(vE p r.Memory.Cells r.Memory.Blocks x).1) o k h0
   have e1:vE p r.Memory.Cells r.Memory.Blocks e=(v,0):=by
    rw[zzh];unfold vO;rw[if_neg (by omega),if_neg (by omega),if_neg (by omega),if_neg (by omega),if_pos o,a,vEs,kArg]
    simp only[WbW,w1];all_goals rfl
   have kk:=(zpj P g1).1
   rw[e1,if_neg (by omega),if_neg (by omega),if_neg (by omega),znj (by omega),a,Wat,Waa,rEs,rEs];simp only[eta];rw[r1,Waa,if_neg (by omega),if_neg (by omega),kk,Waa,yph o k h0,w1,Waa]
   rcases o with o|o
   ·rw[if_pos o];all_goals rfl
   ·rw[if_neg (by omega),if_pos o];all_goals rfl
  |bin x y o a kk k=>
   have I:x∈e.Args:=by rw[a];simp
   have hy:y∈e.Args:=by rw[a];simp
   have es:szEs e.Args=szE x+szE y:=by rw[a];simp[szEs]
   have g1:=g.arg I
   have kx:zf5 p x≠0:=by
    have:=(zlx k h0).1
    unfold isK at this;omega
   obtain⟨r1,r2⟩:=U x I kx s hl (by omega);obtain⟨q1,q2⟩:=U y hy (by omega) (rE p r.Memory.Cells r.Memory.Blocks (zko p) pc x s) (by rw[z7m];exact hl) (by omega);obtain⟨v,c,w1,_⟩:=yox (a:=(vE p r.Memory.Cells r.Memory.Blocks x).1) (b:=(vE p r.Memory.Cells r.Memory.Blocks y).1) o k h0
   have e1:vE p r.Memory.Cells r.Memory.Blocks e=(v,c):=by
    rw[zzh];unfold vO;rw[if_neg (by omega),if_neg (by omega),if_neg (by omega),if_neg (by omega),if_neg (by omega),a,vEs,vEs,vEs,kArg]
    simp only[WbW,Wb9,w1];all_goals rfl
   have ab:=(zpj P g1).1
   rw[e1,if_neg (by omega),if_neg (by omega),if_neg (by omega),znj (by omega),a,Wat,Waa,rEs,rEs,rEs];simp only[eta];rw[r1,Waa,if_neg (by omega),if_neg (by omega),if_neg (by omega),if_neg (by omega),WaK,Wat,Waa,q1,Waa,ab,Waa,yow o k h0,w1,Waa]
   by_cases z:c=0
   ·rw[if_pos z,if_pos z];all_goals rfl
   ·rw[if_neg z,if_neg z,z7z P g,Waa]
    exact z4q (r:=r) (s:=rE p r.Memory.Cells r.Memory.Blocks (zko p) pc y (rE p r.Memory.Cells r.Memory.Blocks (zko p) pc x s)) (by rw[z7m,z7m];exact hl)
theorem yat {p:xtm} {r:xtt} (F:FitR p r) {e:xtn} (g:GoodE e) (h0:zf5 p e≠0) (pc:Int):zhi p r e pc=some (ansN p r e pc):=by
 have P:=F.G.P
 have h7:=F.ne;have h8:=g.sz;have h9:=g.dep;have I:=F.nt;have U:=P.nl
 obtain⟨v1,_⟩:=yfy P F.nc F.nb (fun i v c hv hc=>(F.cells i v c hv hc).1) (pc:=pc) 1000000 e (by omega) g h0 (r.Latches,r.Events) (by simp only;omega) (by simp only;omega)
 have v2:zf7 p r e pc=_:=v1
 unfold zhi
 by_cases h:r.Events.isEmpty=true
 ·have he:r.Events=[]:=Wbr.1 h
  rw[if_pos h]
  have:(⟨r.Memory,r.Left,r.Latches,[],r.Now⟩:xtt)=r:=by rw[<-he]
  rw[this,v2,Waa];rfl
 ·rw[if_neg h,zc9 (by omega)]
  show((zf7 p r e pc).bind _)=_
  rw[v2,Waa];rfl
theorem z8r (p:xtm) (r:xtt) (e:xtn):zf3 p r e=some true:=by
 unfold zf3;obtain⟨n,h1,h2⟩:=ym6 p r;rw[h1,Waa]
 rcases h2 with rfl|⟨F,rfl⟩
 ·rw[if_pos rfl,z6t];all_goals rfl
 rw[if_neg (by decide)]
 have P:=F.G.P
 obtain⟨b,h3,h4⟩:=yhi (p:=p) (by have:=P.nl;omega) e;rw[h3,Waa]
 cases b with
 |false=>rw[if_neg (by decide),z6t];all_goals rfl
 |true=>
 obtain⟨g,U⟩:=h4 rfl
 have k0:zf5 p e≠0:=by omega
 have I:=zox (f:=zc2 p r e) (fun i=>i) p.Lattice.Names.length (Sum.inr ()) (fun i hi=>by
  simp only[zc2]
  rw[if_pos (by omega),yff P F.run g k0,Waa,yat F g k0,Waa,if_pos rfl,yah,Waa,if_pos rfl]) (by
  simp only[zc2];rw[if_neg (by omega)])
 rw[if_pos rfl,I,Waa];simp only;rw[z6t];rfl
end Go.Lz

end
section
namespace Go.Lz
open Go.Proofs
def okI (k:IntKind) (n:Int):Prop:=k.min<=n/\n<=k.max
def okS (s:Str):Prop:=s.length<=lim
def okL {α:Type} (p:α->Prop) (xs:List α):Prop:=xs.length<=lim/\∀x∈xs,p x
theorem zk6 {P:Program} {e:TypeId} {α:Type} {f:α->List C} {ok:α->Prop} (h:∀cs,Ty P e cs->∃x,cs=f x/\ok x):∀rows:List (List C),(∀r∈rows,Ty P e r)->∃xs:List α,rows=xs.map f/\∀x∈xs,ok x
 |[],_=>⟨[],rfl,by simp⟩
 |r::rows,hr=>by
  obtain⟨x,U,o1⟩:=h r (hr r (by simp));obtain⟨xs,e2,o2⟩:=zk6 h rows (fun r' I=>hr r' (by simp[I]))
  exact⟨x::xs,by rw[U,e2];rfl,fun y hy=>by rcases WaB.1 hy with rfl|hy;exact o1;exact o2 y hy⟩
theorem zw9 {P:Program} {e:TypeId} {α:Type} {f:α->List C} {ok:α->Prop}:∀rows:List (List C),(∀r∈rows,Ty P e r)->(∀r∈rows,Ty P e r->∃x,r=f x/\ok x)->∃xs:List α,rows=xs.map f/\∀x∈xs,ok x
 |[],_,_=>⟨[],rfl,by simp⟩
 |r::rows,hr,h=>by
  obtain⟨x,e1,o1⟩:=h r (by simp) (hr r (by simp));obtain⟨xs,e2,o2⟩:=zw9 rows (fun U I=>hr U (by simp[I])) (fun U I=>h U (by simp[I]))
  exact⟨x::xs,by rw[e1,e2];rfl,fun y hy=>by rcases WaB.1 hy with rfl|hy;exact o1;exact o2 y hy⟩
def okA2 {α:Type} (p:α->Prop) (x:A2 α):Prop:=p x.a0/\p x.a1
def okA4 {α:Type} (p:α->Prop) (x:A4 α):Prop:=p x.a0/\p x.a1/\p x.a2/\p x.a3
set_option maxRecDepth 100000 in
theorem ti_9 (cs:List C) (h:Ty prog 9 cs):∃x:Str,cs=eS x/\okS x:=by
 obtain⟨n,rfl,hn⟩:=h.str_inv Tryz.underlying9;exact⟨n,rfl,hn⟩
set_option maxRecDepth 100000 in
theorem yqb (cs:List C) (h:Ty prog 22 cs):∃x:List Str,cs=(eL eS) x/\(okL okS) x:=by
 obtain⟨rows,rfl,hl,hr⟩:=h.slice_inv Tryz.underlying22;obtain⟨xs,rfl,ho⟩:=zk6 ti_9 rows hr;exact⟨xs,rfl,by simpa using hl,ho⟩
set_option maxRecDepth 100000 in
theorem ti_3 (cs:List C) (h:Ty prog 3 cs):∃x:Int,cs=eI x/\(okI .i64) x:=by
 obtain⟨n,rfl,hn⟩:=h.int_inv Tryz.underlying3;exact⟨n,rfl,hn⟩
set_option maxRecDepth 100000 in
theorem yld (cs:List C) (h:Ty prog 103 cs):∃x:A2 Int,cs=(eA2 eI) x/\(okA2 (okI .i64)) x:=by
 obtain⟨hl,hf⟩:=h.array_inv Tryz.underlying103
 have e_:prog.cellsOf 103=2:=by kernel_rfl
 rw[e_]at hl
 have e_3:prog.cellsOf 3=1:=by kernel_rfl
 obtain⟨c0,c1,rfl⟩:∃c0 c1,cs=[c0,c1]:=by
  match cs,hl with
  |[c0,c1],_=>exact⟨c0,c1,rfl⟩
 have h0:Ty prog 3 [c0]:=by
  have:=hf 0 (by decide)
  simp only[e_3]at this;exact this
 obtain⟨x0,q0,o0⟩:=ti_3 _ h0
 have h1:Ty prog 3 [c1]:=by
  have:=hf 1 (by decide)
  simp only[e_3]at this;exact this
 obtain⟨x1,q1,o1⟩:=ti_3 _ h1;refine⟨⟨x0,x1⟩,?_,⟨o0,o1⟩⟩
 have hx:(eA2 eI) ⟨x0,x1⟩=eI x0++eI x1:=by simp[go_sem]
 rw[hx,<-q0,<-q1];rfl
set_option maxRecDepth 100000 in
theorem yqa (cs:List C) (h:Ty prog 23 cs):∃x:List (A2 Int),cs=(eL (eA2 eI)) x/\(okL (okA2 (okI .i64))) x:=by
 obtain⟨rows,rfl,hl,hr⟩:=h.slice_inv Tryz.underlying23;obtain⟨xs,rfl,ho⟩:=zk6 yld rows hr;exact⟨xs,rfl,by simpa using hl,ho⟩
def xux (x:xtq):Prop:=(okL okS) x.Names/\(okL (okA2 (okI .i64))) x.Below
set_option maxRecDepth 100000 in
theorem yp9 (cs:List C) (h:Ty prog 25 cs):∃x:xtq,cs=xt5 x/\xux x:=by
 obtain⟨hl,hf⟩:=h.struct_inv Tryz.underlying25
 have e_:prog.cellsOf 25=2:=by kernel_rfl
 rw[e_]at hl
 have e_22:prog.cellsOf 22=1:=by kernel_rfl
 have e_23:prog.cellsOf 23=1:=by kernel_rfl
 obtain⟨c0,c1,rfl⟩:∃c0 c1,cs=[c0,c1]:=by
  match cs,hl with
  |[c0,c1],_=>exact⟨c0,c1,rfl⟩
 have h0:Ty prog 22 [c0]:=by
  have:=hf _ (Wad (i:=0) rfl)
  simp only[e_22]at this;exact this
 obtain⟨x0,q0,o0⟩:=yqb _ h0
 have h1:Ty prog 23 [c1]:=by
  have:=hf _ (Wad (i:=1) rfl)
  simp only[e_23]at this;exact this
 obtain⟨x1,q1,o1⟩:=yqa _ h1;refine⟨⟨x0,x1⟩,?_,⟨o0,o1⟩⟩
 have hx:xt5 ⟨x0,x1⟩=(eL eS) x0++(eL (eA2 eI)) x1:=by simp[go_sem]
 rw[hx,<-q0,<-q1];rfl
def xuo (x:xt2):Prop:=okS x.Name/\(okI .i64) x.From/\(okI .i64) x.To
set_option maxRecDepth 100000 in
theorem ylb (cs:List C) (h:Ty prog 129 cs):∃x:xt2,cs=xtw x/\xuo x:=by
 obtain⟨hl,hf⟩:=h.struct_inv Tryz.underlying129
 have e_:prog.cellsOf 129=3:=by kernel_rfl
 rw[e_]at hl
 have e_3:prog.cellsOf 3=1:=by kernel_rfl
 have e_9:prog.cellsOf 9=1:=by kernel_rfl
 obtain⟨c0,c1,c2,rfl⟩:∃c0 c1 c2,cs=[c0,c1,c2]:=by
  match cs,hl with
  |[c0,c1,c2],_=>exact⟨c0,c1,c2,rfl⟩
 have h0:Ty prog 9 [c0]:=by
  have:=hf _ (Wad (i:=0) rfl)
  simp only[e_9]at this;exact this
 obtain⟨x0,q0,o0⟩:=ti_9 _ h0
 have h1:Ty prog 3 [c1]:=by
  have:=hf _ (Wad (i:=1) rfl)
  simp only[e_3]at this;exact this
 obtain⟨x1,q1,o1⟩:=ti_3 _ h1
 have h2:Ty prog 3 [c2]:=by
  have:=hf _ (Wad (i:=2) rfl)
  simp only[e_3]at this;exact this
 obtain⟨x2,q2,o2⟩:=ti_3 _ h2;refine⟨⟨x0,x1,x2⟩,?_,⟨o0,o1,o2⟩⟩
 have hx:xtw ⟨x0,x1,x2⟩=eS x0++eI x1++eI x2:=by simp[go_sem]
 rw[hx,<-q0,<-q1,<-q2];rfl
set_option maxRecDepth 100000 in
theorem yp8 (cs:List C) (h:Ty prog 26 cs):∃x:List xt2,cs=(eL xtw) x/\(okL xuo) x:=by
 obtain⟨rows,rfl,hl,hr⟩:=h.slice_inv Tryz.underlying26;obtain⟨xs,rfl,ho⟩:=zk6 ylb rows hr;exact⟨xs,rfl,by simpa using hl,ho⟩
def xuy (x:xt3):Prop:=(okI .i64) x.Kind/\(okI .i64) x.Low/\(okI .i64) x.Len
set_option maxRecDepth 100000 in
theorem ypx (cs:List C) (h:Ty prog 64 cs):∃x:xt3,cs=xt7 x/\xuy x:=by
 obtain⟨hl,hf⟩:=h.struct_inv Tryz.underlying64
 have e_:prog.cellsOf 64=3:=by kernel_rfl
 rw[e_]at hl
 have e_3:prog.cellsOf 3=1:=by kernel_rfl
 obtain⟨c0,c1,c2,rfl⟩:∃c0 c1 c2,cs=[c0,c1,c2]:=by
  match cs,hl with
  |[c0,c1,c2],_=>exact⟨c0,c1,c2,rfl⟩
 have h0:Ty prog 3 [c0]:=by
  have:=hf _ (Wad (i:=0) rfl)
  simp only[e_3]at this;exact this
 obtain⟨x0,q0,o0⟩:=ti_3 _ h0
 have h1:Ty prog 3 [c1]:=by
  have:=hf _ (Wad (i:=1) rfl)
  simp only[e_3]at this;exact this
 obtain⟨x1,q1,o1⟩:=ti_3 _ h1
 have h2:Ty prog 3 [c2]:=by
  have:=hf _ (Wad (i:=2) rfl)
  simp only[e_3]at this;exact this
 obtain⟨x2,q2,o2⟩:=ti_3 _ h2;refine⟨⟨x0,x1,x2⟩,?_,⟨o0,o1,o2⟩⟩
 have hx:xt7 ⟨x0,x1,x2⟩=eI x0++eI x1++eI x2:=by simp[go_sem]
 rw[hx,<-q0,<-q1,<-q2];rfl
def xup (x:xtv):Prop:=okS x.Name/\xuy x.Type_/\(okI .i64) x.Mode/\(okI .i64) x.Label/\(okI .i64) x.Safe
set_option maxRecDepth 100000 in
theorem ypw (cs:List C) (h:Ty prog 66 cs):∃x:xtv,cs=xtx x/\xup x:=by
 obtain⟨hl,hf⟩:=h.struct_inv Tryz.underlying66
 have e_:prog.cellsOf 66=7:=by kernel_rfl
 rw[e_]at hl
 have e_3:prog.cellsOf 3=1:=by kernel_rfl
 have e_9:prog.cellsOf 9=1:=by kernel_rfl
 have e_64:prog.cellsOf 64=3:=by kernel_rfl
 obtain⟨c0,c1,c2,c3,c4,c5,c6,rfl⟩:∃c0 c1 c2 c3 c4 c5 c6,cs=[c0,c1,c2,c3,c4,c5,c6]:=by
  match cs,hl with
  |[c0,c1,c2,c3,c4,c5,c6],_=>exact⟨c0,c1,c2,c3,c4,c5,c6,rfl⟩
 have h0:Ty prog 9 [c0]:=by
  have:=hf _ (Wad (i:=0) rfl)
  simp only[e_9]at this;exact this
 obtain⟨x0,q0,o0⟩:=ti_9 _ h0
 have h1:Ty prog 64 [c1,c2,c3]:=by
  have:=hf _ (Wad (i:=1) rfl)
  simp only[e_64]at this;exact this
 obtain⟨x1,q1,o1⟩:=ypx _ h1
 have h2:Ty prog 3 [c4]:=by
  have:=hf _ (Wad (i:=2) rfl)
  simp only[e_3]at this;exact this
 obtain⟨x2,q2,o2⟩:=ti_3 _ h2
 have h3:Ty prog 3 [c5]:=by
  have:=hf _ (Wad (i:=3) rfl)
  simp only[e_3]at this;exact this
 obtain⟨x3,q3,o3⟩:=ti_3 _ h3
 have h4:Ty prog 3 [c6]:=by
  have:=hf _ (Wad (i:=4) rfl)
  simp only[e_3]at this;exact this
 obtain⟨x4,q4,o4⟩:=ti_3 _ h4;refine⟨⟨x0,x1,x2,x3,x4⟩,?_,⟨o0,o1,o2,o3,o4⟩⟩
 have hx:xtx ⟨x0,x1,x2,x3,x4⟩=eS x0++xt7 x1++eI x2++eI x3++eI x4:=by simp[go_sem]
 rw[hx,<-q0,<-q1,<-q2,<-q3,<-q4];rfl
set_option maxRecDepth 100000 in
theorem yp7 (cs:List C) (h:Ty prog 27 cs):∃x:List xtv,cs=(eL xtx) x/\(okL xup) x:=by
 obtain⟨rows,rfl,hl,hr⟩:=h.slice_inv Tryz.underlying27;obtain⟨xs,rfl,ho⟩:=zk6 ypw rows hr;exact⟨xs,rfl,by simpa using hl,ho⟩
def xuq (x:xt1):Prop:=okS x.Name/\okS x.Kind/\(okI .i64) x.Label
set_option maxRecDepth 100000 in
theorem ypv (cs:List C) (h:Ty prog 69 cs):∃x:xt1,cs=xty x/\xuq x:=by
 obtain⟨hl,hf⟩:=h.struct_inv Tryz.underlying69
 have e_:prog.cellsOf 69=3:=by kernel_rfl
 rw[e_]at hl
 have e_3:prog.cellsOf 3=1:=by kernel_rfl
 have e_9:prog.cellsOf 9=1:=by kernel_rfl
 obtain⟨c0,c1,c2,rfl⟩:∃c0 c1 c2,cs=[c0,c1,c2]:=by
  match cs,hl with
  |[c0,c1,c2],_=>exact⟨c0,c1,c2,rfl⟩
 have h0:Ty prog 9 [c0]:=by
  have:=hf _ (Wad (i:=0) rfl)
  simp only[e_9]at this;exact this
 obtain⟨x0,q0,o0⟩:=ti_9 _ h0
 have h1:Ty prog 9 [c1]:=by
  have:=hf _ (Wad (i:=1) rfl)
  simp only[e_9]at this;exact this
 obtain⟨x1,q1,o1⟩:=ti_9 _ h1
 have h2:Ty prog 3 [c2]:=by
  have:=hf _ (Wad (i:=2) rfl)
  simp only[e_3]at this;exact this
 obtain⟨x2,q2,o2⟩:=ti_3 _ h2;refine⟨⟨x0,x1,x2⟩,?_,⟨o0,o1,o2⟩⟩
 have hx:xty ⟨x0,x1,x2⟩=eS x0++eS x1++eI x2:=by simp[go_sem]
 rw[hx,<-q0,<-q1,<-q2];rfl
set_option maxRecDepth 100000 in
theorem yp6 (cs:List C) (h:Ty prog 28 cs):∃x:List xt1,cs=(eL xty) x/\(okL xuq) x:=by
 obtain⟨rows,rfl,hl,hr⟩:=h.slice_inv Tryz.underlying28;obtain⟨xs,rfl,ho⟩:=zk6 ypv rows hr;exact⟨xs,rfl,by simpa using hl,ho⟩
set_option maxRecDepth 100000 in
theorem ydt (cs:List C) (h:Ty prog 36 cs):∃x:List Int,cs=(eL eI) x/\(okL (okI .i64)) x:=by
 obtain⟨rows,rfl,hl,hr⟩:=h.slice_inv Tryz.underlying36;obtain⟨xs,rfl,ho⟩:=zk6 ti_3 rows hr;exact⟨xs,rfl,by simpa using hl,ho⟩
inductive xt8:xtn->Prop
 |mk {x:xtn} (h:(okI .i64) x.Op/\(okI .i64) x.N/\(okI .i64) x.Kind/\okS x.Name/\x.Args.length<=lim) (h0:∀y∈x.Args,xt8 y):xt8 x
theorem xt8.all {x:xtn} (h:xt8 x):(okI .i64) x.Op/\(okI .i64) x.N/\(okI .i64) x.Kind/\okS x.Name/\(okL xt8) x.Args:=by
 cases h with
 |mk h h0=>obtain⟨a0,a1,a2,a3,I⟩:=h;exact⟨a0,a1,a2,a3,⟨I,h0⟩⟩
set_option maxRecDepth 100000 in
theorem yla:∀(n:Nat) (cs:List C),SizeOf.sizeOf cs<n->Ty prog 42 cs->∃x:xtn,cs=xto x/\xt8 x
 |0,cs,hs,h=>by omega
 |n+1,cs,hs,h=>by
  obtain⟨hl,hf⟩:=h.struct_inv Tryz.underlying42
  have e_:prog.cellsOf 42=5:=by kernel_rfl
  rw[e_]at hl
  have e_3:prog.cellsOf 3=1:=by kernel_rfl
  have e_9:prog.cellsOf 9=1:=by kernel_rfl
  have e_40:prog.cellsOf 40=1:=by kernel_rfl
  obtain⟨c0,c1,c2,c3,c4,rfl⟩:∃c0 c1 c2 c3 c4,cs=[c0,c1,c2,c3,c4]:=by
   match cs,hl with
   |[c0,c1,c2,c3,c4],_=>exact⟨c0,c1,c2,c3,c4,rfl⟩
  have h0:Ty prog 3 [c0]:=by
   have:=hf _ (Wad (i:=0) rfl)
   simp only[e_3]at this;exact this
  obtain⟨x0,q0,o0⟩:=ti_3 _ h0
  have h1:Ty prog 3 [c1]:=by
   have:=hf _ (Wad (i:=1) rfl)
   simp only[e_3]at this;exact this
  obtain⟨x1,q1,o1⟩:=ti_3 _ h1
  have h2:Ty prog 3 [c2]:=by
   have:=hf _ (Wad (i:=2) rfl)
   simp only[e_3]at this;exact this
  obtain⟨x2,q2,o2⟩:=ti_3 _ h2
  have h3:Ty prog 9 [c3]:=by
   have:=hf _ (Wad (i:=3) rfl)
   simp only[e_9]at this;exact this
  obtain⟨x3,q3,o3⟩:=ti_9 _ h3
  have h4:Ty prog 40 [c4]:=by
   have:=hf _ (Wad (i:=4) rfl)
   simp only[e_40]at this;exact this
  obtain⟨rows4,w4,l4,r4⟩:=h4.slice_inv Tryz.underlying40;cases w4;obtain⟨x4,q4,o4⟩:=zw9 rows4 r4 (fun r hr hy=>yla n r (by have:=List.sizeOf_lt_of_mem hr;simp at hs;omega) hy);subst q4;refine⟨⟨x0,x1,x2,x3,x4⟩,?_,.mk ⟨o0,o1,o2,o3,by simpa using l4⟩ o4⟩
  have hx:xto ⟨x0,x1,x2,x3,x4⟩=eI x0++eI x1++eI x2++eS x3++[.sl (x4.map xto)]:=by simp[go_sem]
  rw[hx,<-q0,<-q1,<-q2,<-q3];rfl
theorem yds (cs:List C) (h:Ty prog 42 cs):∃x:xtn,cs=xto x/\xt8 x:=yla _ cs (Wbt _) h
theorem ypm {X:V} (h:TyV prog 42 X):∃x:xtn,X=.agg (xto x)/\xt8 x:=by
 obtain⟨cs,rfl,h2⟩:=h.agg_inv (by simp[zrp,Tryz.underlying42]);obtain⟨x,rfl,o⟩:=yds _ h2;exact⟨x,rfl,o⟩
set_option maxRecDepth 100000 in
theorem ypy (cs:List C) (h:Ty prog 40 cs):∃x:List xtn,cs=(eL xto) x/\(okL xt8) x:=by
 obtain⟨rows,rfl,hl,hr⟩:=h.slice_inv Tryz.underlying40;obtain⟨xs,rfl,ho⟩:=zk6 yds rows hr;exact⟨xs,rfl,by simpa using hl,ho⟩
inductive xua:xtp->Prop
 |mk {x:xtp} (h:(okI .i64) x.Kind/\okS x.Name/\xt8 x.Target/\xt8 x.Value/\(okL xt8) x.Args/\x.Body.length<=lim/\x.Else.length<=lim) (h0:∀y∈x.Body,xua y) (h1:∀y∈x.Else,xua y):xua x
theorem xua.all {x:xtp} (h:xua x):(okI .i64) x.Kind/\okS x.Name/\xt8 x.Target/\xt8 x.Value/\(okL xt8) x.Args/\(okL xua) x.Body/\(okL xua) x.Else:=by
 cases h with
 |mk h h0 h1=>obtain⟨a0,a1,a2,a3,I,U,b1⟩:=h;exact⟨a0,a1,a2,a3,I,⟨U,h0⟩,⟨b1,h1⟩⟩
set_option maxRecDepth 100000 in
theorem yhj:∀(n:Nat) (cs:List C),SizeOf.sizeOf cs<n->Ty prog 76 cs->∃x:xtp,cs=xts x/\xua x
 |0,cs,hs,h=>by omega
 |n+1,cs,hs,h=>by
  obtain⟨hl,hf⟩:=h.struct_inv Tryz.underlying76
  have e_:prog.cellsOf 76=15:=by kernel_rfl
  rw[e_]at hl
  have e_3:prog.cellsOf 3=1:=by kernel_rfl
  have e_9:prog.cellsOf 9=1:=by kernel_rfl
  have e_40:prog.cellsOf 40=1:=by kernel_rfl
  have e_42:prog.cellsOf 42=5:=by kernel_rfl
  have e_74:prog.cellsOf 74=1:=by kernel_rfl
  obtain⟨c0,c1,c2,c3,c4,c5,c6,c7,c8,c9,c10,c11,c12,c13,c14,rfl⟩:∃c0 c1 c2 c3 c4 c5 c6 c7 c8 c9 c10 c11 c12 c13 c14,cs=[c0,c1,c2,c3,c4,c5,c6,c7,c8,c9,c10,c11,c12,c13,c14]:=by
   match cs,hl with
   |[c0,c1,c2,c3,c4,c5,c6,c7,c8,c9,c10,c11,c12,c13,c14],_=>exact⟨c0,c1,c2,c3,c4,c5,c6,c7,c8,c9,c10,c11,c12,c13,c14,rfl⟩
  have h0:Ty prog 3 [c0]:=by
   have:=hf _ (Wad (i:=0) rfl)
   simp only[e_3]at this;exact this
  obtain⟨x0,q0,o0⟩:=ti_3 _ h0
  have h1:Ty prog 9 [c1]:=by
   have:=hf _ (Wad (i:=1) rfl)
   simp only[e_9]at this;exact this
  obtain⟨x1,q1,o1⟩:=ti_9 _ h1
  have h2:Ty prog 42 [c2,c3,c4,c5,c6]:=by
   have:=hf _ (Wad (i:=2) rfl)
   simp only[e_42]at this;exact this
  obtain⟨x2,q2,o2⟩:=yds _ h2
  have h3:Ty prog 42 [c7,c8,c9,c10,c11]:=by
   have:=hf _ (Wad (i:=3) rfl)
   simp only[e_42]at this;exact this
  obtain⟨x3,q3,o3⟩:=yds _ h3
  have h4:Ty prog 40 [c12]:=by
   have:=hf _ (Wad (i:=4) rfl)
   simp only[e_40]at this;exact this
  obtain⟨x4,q4,o4⟩:=ypy _ h4
  have h5:Ty prog 74 [c13]:=by
   have:=hf _ (Wad (i:=5) rfl)
   simp only[e_74]at this;exact this
  obtain⟨rows5,w5,l5,r5⟩:=h5.slice_inv Tryz.underlying74;cases w5
  have h6:Ty prog 74 [c14]:=by
   have:=hf _ (Wad (i:=6) rfl)
   simp only[e_74]at this;exact this
  obtain⟨rows6,w6,l6,r6⟩:=h6.slice_inv Tryz.underlying74;cases w6;obtain⟨x5,q5,o5⟩:=zw9 rows5 r5 (fun r hr hy=>yhj n r (by have:=List.sizeOf_lt_of_mem hr;simp at hs;omega) hy);obtain⟨x6,q6,o6⟩:=zw9 rows6 r6 (fun r hr hy=>yhj n r (by have:=List.sizeOf_lt_of_mem hr;simp at hs;omega) hy);subst q5 q6;refine⟨⟨x0,x1,x2,x3,x4,x5,x6⟩,?_,.mk ⟨o0,o1,o2,o3,o4,by simpa using l5,by simpa using l6⟩ o5 o6⟩
  have hx:xts ⟨x0,x1,x2,x3,x4,x5,x6⟩=eI x0++eS x1++xto x2++xto x3++(eL xto) x4++[.sl (x5.map xts)]++[.sl (x6.map xts)]:=by simp[go_sem]
  rw[hx,<-q0,<-q1,<-q2,<-q3,<-q4];rfl
theorem yps (cs:List C) (h:Ty prog 76 cs):∃x:xtp,cs=xts x/\xua x:=yhj _ cs (Wbt _) h
set_option maxRecDepth 100000 in
theorem ypt (cs:List C) (h:Ty prog 74 cs):∃x:List xtp,cs=(eL xts) x/\(okL xua) x:=by
 obtain⟨rows,rfl,hl,hr⟩:=h.slice_inv Tryz.underlying74;obtain⟨xs,rfl,ho⟩:=zk6 yps rows hr;exact⟨xs,rfl,by simpa using hl,ho⟩
def xur (x:xt4):Prop:=(okI .i64) x.Every/\(okI .i64) x.Priority/\(okL (okI .i64)) x.Budget/\(okL xua) x.Body
set_option maxRecDepth 100000 in
theorem ypr (cs:List C) (h:Ty prog 78 cs):∃x:xt4,cs=xt0 x/\xur x:=by
 obtain⟨hl,hf⟩:=h.struct_inv Tryz.underlying78
 have e_:prog.cellsOf 78=4:=by kernel_rfl
 rw[e_]at hl
 have e_3:prog.cellsOf 3=1:=by kernel_rfl
 have e_36:prog.cellsOf 36=1:=by kernel_rfl
 have e_74:prog.cellsOf 74=1:=by kernel_rfl
 obtain⟨c0,c1,c2,c3,rfl⟩:∃c0 c1 c2 c3,cs=[c0,c1,c2,c3]:=by
  match cs,hl with
  |[c0,c1,c2,c3],_=>exact⟨c0,c1,c2,c3,rfl⟩
 have h0:Ty prog 3 [c0]:=by
  have:=hf _ (Wad (i:=0) rfl)
  simp only[e_3]at this;exact this
 obtain⟨x0,q0,o0⟩:=ti_3 _ h0
 have h1:Ty prog 3 [c1]:=by
  have:=hf _ (Wad (i:=1) rfl)
  simp only[e_3]at this;exact this
 obtain⟨x1,q1,o1⟩:=ti_3 _ h1
 have h2:Ty prog 36 [c2]:=by
  have:=hf _ (Wad (i:=2) rfl)
  simp only[e_36]at this;exact this
 obtain⟨x2,q2,o2⟩:=ydt _ h2
 have h3:Ty prog 74 [c3]:=by
  have:=hf _ (Wad (i:=3) rfl)
  simp only[e_74]at this;exact this
 obtain⟨x3,q3,o3⟩:=ypt _ h3;refine⟨⟨x0,x1,x2,x3⟩,?_,⟨o0,o1,o2,o3⟩⟩
 have hx:xt0 ⟨x0,x1,x2,x3⟩=eI x0++eI x1++(eL eI) x2++(eL xts) x3:=by simp[go_sem]
 rw[hx,<-q0,<-q1,<-q2,<-q3];rfl
set_option maxRecDepth 100000 in
theorem yp5 (cs:List C) (h:Ty prog 29 cs):∃x:List xt4,cs=(eL xt0) x/\(okL xur) x:=by
 obtain⟨rows,rfl,hl,hr⟩:=h.slice_inv Tryz.underlying29;obtain⟨xs,rfl,ho⟩:=zk6 ypr rows hr;exact⟨xs,rfl,by simpa using hl,ho⟩
def xuz (x:xtm):Prop:=xux x.Lattice/\(okL xuo) x.Sites/\(okL xup) x.Vars/\(okL xuq) x.Blocks/\(okL xur) x.Tasks
set_option maxRecDepth 100000 in
theorem yp4 (cs:List C) (h:Ty prog 31 cs):∃x:xtm,cs=xtr x/\xuz x:=by
 obtain⟨hl,hf⟩:=h.struct_inv Tryz.underlying31
 have e_:prog.cellsOf 31=6:=by kernel_rfl
 rw[e_]at hl
 have e_25:prog.cellsOf 25=2:=by kernel_rfl
 have e_26:prog.cellsOf 26=1:=by kernel_rfl
 have e_27:prog.cellsOf 27=1:=by kernel_rfl
 have e_28:prog.cellsOf 28=1:=by kernel_rfl
 have e_29:prog.cellsOf 29=1:=by kernel_rfl
 obtain⟨c0,c1,c2,c3,c4,c5,rfl⟩:∃c0 c1 c2 c3 c4 c5,cs=[c0,c1,c2,c3,c4,c5]:=by
  match cs,hl with
  |[c0,c1,c2,c3,c4,c5],_=>exact⟨c0,c1,c2,c3,c4,c5,rfl⟩
 have h0:Ty prog 25 [c0,c1]:=by
  have:=hf _ (Wad (i:=0) rfl)
  simp only[e_25]at this;exact this
 obtain⟨x0,q0,o0⟩:=yp9 _ h0
 have h1:Ty prog 26 [c2]:=by
  have:=hf _ (Wad (i:=1) rfl)
  simp only[e_26]at this;exact this
 obtain⟨x1,q1,o1⟩:=yp8 _ h1
 have h2:Ty prog 27 [c3]:=by
  have:=hf _ (Wad (i:=2) rfl)
  simp only[e_27]at this;exact this
 obtain⟨x2,q2,o2⟩:=yp7 _ h2
 have h3:Ty prog 28 [c4]:=by
  have:=hf _ (Wad (i:=3) rfl)
  simp only[e_28]at this;exact this
 obtain⟨x3,q3,o3⟩:=yp6 _ h3
 have h4:Ty prog 29 [c5]:=by
  have:=hf _ (Wad (i:=4) rfl)
  simp only[e_29]at this;exact this
 obtain⟨x4,q4,o4⟩:=yp5 _ h4;refine⟨⟨x0,x1,x2,x3,x4⟩,?_,⟨o0,o1,o2,o3,o4⟩⟩
 have hx:xtr ⟨x0,x1,x2,x3,x4⟩=xt5 x0++(eL xtw) x1++(eL xtx) x2++(eL xty) x3++(eL xt0) x4:=by simp[go_sem]
 rw[hx,<-q0,<-q1,<-q2,<-q3,<-q4];rfl
theorem ypo {X:V} (h:TyV prog 31 X):∃x:xtm,X=.agg (xtr x)/\xuz x:=by
 obtain⟨cs,rfl,h2⟩:=h.agg_inv (by simp[zrp,Tryz.underlying31]);obtain⟨x,rfl,o⟩:=yp4 _ h2;exact⟨x,rfl,o⟩
set_option maxRecDepth 100000 in
theorem yp3 (cs:List C) (h:Ty prog 32 cs):∃x:List (List Int),cs=(eL (eL eI)) x/\(okL (okL (okI .i64))) x:=by
 obtain⟨rows,rfl,hl,hr⟩:=h.slice_inv Tryz.underlying32;obtain⟨xs,rfl,ho⟩:=zk6 ydt rows hr;exact⟨xs,rfl,by simpa using hl,ho⟩
set_option maxRecDepth 100000 in
theorem ypu (cs:List C) (h:Ty prog 71 cs):∃x:A4 Int,cs=(eA4 eI) x/\(okA4 (okI .i64)) x:=by
 obtain⟨hl,hf⟩:=h.array_inv Tryz.underlying71
 have e_:prog.cellsOf 71=4:=by kernel_rfl
 rw[e_]at hl
 have e_3:prog.cellsOf 3=1:=by kernel_rfl
 obtain⟨c0,c1,c2,c3,rfl⟩:∃c0 c1 c2 c3,cs=[c0,c1,c2,c3]:=by
  match cs,hl with
  |[c0,c1,c2,c3],_=>exact⟨c0,c1,c2,c3,rfl⟩
 have h0:Ty prog 3 [c0]:=by
  have:=hf 0 (by decide)
  simp only[e_3]at this;exact this
 obtain⟨x0,q0,o0⟩:=ti_3 _ h0
 have h1:Ty prog 3 [c1]:=by
  have:=hf 1 (by decide)
  simp only[e_3]at this;exact this
 obtain⟨x1,q1,o1⟩:=ti_3 _ h1
 have h2:Ty prog 3 [c2]:=by
  have:=hf 2 (by decide)
  simp only[e_3]at this;exact this
 obtain⟨x2,q2,o2⟩:=ti_3 _ h2
 have h3:Ty prog 3 [c3]:=by
  have:=hf 3 (by decide)
  simp only[e_3]at this;exact this
 obtain⟨x3,q3,o3⟩:=ti_3 _ h3;refine⟨⟨x0,x1,x2,x3⟩,?_,⟨o0,o1,o2,o3⟩⟩
 have hx:(eA4 eI) ⟨x0,x1,x2,x3⟩=eI x0++eI x1++eI x2++eI x3:=by simp[go_sem]
 rw[hx,<-q0,<-q1,<-q2,<-q3];rfl
set_option maxRecDepth 100000 in
theorem yp2 (cs:List C) (h:Ty prog 33 cs):∃x:List (A4 Int),cs=(eL (eA4 eI)) x/\(okL (okA4 (okI .i64))) x:=by
 obtain⟨rows,rfl,hl,hr⟩:=h.slice_inv Tryz.underlying33;obtain⟨xs,rfl,ho⟩:=zk6 ypu rows hr;exact⟨xs,rfl,by simpa using hl,ho⟩
def xu0 (x:xt6):Prop:=(okL (okL (okI .i64))) x.Cells/\(okL (okA4 (okI .i64))) x.Blocks
set_option maxRecDepth 100000 in
theorem yp1 (cs:List C) (h:Ty prog 35 cs):∃x:xt6,cs=xub x/\xu0 x:=by
 obtain⟨hl,hf⟩:=h.struct_inv Tryz.underlying35
 have e_:prog.cellsOf 35=2:=by kernel_rfl
 rw[e_]at hl
 have e_32:prog.cellsOf 32=1:=by kernel_rfl
 have e_33:prog.cellsOf 33=1:=by kernel_rfl
 obtain⟨c0,c1,rfl⟩:∃c0 c1,cs=[c0,c1]:=by
  match cs,hl with
  |[c0,c1],_=>exact⟨c0,c1,rfl⟩
 have h0:Ty prog 32 [c0]:=by
  have:=hf _ (Wad (i:=0) rfl)
  simp only[e_32]at this;exact this
 obtain⟨x0,q0,o0⟩:=yp3 _ h0
 have h1:Ty prog 33 [c1]:=by
  have:=hf _ (Wad (i:=1) rfl)
  simp only[e_33]at this;exact this
 obtain⟨x1,q1,o1⟩:=yp2 _ h1;refine⟨⟨x0,x1⟩,?_,⟨o0,o1⟩⟩
 have hx:xub ⟨x0,x1⟩=(eL (eL eI)) x0++(eL (eA4 eI)) x1:=by simp[go_sem]
 rw[hx,<-q0,<-q1];rfl
def xus (x:xtz):Prop:=(okI .i64) x.Site/\(okI .i64) x.Value
set_option maxRecDepth 100000 in
theorem ylc (cs:List C) (h:Ty prog 111 cs):∃x:xtz,cs=xtu x/\xus x:=by
 obtain⟨hl,hf⟩:=h.struct_inv Tryz.underlying111
 have e_:prog.cellsOf 111=2:=by kernel_rfl
 rw[e_]at hl
 have e_3:prog.cellsOf 3=1:=by kernel_rfl
 obtain⟨c0,c1,rfl⟩:∃c0 c1,cs=[c0,c1]:=by
  match cs,hl with
  |[c0,c1],_=>exact⟨c0,c1,rfl⟩
 have h0:Ty prog 3 [c0]:=by
  have:=hf _ (Wad (i:=0) rfl)
  simp only[e_3]at this;exact this
 obtain⟨x0,q0,o0⟩:=ti_3 _ h0
 have h1:Ty prog 3 [c1]:=by
  have:=hf _ (Wad (i:=1) rfl)
  simp only[e_3]at this;exact this
 obtain⟨x1,q1,o1⟩:=ti_3 _ h1;refine⟨⟨x0,x1⟩,?_,⟨o0,o1⟩⟩
 have hx:xtu ⟨x0,x1⟩=eI x0++eI x1:=by simp[go_sem]
 rw[hx,<-q0,<-q1];rfl
set_option maxRecDepth 100000 in
theorem yp0 (cs:List C) (h:Ty prog 37 cs):∃x:List xtz,cs=(eL xtu) x/\(okL xus) x:=by
 obtain⟨rows,rfl,hl,hr⟩:=h.slice_inv Tryz.underlying37;obtain⟨xs,rfl,ho⟩:=zk6 ylc rows hr;exact⟨xs,rfl,by simpa using hl,ho⟩
def xu1 (x:xtt):Prop:=xu0 x.Memory/\(okL (okI .i64)) x.Left/\(okL (okI .i64)) x.Latches/\(okL xus) x.Events/\(okI .i64) x.Now
set_option maxRecDepth 100000 in
theorem ypz (cs:List C) (h:Ty prog 39 cs):∃x:xtt,cs=xt9 x/\xu1 x:=by
 obtain⟨hl,hf⟩:=h.struct_inv Tryz.underlying39
 have e_:prog.cellsOf 39=6:=by kernel_rfl
 rw[e_]at hl
 have e_3:prog.cellsOf 3=1:=by kernel_rfl
 have e_35:prog.cellsOf 35=2:=by kernel_rfl
 have e_36:prog.cellsOf 36=1:=by kernel_rfl
 have e_37:prog.cellsOf 37=1:=by kernel_rfl
 obtain⟨c0,c1,c2,c3,c4,c5,rfl⟩:∃c0 c1 c2 c3 c4 c5,cs=[c0,c1,c2,c3,c4,c5]:=by
  match cs,hl with
  |[c0,c1,c2,c3,c4,c5],_=>exact⟨c0,c1,c2,c3,c4,c5,rfl⟩
 have h0:Ty prog 35 [c0,c1]:=by
  have:=hf _ (Wad (i:=0) rfl)
  simp only[e_35]at this;exact this
 obtain⟨x0,q0,o0⟩:=yp1 _ h0
 have h1:Ty prog 36 [c2]:=by
  have:=hf _ (Wad (i:=1) rfl)
  simp only[e_36]at this;exact this
 obtain⟨x1,q1,o1⟩:=ydt _ h1
 have h2:Ty prog 36 [c3]:=by
  have:=hf _ (Wad (i:=2) rfl)
  simp only[e_36]at this;exact this
 obtain⟨x2,q2,o2⟩:=ydt _ h2
 have h3:Ty prog 37 [c4]:=by
  have:=hf _ (Wad (i:=3) rfl)
  simp only[e_37]at this;exact this
 obtain⟨x3,q3,o3⟩:=yp0 _ h3
 have h4:Ty prog 3 [c5]:=by
  have:=hf _ (Wad (i:=4) rfl)
  simp only[e_3]at this;exact this
 obtain⟨x4,q4,o4⟩:=ti_3 _ h4;refine⟨⟨x0,x1,x2,x3,x4⟩,?_,⟨o0,o1,o2,o3,o4⟩⟩
 have hx:xt9 ⟨x0,x1,x2,x3,x4⟩=xub x0++(eL eI) x1++(eL eI) x2++(eL xtu) x3++eI x4:=by simp[go_sem]
 rw[hx,<-q0,<-q1,<-q2,<-q3,<-q4];rfl
theorem ypn {X:V} (h:TyV prog 39 X):∃x:xtt,X=.agg (xt9 x)/\xu1 x:=by
 obtain⟨cs,rfl,h2⟩:=h.agg_inv (by simp[zrp,Tryz.underlying39]);obtain⟨x,rfl,o⟩:=ypz _ h2;exact⟨x,rfl,o⟩
end Go.Lz

end
section
namespace Go.Proofs.YtcceddpmmgabjaaGreat
open Go.Lz Go.ChangeShapes Go.WideShapes Go.ChangeAt Go.RowKit
theorem ownK:ownKnob prog.godebug=none:=by kernel_rfl
theorem yey:laidOutB prog=true:=by kernel_rfl
set_option maxRecDepth 100000 in
theorem zzq (os:Os) (started:os.Started) (H:Type) (enc:TypeId×Value->H):
  ReturnsInHanded {} Tryz.checked os 3 .any (Rows.evalTermsSpec.pre6 enc prog f3 Rows.evalTermsRow.domain false) (Rows.evalTermsSpec.post enc prog f3 false true false false):=by
 refine z4m (C:=Tryz.checked) (S:=[31,25,22,9,23,103,3,26,129,27,66,64,28,69,29,78,36,74,76,42,40,39,35,32,33,71,37,111]) (b:=4) ownK started (by kernel_rfl) func3
  (ChangeSpec.witness6 (enc:=enc) (C:=Tryz.checked) false ⟨#[], #[.agg #[.slice none 0 0,.slice none 0 0,.slice none 0 0,.slice none 0 0,.slice none 0 0,.slice none 0 0],.agg #[.slice none 0 0,.slice none 0 0,.slice none 0 0,.slice none 0 0,.slice none 0 0,.int .i64 0],.agg #[.int .i64 0,.int .i64 0,.int .i64 0,.string ⟨#[]⟩,.slice none 0 0]],[]⟩ 8 (by kernel_rfl) (by kernel_rfl) (by kernel_rfl) (by kernel_rfl))
  (by kernel_rfl) (by kernel_rfl) yey rfl rfl Tryz.underlying4 ?_ ?_ rfl
 ·intro ds hl
  match ds,hl with
  |[d0,d1,d2],_=>rfl
 ·intro Xs hT _
  obtain⟨x0,xs,rfl,hx0,hT⟩:=TysV.cons_inv (P:=prog) (t:=31) (ts:=[39,42]) hT;obtain⟨x1,xs,rfl,hx1,hT⟩:=TysV.cons_inv hT;obtain⟨x2,xs,rfl,hx2,hT⟩:=TysV.cons_inv hT;obtain rfl:=TysV.nil_inv hT;obtain⟨p,rfl,o_p⟩:=ypo hx0;obtain⟨r_,rfl,o_r_⟩:=ypn hx1;obtain⟨e,rfl,o_e⟩:=ypm hx2;exact zph (z8r p r_ e)
theorem evalTerms_holds:Rows.EvalTermsSaid:=
 OpenClaim.holds_of_wide 3 f3 rfl rfl rfl rfl rfl rfl rfl ⟨rfl,rfl,rfl,rfl,rfl⟩ rfl rfl rfl rfl rfl (by kernel_rfl) func3 (by kernel_rfl)
  (of_decide_eq_true (by kernel_rfl)) (by unfold Func.isWrapper;first|(rw[if_pos (by decide+kernel)];kernel_rfl)|(rw[if_neg (by decide+kernel)];exact⟨rfl,rfl⟩))
  (fun os started H enc _=>zzq os started H enc)
#print axioms evalTerms_holds
end Go.Proofs.YtcceddpmmgabjaaGreat

end
