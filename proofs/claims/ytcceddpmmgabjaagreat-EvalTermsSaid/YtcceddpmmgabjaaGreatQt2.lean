/- The parts of a proof: LzI, Lz11, Lz12, LzM, Lz13, Lz14 -/
import Derived.Test.YtcceddpmmgabjaaGreatQt1
import Derived.Scope
import Derived.Orders
set_option linter.unusedVariables false
set_option linter.unusedSimpArgs false
section
namespace Go.Lz
mutual
def C.lt (m:Nat):C->Bool
 |.sl rows=>zcn m rows
 |.slf rows=>zcn m rows
 |.iptr row _=>zem m row
 |.fn _ cap=>zem m cap
 |.ifc _ cs=>zem m cs
 |.ref id _ _ _=>decide (id<m)
 |.msl id _ _ _=>decide (id<m)
 |.mp id=>decide (id<m)
 |_=>true
def zem (m:Nat):List C->Bool
 |[]=>true
 |c::r=>c.lt m&&zem m r
def zcn (m:Nat):List (List C)->Bool
 |[]=>true
 |r::rs=>zem m r&&zcn m rs
end
theorem ltRow_iff {m:Nat}:∀{l:List C},zem m l=true↔∀c∈l,c.lt m=true
 |[]=>by simp[zem]
 |c::r=>by simp[zem,ltRow_iff (l:=r)]
theorem ltRows_iff {m:Nat}:∀{l:List (List C)},zcn m l=true↔∀r∈l,zem m r=true
 |[]=>by simp[zcn]
 |c::r=>by simp[zcn,ltRows_iff (l:=r)]
theorem z7w {m:Nat} {rows:List (List C)} (h:zcn m rows=true) {i j:Nat} {c:C} (I:at2 rows i j=some c):c.lt m=true:=by
 obtain⟨r,hr,U⟩:=at2_some.1 I;exact ltRow_iff.1 (ltRows_iff.1 h r (Wad hr)) c (Wad U)
mutual
def V.lt (m:Nat):V->Bool
 |.one c=>c.lt m
 |.agg cs=>zem m cs
 |.tup vs=>ltVs m vs
 |.un=>true
def ltVs (m:Nat):List V->Bool
 |[]=>true
 |v::vs=>v.lt m&&ltVs m vs
end
theorem ltVs_iff {m:Nat}:∀{l:List V},ltVs m l=true↔∀c∈l,c.lt m=true
 |[]=>by simp[ltVs]
 |c::r=>by simp[ltVs,ltVs_iff (l:=r)]
theorem CRel.into {E E':Env} {m:Nat} (ab:∀b,E.free b->E'.free b) (ad:∀b o,E.free b->E'.w.cell? ⟨b,o,none⟩=E.w.cell? ⟨b,o,none⟩)
  (hid:∀id,id<m->id<E.H.length->id<E'.H.length/\E'.H[id]? =E.H[id]? /\E'.bd id=E.bd id) {c:C} {v:Value} (h:CRel E c v):c.lt m=true->CRel E' c v:=by
 induction h with
 |int h=>intro _;exact .int h
 |bool=>intro _;exact .bool
 |str h hl=>intro _;exact .str h hl
 |sl vals sz hn hcap hlim hsz hb hv U=>
  intro hl;refine .sl vals sz hn hcap hlim hsz (fun af=>?_) (fun i j c ae=>U i j c ae (z7w hl ae));obtain⟨b,off,ha,hf,hc⟩:=hb af;exact⟨b,off,ha,ab b hf,fun i j c ae=>by rw[ad b _ hf];exact hc i j c ae⟩
 |slf h hf U=>intro hl;exact .slf (U hl) hf
 |iptr vals he hb hc hv U=>
  intro hl;exact .iptr vals he (ab _ hb) (fun j c I=>by rw[ad _ _ hb];exact hc j c I) (fun j c I=>U j c I (ltRow_iff.1 hl c (Wad I)))
 |fn hn hv U=>
  intro hl;exact .fn hn (fun j c I=>U j c I (ltRow_iff.1 hl c (Wad I)))
 |ifc hn hv U=>
  intro hl;exact .ifc hn (fun j c I=>U j c I (ltRow_iff.1 hl c (Wad I)))
 |nilfn=>intro _;exact .nilfn
 |nilif=>intro _;exact .nilif
 |nilp=>intro _;exact .nilp
 |nilm=>intro _;exact .nilm
 |ref aa hc h=>
  intro hl;obtain⟨h1,h2,h3⟩:=hid _ (by simpa [C.lt]using hl) aa;refine .ref h1 hc fun cur sz rows ho=>?_;rw[h2]at ho;rw[h3];exact h cur sz rows ho
 |msl aa hc h=>
  intro hl;obtain⟨h1,h2,h3⟩:=hid _ (by simpa [C.lt]using hl) aa;refine .msl h1 hc fun cur sz rows ho=>?_;rw[h2]at ho;rw[h3];exact h cur sz rows ho
 |mp aa hc h=>
  intro hl;obtain⟨h1,h2,h3⟩:=hid _ (by simpa [C.lt]using hl) aa;refine .mp h1 hc fun es ho=>?_;rw[h2]at ho;rw[h3];exact h es ho
theorem VRel.into {E E':Env} {m:Nat} (I:∀b,E.free b->E'.free b) (U:∀b o,E.free b->E'.w.cell? ⟨b,o,none⟩=E.w.cell? ⟨b,o,none⟩)
  (hid:∀id,id<m->id<E.H.length->id<E'.H.length/\E'.H[id]? =E.H[id]? /\E'.bd id=E.bd id) {x:V} {v:Value} (h:VRel E x v):x.lt m=true->VRel E' x v:=by
 induction h with
 |one h=>intro hl;exact .one (h.into I U hid hl)
 |agg hn h=>intro hl;exact .agg hn fun j c hj=>(h j c hj).into I U hid (ltRow_iff.1 hl c (Wad hj))
 |tup hn h ih=>
  intro hl;exact .tup hn fun j x hj=>ih j x hj (ltVs_iff.1 hl x (Wad hj))
 |un=>intro _;exact .un
def O.lt (m:Nat):O->Bool
 |.cells _ _ rows=>zcn m rows
 |.map es=>es.all fun e=>e.1.lt m&&e.2.lt m
 |.dead=>true
mutual
theorem CRel.lt_len {E:Env} {c:C} {v:Value} (h:CRel E c v):c.lt E.H.length=true:=by
 induction h with
 |int h=>rfl
 |bool=>rfl
 |str h hl=>rfl
 | @sl rows a n cap vals sz hn hcap hlim hsz hb hv U=>
   show zcn _ rows=true
   rw[ltRows_iff];intro r hr;rw[ltRow_iff];intro c hc;obtain⟨i,hi,ab⟩:=WaV.1 hr;obtain⟨j,hj,I⟩:=WaV.1 hc;exact U i j c (at2_some.2 ⟨r,by rw[Wac hi,ab],by rw[Wac hj,I]⟩)
 |slf h hf U=>exact U
 | @iptr row off b o v vals he hb hc hv U=>
   show zem _ row=true
   rw[ltRow_iff];intro c aa;obtain⟨j,hj,I⟩:=WaV.1 aa;exact U j c (by rw[Wac hj,I])
 | @fn f cap vs hn hv U=>
   show zem _ cap=true
   rw[ltRow_iff];intro c aa;obtain⟨j,hj,I⟩:=WaV.1 aa;exact U j c (by rw[Wac hj,I])
 | @ifc t cap vs hn hv U=>
   show zem _ cap=true
   rw[ltRow_iff];intro c aa;obtain⟨j,hj,I⟩:=WaV.1 aa;exact U j c (by rw[Wac hj,I])
 |nilfn=>rfl
 |nilif=>rfl
 |nilp=>rfl
 |nilm=>rfl
 |ref hid hc h=>simpa [C.lt]using hid
 |msl hid hc h=>simpa [C.lt]using hid
 |mp hid hc h=>simpa [C.lt]using hid
end
theorem VRel.lt_len {E:Env} {x:V} {v:Value} (h:VRel E x v):x.lt E.H.length=true:=by
 induction h with
 |one h=>exact h.lt_len
 | @agg cs vs hn h=>
   show zem _ cs=true
   rw[ltRow_iff];intro c I;obtain⟨j,hj,U⟩:=WaV.1 I;exact(h j c (by rw[Wac hj,U])).lt_len
 | @tup Vs vs hn h ih=>
   show ltVs _ Vs=true
   rw[ltVs_iff];intro c I;obtain⟨j,hj,U⟩:=WaV.1 I;exact ih j c (by rw[Wac hj,U])
 |un=>rfl
theorem ymf {E:Env} (hE:HRel E) {id:Nat} (ho:E.H[id]? =some (.cells 0 0 [])) {cs:List C} {vs:Array Value} (hn:vs.size=cs.length) (aa:∀(j:Nat) (c:C),cs[j]? =some c->∃y,vs[j]? =some y/\CRel E c y) (ty:TypeId):
  ∃E',E'.w=E.w.alloc (.cells vs ty)/\E'.H=E.H.set id (.cells 1 cs.length [cs])/\VRel E' (.one (.ref id 1 0 0)) (.pointer (some ⟨E.w.heap.size,0,none⟩))/\HRel E'/\Trans E E':=by
 have I:=(Wag.1 ho).1
 obtain⟨t,hh⟩:=zof hE id (.cells 0 0 []) (.cells 1 cs.length [cs]) (E.w.alloc (.cells vs ty)) ⟨E.w.heap.size,0,1⟩ ho (by simp) rfl rfl rfl (fun b hb _=>heap_alloc_old E.w _ b hb)
  (fun af sz' ae e=>by cases e;exact⟨0,0,[],rfl,by omega,fun h=>by omega⟩) (fun ai e=>by cases e) _ rfl (fun _=>.inr (Wae _))
 refine⟨_,rfl,rfl,?_,hh ?_,t⟩
 ·refine .one (.ref (by simpa using I) rfl fun cur sz rows U=>?_)
  rw[WaU I]at U;cases U;exact⟨Wae _,fun _=>by simp⟩
 ·refine⟨?_,?_,?_,fun _=>⟨vs,ty,?_,?_,?_⟩⟩
  ·simp
  ·simp[lim]
  ·simp
  ·simp only[if_true];exact RowAt.mk0 (heap_alloc_new E.w _)
  ·simp[hn]
  ·intro i j c ab
   obtain⟨x,hx,ad⟩:=at2_some.1 ab
   cases i with
   |zero=>
    simp at hx;subst hx;obtain⟨y,hy,hc⟩:=aa j c ad;exact⟨y,by simpa using hy,hc.trans t⟩
   |succ i=>simp at hx
def zyo (E:Env) (H:List O):Env:=⟨E.w,fun b=>E.Fr b\/∃(k:Nat) (o:O),E.H[k]? =some o/\H.length<=k/\E.live k o/\(E.bd k).blk=b,E.bd,H⟩
theorem yi5 {E:Env} (hE:HRel E) {H G:List O} (hH:E.H=H++G) (hl:∀o∈H,o.lt H.length=true):
  HRel (zyo E H)/\(∀{c:C} {v:Value},CRel E c v->c.lt H.length=true->CRel (zyo E H) c v)/\(∀{x:V} {v:Value},VRel E x v->x.lt H.length=true->VRel (zyo E H) x v)/\(∀b,(zyo E H).own b->E.own b):=by
 have old:∀{id:Nat},id<H.length->E.H[id]? =H[id]? :=fun{id} h=>by rw[hH,Wa8 h]
 have lv:∀{j:Nat} {x:O},(zyo E H).live j x↔E.live j x:=fun{j x}=>zbj rfl
 have own:∀b,(zyo E H).own b->E.own b:=by
  rintro b ⟨id,o,h1,h2,h3⟩
  have ab:id<H.length:=(Wag.1 h1).1
  exact⟨id,o,by rw[old ab];exact h1,lv.1 h2,h3⟩
 have I:∀b,E.free b->(zyo E H).free b:=fun b hb=>⟨hb.1,fun h=>h.elim hb.2.1 (fun⟨k,o,h1,_,h3,h4⟩=>hb.2.2 ⟨k,o,h1,h3,h4⟩),fun h=>hb.2.2 (own b h)⟩
 have hid:∀id,id<H.length->id<E.H.length->id<(zyo E H).H.length/\(zyo E H).H[id]? =E.H[id]? /\(zyo E H).bd id=E.bd id:=fun id h _=>⟨h,(old h).symm,rfl⟩
 have into:∀{c:C} {v:Value},CRel E c v->c.lt H.length=true->CRel (zyo E H) c v:=fun h=>h.into (m:=H.length) I (fun _ _ _=>rfl) hid
 refine⟨⟨fun id o ho=>?_,fun i j x y U hy lx ly aa=>?_,fun i x U lx=>?_,fun b hb=>?_,hE.glob.of I (fun _ _ _=>rfl)⟩,into,fun h=>h.into (m:=H.length) I (fun _ _ _=>rfl) hid,own⟩
 ·have ab:id<H.length:=(Wag.1 ho).1
  have ad:o.lt H.length=true:=hl o (Wad ho)
  have:=hE.obj id o (by rw[old ab];exact ho)
  cases o with
  |cells cur sz rows=>
   obtain⟨h3,h4,h5,h6⟩:=this;refine⟨h3,h4,h5,fun hc=>?_⟩;obtain⟨arr,ty,h1,h2,h6⟩:=h6 hc;refine⟨arr,ty,h1,h2,fun i j c aa=>?_⟩;obtain⟨v,hv,hr⟩:=h6 i j c aa;exact⟨v,hv,into hr (z7w ad aa)⟩
  |map es=>
   obtain⟨ae,clock,h1,h2,h3⟩:=this;refine⟨ae,clock,h1,h2,fun i k x hi=>?_⟩;obtain⟨e,he,hk,U⟩:=h3 i k x hi;simp only[O.lt,Wak,Wan]at ad
   have:=ad (k,x) (Wad hi)
   exact⟨e,he,into hk this.1,into U this.2⟩
  |dead=>trivial
 ·have hi:=(Wag.1 U).1
  have hj:=(Wag.1 hy).1
  exact hE.dist i j x y (by rw[old hi];exact U) (by rw[old hj];exact hy) (lv.1 lx) (lv.1 ly) aa
 ·have hi:=(Wag.1 U).1
  rintro(hf|⟨k,o,h1,h2,h3,h4⟩)
  ·exact hE.nofr i x (by rw[old hi];exact U) (lv.1 lx) hf
  ·exact hE.dist k i o x h1 (by rw[old hi];exact U) h3 (lv.1 lx) (by have:i<H.length:=hi;omega) h4
 ·rcases hb with hf|⟨k,o,h1,h2,h3,h4⟩
  ·exact hE.frlt b hf
  ·exact h4▸hE.lt h1 h3
theorem yht {E E1:Env} (hE:HRel E) {H G:List O} (hH:E.H=H++G) (h1:HRel E1) (ad:E1.H=H) (t:Trans (zyo E H) E1):
  ∃E',E'.w=E1.w/\E'.H=E.H/\HRel E'/\Trans E E'/\∀{x:V} {v:Value},VRel E1 x v->VRel E' x v:=by
 have old:∀{id:Nat},id<H.length->E.H[id]? =H[id]? :=fun{id} h=>by rw[hH,Wa8 h]
 let E':Env:=⟨E1.w,E.Fr,fun id=>if id<H.length then E1.bd id else E.bd id,E.H⟩
 have I:∀{id:Nat},id<H.length->E'.bd id=E1.bd id:=fun{id} h=>by simp[E',h]
 have U:∀{id:Nat},¬id<H.length->E'.bd id=E.bd id:=fun{id} h=>by simp[E',h]
 have aa:∀{id:Nat} {o:O},id<H.length->E.H[id]? =some o->E1.H[id]? =some o:=fun{id o} h ho=>by rw[ad,<-old h];exact ho
 have aw:∀{id ver sz:Nat} {rows:List (List C)},id<H.length->E.H[id]? =some (.cells ver sz rows)->E1.bd id=E.bd id:=by
  intro id ver sz rows h ho;obtain⟨aq,ax,aj,q1,q2,q3⟩:=t.objC id ver sz rows h (aa h ho)
  have an:H[id]? =some (.cells aq ax aj):=q1
  rw[<-old h,ho]at an;cases an;exact(q3 rfl).2.2
 have ai:∀b,E'.own b->E1.own b\/∃(k:Nat) (o:O),E.H[k]? =some o/\H.length<=k/\E.live k o/\(E.bd k).blk=b:=by
  rintro b ⟨id,o,q1,q2,q3⟩
  by_cases h:id<H.length
  ·exact .inl ⟨id,o,aa h q1,(zbj (I h)).1 q2,by rw[<-I h];exact q3⟩
  ·exact .inr ⟨id,o,q1,by omega,(zbj (U h)).1 q2,by rw[<-U h];exact q3⟩
 have ae:∀b,E1.free b->E'.free b:=fun b hb=>by
  have hf:=hb.2.1
  rw[t.fr]at hf;exact⟨hb.1,fun h=>hf (.inl h),fun h=>(ai b h).elim hb.2.2 (fun h=>hf (.inr h))⟩
 have hid:∀id,id<H.length->id<E1.H.length->id<E'.H.length/\E'.H[id]? =E1.H[id]? /\E'.bd id=E1.bd id:=fun id h _=>by
  refine⟨by simp[E',hH];omega,?_,I h⟩
  show E.H[id]? =_
  rw[old h,ad]
 have into:∀{c:C} {v:Value},CRel E1 c v->CRel E' c v:=fun{c v} h=>h.into (m:=H.length) ae (fun _ _ _=>rfl) hid (by have:=h.lt_len;rwa[ad]at this)
 have tr:Trans E E':=by
  refine⟨rfl,t.size,t.os,t.tape,t.output,fun b hb ho=>t.keep b hb (fun h=>ho ?_),fun b hb ho=>?_,Wae _,fun id ar sz' ak au ho=>?_,fun id ao au ho=>?_⟩
  ·obtain⟨id,o,q1,q2,q3⟩:=h
   have ab:id<H.length:=(Wag.1 q1).1
   exact⟨id,o,by rw[old ab];exact q1,(zbj rfl).1 q2,q3⟩
  ·rcases ai b ho with h|⟨k,o,q1,q2,q3,q4⟩
   ·obtain⟨id,o,q1,q2,q3⟩:=t.own b hb h
    have ab:id<H.length:=(Wag.1 q1).1
    exact⟨id,o,by rw[old ab];exact q1,(zbj rfl).1 q2,q3⟩
   ·exact⟨k,o,q1,q3,q4⟩
  ·refine⟨ar,sz',ak,ho,Wae _,fun _=>⟨rfl,rfl,?_⟩⟩
   by_cases h:id<H.length
   ·rw[I h];exact aw h ho
   ·exact U h
  ·refine⟨ao,ho,?_⟩
   by_cases h:id<H.length
   ·rw[I h]
    obtain⟨ay,q1,q2⟩:=t.objM id ao h (aa h ho);exact q2
   ·rw[U h]
 have al:∀{k:Nat} {o:O},E.H[k]? =some o->¬k<H.length->E.live k o->E1.w.heap[(E.bd k).blk]? =E.w.heap[(E.bd k).blk]? :=by
  intro k o q1 q2 q3;refine t.keep _ (hE.lt q1 q3) ?_;rintro⟨id,o2,p1,p2,p3⟩
  have ab:id<H.length:=(Wag.1 p1).1
  exact hE.dist id k o2 o (by rw[old ab];exact p1) q1 ((zbj rfl).1 p2) q3 (by omega) p3
 have mixed:∀{i j:Nat} {x y:O},i<H.length->E.H[i]? =some x->E1.live i x->E.H[j]? =some y->¬j<H.length->E.live j y->(E1.bd i).blk≠(E.bd j).blk:=by
  intro i j x y hi hx lx hy hj ly e
  have:=h1.nofr i x (aa hi hx) lx
  rw[t.fr]at this;exact this (.inr ⟨j,y,hy,by omega,ly,e.symm⟩)
 refine⟨E',rfl,rfl,⟨fun id o ho=>?_,fun i j x y hx hy lx ly af=>?_,fun i x hx lx hf=>?_,fun b hb=>War (hE.frlt b hb) t.size,hE.gl tr⟩,tr,fun h=>h.into (m:=H.length) ae (fun _ _ _=>rfl) hid (by have:=h.lt_len;rwa[ad]at this)⟩
 ·by_cases h:id<H.length
  ·have:=h1.obj id o (aa h ho)
   cases o with
   |cells cur sz rows=>
    obtain⟨h3,h4,h5,h6⟩:=this;refine⟨by rw[I h];exact h3,h4,h5,fun hc=>?_⟩;rw[I h]at hc;obtain⟨arr,ty,g1,g2,h6⟩:=h6 hc;refine⟨arr,ty,by rw[I h];exact g1,by rw[I h];exact g2,fun i j c af=>?_⟩;obtain⟨v,hv,hr⟩:=h6 i j c af;exact⟨v,by rw[I h];exact hv,into hr⟩
   |map es=>
    obtain⟨av,clock,g1,g2,g3⟩:=this;refine⟨av,clock,by rw[I h];exact g1,g2,fun i k x hi=>?_⟩;obtain⟨e,he,hk,hx⟩:=g3 i k x hi;exact⟨e,he,into hk,into hx⟩
   |dead=>trivial
  ·exact(hE.obj id o ho).keep tr (U h) (fun hl=>al ho h hl)
 ·by_cases hi:i<H.length<;>by_cases hj:j<H.length
  ·rw[I hi,I hj]
   exact h1.dist i j x y (aa hi hx) (aa hj hy) ((zbj (I hi)).1 lx) ((zbj (I hj)).1 ly) af
  ·rw[I hi,U hj]
   exact mixed hi hx ((zbj (I hi)).1 lx) hy hj ((zbj (U hj)).1 ly)
  ·rw[U hi,I hj]
   exact(mixed hj hy ((zbj (I hj)).1 ly) hx hi ((zbj (U hi)).1 lx)).symm
  ·rw[U hi,U hj]
   exact hE.dist i j x y hx hy ((zbj (U hi)).1 lx) ((zbj (U hj)).1 ly) af
 ·by_cases h:i<H.length
  ·rw[I h]at hf
   have:=h1.nofr i x (aa h hx) ((zbj (I h)).1 lx)
   rw[t.fr]at this;exact this (.inl hf)
  ·rw[U h]at hf
   exact hE.nofr i x hx ((zbj (U h)).1 lx) hf
end Go.Lz

end
section
namespace Go.Lz
structure St where
 t:List (Nat×V)
 H:List O
def look:List (Nat×V)->Nat->V
 |[],_=>.un
 |(k,v)::r,i=>if k=i then v else look r i
def St.ρ (st:St):Operand->V
 |.tmp i=>look st.t i
 |.const v=>V.ofV v
 |.func f=>.one (.fn f [])
 |.global _=>.un
def St.put (st:St) (d:Option Nat) (v:V) (H:List O):St:=
 match d with
 |some d=>⟨(d,v)::st.t,H⟩
 |none=>⟨st.t,H⟩
inductive Ex where
 |normal
 |exit (id:Nat)
 |ret
 |goto (l:Nat)
def Ex.toExit:Ex->Exit
 |.normal=>.normal
 |.exit id=>.exit id
 |.ret=>.ret
 |.goto l=>.goto l
structure Cf where
 n:Nat
 m:Nat
structure SR (ctx:Env) (n:Cf) (st:St) (a:Act) (E:Env):Prop where
 len:n.n<=a.tmps.size
 hm:ctx.H.length<=n.m
 defers:a.defers=[]
 tm:∀i,VRel E (look st.t i) (a.tmps.getD i undef)
 H:E.H=st.H
 rel:HRel E
 tr:Trans ctx E
def Ct (P:Program) (f:FuncId) (args:List V) (H:List O) (K:V->List O->Prop):Prop:=
 (∃fn,P.funcs[f]? =some fn/\(fn.name== "runtime.NumGoroutine")=false/\fn.body.isNone=false)/\
 ∀(E:Env) (vs:Array Value),HRel E->E.H=H->vs.size=args.length->(∀(j:Nat) (x:V),args[j]? =some x->VRel E x (vs.getD j undef))->
  Calls P f vs E.w fun e w'=>∃v x E',e=.returned v/\E'.w=w'/\K x E'.H/\VRel E' x v/\HRel E'/\Trans E E'
theorem Ct.mono {P:Program} {f:FuncId} {args:List V} {H:List O} {K I:V->List O->Prop} (h:Ct P f args H K) (U:∀x H',K x H'->I x H'):Ct P f args H I:=
 ⟨h.1,fun E vs h1 h2 h3 h4=>Calls.mono (h.2 E vs h1 h2 h3 h4) fun e w' ⟨v,x,E',a,b,c,d⟩=>⟨v,x,E',a,b,U _ _ c,d⟩⟩
def yc8 (r:R) (K:V->List O->Prop):Prop:=r.pre/\(r.fact->K r.v r.h)
def awpOp (P:Program) (o:Oper) (st:St) (K:St->Prop):Prop:=
 match o.op with
 |.call {callee:=.value f,args,argTypes:=_}=>match st.ρ f with
  |.one (.fn g cap)=>Ct P g (args.toList.map st.ρ++cap.map V.one) st.H fun v H'=>K (st.put o.dst v H')
  |_=>False
 |op=>yc8 (zdu P o.pos op st.ρ st.H) fun v H'=>K (st.put o.dst v H')
def awpQ (P:Program) (o:Oper) (st:St) (K:St->Prop):Prop:=
 match o.op with
 |.call {callee:=.value f,args,argTypes:=_}=>match st.ρ f with
  |.one (.fn g cap)=>∃x,Ct P g (args.toList.map st.ρ++cap.map V.one) st.H (fun v H'=>v=x/\H'=st.H)/\K (st.put o.dst x st.H)
  |_=>False
 |op=>yc8 (zdu P o.pos op st.ρ st.H) fun v H'=>H'=st.H/\K (st.put o.dst v H')
def guarded (all:Array Oper) (o:Oper) (st:St) (X:St->Prop) (Y:St->Prop):Prop:=
 match o.guard with
 |none=>X st
 |some (j,want)=>match(all[j]?).bind (·.dst)with
  |some d=>match look st.t d with
   |.one (.bool b)=>(b=want->X ⟨(d,.one (.bool want))::st.t,st.H⟩)/\(b=(!want)->Y ⟨(d,.one (.bool (!want)))::st.t,st.H⟩)
   |_=>False
  |none=>False
def guarded2 (all:Array Oper) (o:Oper) (st:St) (X:St->Prop) (Y:St->Prop):Prop:=
 match o.guard with
 |none=>X st
 |some (j,want)=>match(all[j]?).bind (·.dst)with
  |some d=>match look st.t d with
   |.one (.bool b)=>(b=want->X ⟨(d,.one (.bool want))::st.t,st.H⟩)/\(b=(!want)->Y ⟨(d,.one (.bool (!want)))::st.t,st.H⟩)
   |.tup []=>Y st
   |_=>False
  |none=>False
def awpOps (P:Program) (all:Array Oper):List Oper->St->(St->Prop)->Prop
 |[],st,K=>K st
 |o::rest,st,K=>guarded2 all o st (fun st=>awpOp P o st fun st'=>awpOps P all rest st' K) (fun st=>awpOps P all rest (st.put o.dst (.tup []) st.H) K)
structure Fo where
 o:O
 w:Bool
 d:Nat
def zvh (P:Program) (o:Oper) (st:St) (N:List Fo):Option (Prop×V×List Fo):=
 match o.guard,o.dst,o.op with
 |none,some d,.alloc t=>match tZ P t with
  |some z=>match z.cs with
   |some cs=>some (True,.one (.ref (st.H.length+N.length) 1 0 0),N++[⟨.cells 1 cs.length [cs],false,d⟩])
   |none=>none
  |none=>none
 |none,some d,.box _ x=>match(st.ρ x).cs with
  |some cs=>some (True,.one (.ref (st.H.length+N.length) 1 0 0),N++[⟨.cells 1 cs.length [cs],false,d⟩])
  |none=>none
 |none,none,.store t (.tmp s) x=>match look st.t s,(st.ρ x).cs,tAg P t with
  |.one (.ref id 1 0 off),some cs,some (_,n)=>if st.H.length<=id then(match N[id-st.H.length]? with
   |some ⟨.cells 1 sz [row],false,d⟩=>some (d=s/\off+cs.length<=row.length/\cs.length=n,.un,N.set (id-st.H.length) ⟨.cells 1 sz [zen row off cs],true,d⟩)
   |_=>none)else none
  |_,_,_=>none
 |_,_,_=>none
def effO:Op->Bool
 |.store _ _ _=>true
 |.makeSlice _ _ _=>true
 |.makeMap _ _=>true
 |.mapUpdate _ _ _ _=>true
 |.insert _ _ _ _=>true
 |.alloc _=>true
 |.box _ _=>true
 |.call ⟨.builtin .append,_,_⟩=>true
 |.call ⟨.builtin .copy,_,_⟩=>true
 |_=>false
def z63 (a b:List Nat):List Nat:=a++b.filter fun x=> !a.contains x
def z0f (I:List (List Nat)) (o:Oper):List (List Nat):=
 I++[(o.after.toList.filter (Region.binds .any)).foldl (fun acc e=>z63 acc (e.on::I.getD e.on [])) []]
def zi6 (ops:List Oper):List (List Nat):=ops.foldl z0f []
def z2e (ops:Array Oper) (k:Nat):Bool:=
 (List.range ops.size).all fun j=>decide (j<k)||(List.range j).all fun i=>((zi6 ops.toList).getD j []).contains i
def zbv (o:Oper):List Nat:=o.op.operands.toList.filterMap fun|.tmp t=>some t|_=>none
def zdt (ops:Array Oper) (k:Nat):List Nat:=
 (List.range k).filter fun i=>(List.range ops.size).any fun j=>decide (k<=j)&& !((zi6 ops.toList).getD j []).contains i
def yf7 (o:Oper) (oj:Oper):Bool:=match oj.dst with|some d=> !(zbv o).contains d|none=>true
def ygb (ops:Array Oper) (i:Nat):Bool:=match ops[i]? with
 |none=>false
 |some o=>o.guard.isNone&& !effO o.op&&o.dst.isSome&&(List.range ops.size).all fun j=>match ops[j]? with
  |none=>false
  |some oj=>(decide (j=i)|| !(oj.dst==o.dst))&&(decide (j<i)||yf7 o oj)
def z4o (ops:Array Oper) (k:Nat):Bool:=
 ((List.range ops.size).all fun j=>decide (j<k)||(List.range j).all fun i=>(zdt ops k).contains i||((zi6 ops.toList).getD j []).contains i)&&(zdt ops k).all (ygb ops)
def z4p (P:Program) (all:Array Oper) (t:List (Nat×V)) (i:Nat):Prop:=match all[i]? with
 |some o=>∀H:List O,(zdu P o.pos o.op (St.ρ ⟨t,H⟩) H).pre/\(zdu P o.pos o.op (St.ρ ⟨t,H⟩) H).h=H/\(zdu P o.pos o.op (St.ρ ⟨t,H⟩) H).v=look t (o.dst.getD 0)
 |none=>False
def zym (P:Program) (all:Array Oper) (t:List (Nat×V)):List Nat->Prop
 |[]=>True
 |i::L=>z4p P all t i/\zym P all t L
def ykq (P:Program) (all:Array Oper) (k:Nat) (t:List (Nat×V)):Prop:=z4o all k=true/\zym P all t (zdt all k)
def zzl (P:Program) (all:Array Oper) (k:Nat) (t:List (Nat×V)):Prop:=z2e all k=true\/ykq P all k t
def z77:Op->Bool
 |.call ⟨.value _,_,_⟩=>true
 |_=>false
def effF (op:Op):Bool:=effO op||z77 op
def isMk:Op->Bool
 |.makeSlice _ _ _=>true
 |_=>false
def ygf:Op->Bool
 |.call ⟨.value (.func f),_,_⟩=>tailFn.contains f
 |_=>false
def effT (pos:String) (op:Op):Bool:=(effO op&& !(isMk op&&yek pos))||(z77 op&&tailPos.contains pos)||ygf op
def zo2 (S:List Nat) (H H':List O):Prop:=∀i∈S,H'[i]? =H[i]?
def zcm (all:Array Oper) (i:Nat):Bool:=match all[i]? with|some o=>effF o.op|none=>false
def floQ (all:Array Oper) (i:Nat):Bool:=(List.range all.size).any fun e=>zcm all e&& !(((zi6 all.toList).getD i []).contains e)&& !(((zi6 all.toList).getD e []).contains i)
def floB (all:Array Oper):Bool:=(List.range all.size).all fun j=>(match all[j]? with|some o=>o.guard.isNone|none=>false)&&(!zcm all j||(List.range j).all fun i=> !zcm all i||((zi6 all.toList).getD j []).contains i)
def zwp (P:Program) (pos:String) (op:Op) (ρ:Operand->V) (H:List O) (S:List Nat):Prop:=
 ∀H',zo2 S H H'->(zdu P pos op ρ H').pre/\(zdu P pos op ρ H').h=H'/\(zdu P pos op ρ H').v=(zdu P pos op ρ H).v
def floE (all:Array Oper) (e:Nat):Bool:=(List.range all.size).any fun i=> !zcm all i&& !(((zi6 all.toList).getD i []).contains e)&& !(((zi6 all.toList).getD e []).contains i)
def floL (all:Array Oper) (Fl FE:List Nat):Bool:=(List.range all.size).all fun i=>if zcm all i then !floE all i||FE.contains i else !floQ all i||Fl.contains i
def awpF (P:Program) (S Fl FE:List Nat):Nat->List Oper->St->(St->Prop)->Prop
 |_,[],st,K=>K st
 |k,o::rest,st,K=>match effF o.op with
  |true=>match o.op with
   |.call {callee:=.value f,args,argTypes:=_}=>match st.ρ f with
    |.one (.fn g cap)=>∃x H1,Ct P g (args.toList.map st.ρ++cap.map V.one) st.H (fun v H'=>v=x/\H'=H1)/\(FE.contains k=true->zo2 S st.H H1)/\awpF P S Fl FE (k+1) rest (st.put o.dst x H1) K
    |_=>False
   |op=>(zdu P o.pos op st.ρ st.H).pre/\(FE.contains k=true->zo2 S st.H (zdu P o.pos op st.ρ st.H).h)/\awpF P S Fl FE (k+1) rest (st.put o.dst (zdu P o.pos op st.ρ st.H).v (zdu P o.pos op st.ρ st.H).h) K
  |false=>(zdu P o.pos o.op st.ρ st.H).pre/\(zdu P o.pos o.op st.ρ st.H).h=st.H/\(Fl.contains k=true->zwp P o.pos o.op st.ρ st.H S)/\awpF P S Fl FE (k+1) rest (st.put o.dst (zdu P o.pos o.op st.ρ st.H).v st.H) K
def ymx:Op->Bool
 |.call ⟨.value (.func f),_,_⟩=>floFn.contains f
 |_=>false
def zyp (ops:Array Oper):Bool:=(match ops[0]? with|some o=>floPos.contains o.pos|none=>false)||ops.toList.any fun o=>ymx o.op
def z8q (o:Oper) (N:List Fo):Bool:=N.all fun x=> !(zbv o).contains x.d
def awpDraw (P:Program) (all:Array Oper):List Oper->List Fo->St->(St->Prop)->Prop
 |[],N,st,K=>K ⟨st.t,st.H++N.map Fo.o⟩
 |o::rest,N,st,K=>match zvh P o st N with
  |some (p,v,I)=>p/\awpDraw P all rest I (st.put o.dst v st.H) K
  |none=>match effT o.pos o.op with
   |true=>zzl P all (all.size-(rest.length+1)) st.t/\awpOps P all (o::rest) ⟨st.t,st.H++N.map Fo.o⟩ K
   |false=>z8q o N=true/\guarded2 all o st (fun st=>awpQ P o st fun st'=>awpDraw P all rest N st' K) (fun st=>awpDraw P all rest N (st.put o.dst (.tup []) st.H) K)
def okC (n:Nat):Code->Bool
 |.region _ ops _=>ops.toList.all fun o=>match o.dst with|some d=>decide (d<n)|none=>true
 |.seq a b=>okC n a&&okC n b
 |.cond _ a b=>okC n a&&okC n b
 |.block _ c=>okC n c
 |.loop c=>okC n c
 |.scope c=>okC n c
 |_=>true
def z06 (P:Program) (n:Cf) (Q:Ex->St->Prop) (ctx:Env):Exit->Act->World->Prop:=fun e I w'=>∃x st' E',e=x.toExit/\E'.w=w'/\Q x st'/\SR ctx n st' I E'
def Sem' (P:Program) (n:Cf) (c:Code) (st:St) (Q:Ex->St->Prop):Prop:=
 okC n.n c=true->∀ctx a E,SR ctx n st a E->c.wp P (z06 P n Q ctx) a E.w
def LoopSem (P:Program) (n:Cf) (body:Code) (st:St) (Q:Ex->St->Prop):Prop:=
 okC n.n body=true->∀ctx a E,SR ctx n st a E->∀(b:Frame) (k:List Item) (cs:List Frame),
  ∃e I w',z06 P n Q ctx e I w'/\Arrives P (lone (b.at a (.code body::.inLoop body::k)) cs E.w) b k cs e I w'
def zq1 (I:St->Prop) (Q:Ex->St->Prop):Ex->St->Prop
 |.normal,st=>I st
 |e,st=>Q e st
def ScopeSem (P:Program) (n:Cf) (c rest:Code) (st:St) (Q:Ex->St->Prop):Prop:=
 ∀ctx a E,SR ctx n st a E->∀(b:Frame) (k:List Item) (cs:List Frame),
  ∃e I w',z06 P n Q ctx e I w'/\Arrives P (lone (b.at a (.code rest::.inScope c::k)) cs E.w) b k cs e I w'
def z9h (P:Program) (n:Cf) (c:Code) (Q:Ex->St->Prop):Ex->St->Prop
 |.goto l,st=>∃rest,findLabel c l=some rest/\okC n.n rest=true/\ScopeSem P n c rest st Q
 |e,st=>Q e st
def z14 (id:Nat) (Q:Ex->St->Prop):Ex->St->Prop
 |.exit i,st=>if i=id then Q .normal st else Q (.exit i) st
 |e,st=>Q e st
def z3j (c:V) (X Y:Prop):Prop:=
 match c with
 |.one (.bool b)=>(b=true->X)/\(b=false->Y)
 |_=>False
def zhc (ops:Array Oper) (i j:Nat):Bool:=match ops[j]? with|some o=>o.after.toList.any fun e=>Region.binds .any e&&e.on==i|none=>false
def zwc (ops:Array Oper):Bool:=
 (List.range ops.size).all fun j=>match ops[j]? with
   |none=>false
   |some oj=>oj.after.toList.all (fun e=> !Region.binds .any e||decide (e.on<j))&&
    (match oj.guard with|none=>true|some (g,_)=>decide (g<j)&&zhc ops g j)&&
    (List.range j).all fun i=>match ops[i]? with
      |none=>false
      |some oi=>(match oi.dst with|some d=> !((zbv oj).contains d||oj.dst==some d)|none=>true)&&(match oi.dst,oj.guard with|some d,some (g,_)=> !((ops[g]?).bind (·.dst)==some d)|_,_=>true)&&(match oj.dst with|some d=> !(zbv oi).contains d|none=>true)&&(match oj.dst,oi.guard with|some d,some (g,_)=> !((ops[g]?).bind (·.dst)==some d)|_,_=>true)||zhc ops i j
def awp (P:Program) (n:Cf):Code->St->(Ex->St->Prop)->Prop
 |.skip,st,Q=>Q .normal st
 |.label _,st,Q=>Q .normal st
 |.region _ ops draw,st,Q=>match draw with
  |true=>match zyp ops with
   |true=>P.follows .mixedOrders=true/\zwc ops=true/\floB ops=true/\∃S Fl FE,floL ops Fl FE=true/\awpF P S Fl FE 0 ops.toList st (Q .normal)
   |false=>P.follows .mixedOrders=true/\zwc ops=true/\awpDraw P ops ops.toList [] st (Q .normal)
  |false=>awpOps P ops ops.toList st (Q .normal)
 |.seq a b,st,Q=>awp P n a st (zq1 (fun st'=>awp P n b st' Q) Q)
 |.cond c x y,st,Q=>z3j (st.ρ c) (awp P n x st Q) (awp P n y st Q)
 |.block id c,st,Q=>awp P n c st (z14 id Q)
 |.loop c,st,Q=>LoopSem P n c st Q
 |.scope c,st,Q=>awp P n c st (z9h P n c Q)
 |.goto l,st,Q=>Q (.goto l) st
 |.exit id,st,Q=>Q (.exit id) st
 |.ret,st,Q=>Q .ret st
 |_,_,_=>False
theorem zfb (k:Nat) (v:V) (r:List (Nat×V)) (i:Nat):look ((k,v)::r) i=if k=i then v else look r i:=rfl
theorem SR.ρ {ctx:Env} {n:Cf} {st:St} {a:Act} {E:Env} (h:SR ctx n st a E) (x:Operand):VRel E (st.ρ x) (a.eval x):=by
 cases x with
 |tmp t=>exact h.tm t
 |const v=>exact V.ofV_rel E v
 |global g=>exact .un
 |func f=>exact .one (.fn rfl (by simp))
theorem zny {a:Act} {d i:Nat} {v:Value} (I:d<a.tmps.size):(a.put (some d) v).tmps.getD i undef=if d=i then v else a.tmps.getD i undef:=by
 simp only[Act.put,Wah,WbE];split
 ·rename_i e;subst e;simp[I]
 ·rfl
theorem SR.put {ctx:Env} {n:Cf} {st:St} {a:Act} {E E':Env} (h:SR ctx n st a E) {o:Oper} (ho:∀d,o.dst=some d->d<n.n) {x:V} {v:Value} {H':List O} (hx:VRel E' x v) (I:E'.H=H') (U:HRel E') (tr:Trans E E'):
  SR ctx n (st.put o.dst x H') (a.put o.dst v) E':=by
 cases hd:o.dst with
 |none=>exact⟨h.len,h.hm,h.defers,fun i=>(h.tm i).trans tr,I,U,h.tr.trans tr⟩
 |some d=>
  have aa:=ho d hd
  refine⟨by simpa [Act.put]using h.len,h.hm,h.defers,fun i=>?_,I,U,h.tr.trans tr⟩;rw[zny (War aa h.len)];simp only[St.put,zfb];split
  ·exact hx
  ·exact(h.tm i).trans tr
theorem ya3 {E:Env} {st:St} {a:Act} (hρ:∀x,VRel E (st.ρ x) (a.eval x)) (args:Array Operand) (cap:List C) (vs:Array Value) (hn:vs.size=cap.length) (hv:∀(j:Nat) (c:C),cap[j]? =some c->CRel E c (vs.getD j undef)):
  (args.map a.eval++vs).size=(args.toList.map st.ρ++cap.map V.one).length/\
  ∀(j:Nat) (x:V),(args.toList.map st.ρ++cap.map V.one)[j]? =some x->VRel E x ((args.map a.eval++vs).getD j undef):=by
 refine⟨by simp[hn],fun j x U=>?_⟩;rw[Wbm]at U;split at U
 ·rename_i I
  simp at I;simp only[Wao,Wal]at U;obtain⟨p,hp,rfl⟩:=U
  have:(args.map a.eval++vs).getD j undef=a.eval p:=by
   have aa:args[j]? =some p:=by simpa using hp
   rw[Wah,Wbe (by simpa using I),WbV,aa];rfl
  rw[this];exact hρ p
 ·rename_i I
  simp at I;simp only[Wao,Wal,Waq,Wbb]at U;obtain⟨c,hc,rfl⟩:=U
  have:(args.map a.eval++vs).getD j undef=vs.getD (j-args.size) undef:=by
   rw[Wah,Wah,Wcf (by simpa using I)];simp
  rw[this];exact .one (hv _ c hc)
theorem zv2 {P:Program} {o:Oper} {a:Act} {w:World} {f:Operand} {args:Array Operand} {I:Array TypeId} (U:o.op=.call {callee:=.value f,args,argTypes:=I}) {g:FuncId} {vs:Array Value} (hf:a.eval f=.func (.func g) #[] vs)
  (aa:∃fn,P.funcs[g]? =some fn/\(fn.name== "runtime.NumGoroutine")=false/\fn.body.isNone=false):(execOp a.eval o).run P w=.ok (.enter g (args.map a.eval++vs)) w:=by
 obtain⟨fn,h1,h2,h3⟩:=aa
 have ab:¬fn.name= "runtime.NumGoroutine" :=by simpa using h2
 have ad:¬fn.body=none:=by intro e;simp[e]at h3
 simp[execOp,U,resolve,hf,Deferred.ofValue,invoke,callFunc,h1,ab,ad]
theorem z4z {E:Env} {g:FuncId} {cap:List C} {v:Value} (h:VRel E (.one (.fn g cap)) v):∃vs,v=.func (.func g) #[] vs/\vs.size=cap.length/\∀(j:Nat) (c:C),cap[j]? =some c->CRel E c (vs.getD j undef):=by
 cases (one_inv h)with
 |fn hn hv=>exact⟨_,rfl,hn,hv⟩
theorem zz0 {P:Program} {o:Oper} {ctx:Env} {n:Cf} {st:St} {a:Act} {E:Env} {K:St->Prop} (h:SR ctx n st a E) (ho:∀d,o.dst=some d->d<n.n) (hw:awpOp P o st K)
  (Q:Exit->Act->World->Prop) (next:Act->World->Prop) (hn:∀st' a' E',K st'->SR ctx n st' a' E'->next a' E'.w):o.wp P a E.w next Q:=by
 unfold awpOp at hw;split at hw
 ·rename_i f args af ab
  split at hw
  ·rename_i g cap hf
   have I:=h.ρ f
   rw[hf]at I;obtain⟨vs,hv,ad,ae⟩:=z4z I;obtain⟨h1,h2⟩:=ya3 h.ρ args cap vs ad ae;unfold Oper.wp;rw[zv2 ab hv hw.1];refine Calls.mono (hw.2 E _ h.rel h.H h1 h2) ?_;rintro e w' ⟨v,x,E',rfl,rfl,hK,hx,hh,tr⟩;exact hn _ _ E' hK (h.put ho hx rfl hh tr)
  ·exact hw.elim
 ·obtain⟨hp,hk⟩:=hw
  rw[<-h.H]at hp hk;obtain⟨hf,U⟩:=yad (P:=P) (o:=o) h.rel h.ρ hp
  have aa:=hk hf
  rw[h.H]at U aa
  exact U next Q fun v E' hv hH hh tr=>hn _ _ E' aa (h.put ho hv hH hh tr)
theorem z1i {ops:Array Oper} {a:Act} {j d:Nat} {b:Bool} (I:(ops[j]?).bind (·.dst)=some d) (hb:a.tmps.getD d undef=.bool b):yielded ops a.tmps j=some b:=by
 unfold yielded;rw[I,Waa];rw[Wah]at hb
 cases ht:a.tmps[d]? with
 |none=>simp[ht,undef]at hb
 |some v=>simp[ht]at hb;subst hb;rfl
theorem SR.assume {ctx:Env} {n:Cf} {st:St} {a:Act} {E:Env} (h:SR ctx n st a E) {d:Nat} {x:V} (I:VRel E x (a.tmps.getD d undef)):SR ctx n ⟨(d,x)::st.t,st.H⟩ a E:=by
 refine⟨h.len,h.hm,h.defers,fun i=>?_,h.H,h.rel,h.tr⟩;simp only[zfb];split
 ·rename_i e;exact e▸I
 ·exact h.tm i
theorem z9g {all:Array Oper} {o:Oper} {ctx:Env} {n:Cf} {st:St} {a:Act} {E:Env} {X Y:St->Prop} (h:SR ctx n st a E) (I:guarded all o st X Y):
  ∃st',SR ctx n st' a E/\((Region.wanted o (yielded all a.tmps)=true/\X st')\/(Region.wanted o (yielded all a.tmps)=false/\Y st')):=by
 unfold guarded at I;split at I
 ·rename_i h0;exact⟨st,h,.inl ⟨by simp[Region.wanted,h0],I⟩⟩
 ·rename_i j want h0
  split at I
  ·rename_i d hd
   split at I
   ·rename_i b hb
    have ht:=h.tm d
    rw[hb]at ht
    have hv:=bool_inv (one_inv ht)
    have hy:=z1i hd hv
    by_cases U:b=want
    ·refine⟨_,h.assume (d:=d) (x:=.one (.bool want)) (by rw[hv,U];exact .one .bool),.inl ⟨?_,I.1 U⟩⟩
     simp[Region.wanted,h0,hy,U]
    ·have aa:b= !want:=by cases b<;>cases want<;>simp_all
     refine⟨_,h.assume (d:=d) (x:=.one (.bool (!want))) (by rw[hv,aa];exact .one .bool),.inr ⟨?_,I.2 aa⟩⟩;simp only[Region.wanted,h0,hy];simp[U]
   ·exact I.elim
  ·exact I.elim
theorem zyx {ops:Array Oper} {a:Act} {j d:Nat} (I:(ops[j]?).bind (·.dst)=some d) (hb:a.tmps.getD d undef=.tuple #[]):yielded ops a.tmps j=none:=by
 unfold yielded;rw[I,Waa];rw[Wah]at hb
 cases ht:a.tmps[d]? with
 |none=>rfl
 |some v=>simp[ht]at hb;subst hb;rfl
theorem zs8 {all:Array Oper} {o:Oper} {ctx:Env} {n:Cf} {st:St} {a:Act} {E:Env} {X Y:St->Prop} (h:SR ctx n st a E) (I:guarded2 all o st X Y):
  ∃st',SR ctx n st' a E/\((Region.wanted o (yielded all a.tmps)=true/\X st')\/(Region.wanted o (yielded all a.tmps)=false/\Y st')):=by
 by_cases hs:∃j want d,o.guard=some (j,want)/\(all[j]?).bind (·.dst)=some d/\look st.t d=.tup []
 ·obtain⟨j,want,d,h0,U,hl⟩:=hs
  simp only[guarded2,h0,U,hl]at I
  have ht:=h.tm d
  rw[hl]at ht
  have hv:a.tmps.getD d undef=.tuple #[]:=by
   generalize a.tmps.getD d undef=v at ht
   cases ht with
   |tup hn _=>congr 1;exact Array.eq_empty_of_size_eq_zero (by simpa using hn)
  exact⟨st,h,.inr ⟨by simp[Region.wanted,h0,zyx U hv],I⟩⟩
 ·refine z9g h ?_
  unfold guarded2 at I;unfold guarded
  cases h0:o.guard with
  |none=>simpa only[h0]using I
  |some jw=>
   obtain⟨j,want⟩:=jw;rw[h0]at I
   cases U:(all[j]?).bind (·.dst)with
   |none=>simp only[U]at I
   |some d=>
    simp only[U]at I|-
    cases hl:look st.t d with
    |one c=>
     rw[hl]at I
     cases c with
     |bool b=>exact I
     |_=>exact I.elim
    |agg c=>simp only[hl]at I
    |un=>simp only[hl]at I
    |tup l=>
     cases l with
     |nil=>exact(hs ⟨j,want,d,h0,U,hl⟩).elim
     |cons x l=>simp only[hl]at I
theorem SR.skip2 {ctx:Env} {n:Cf} {st:St} {a:Act} {E:Env} (h:SR ctx n st a E) {o:Oper} (I:∀d,o.dst=some d->d<n.n):SR ctx n (st.put o.dst (.tup []) st.H) (a.put o.dst undef) E:=
 h.put I (.tup rfl (by simp)) h.H h.rel (Trans.refl E)
theorem SR.skip {ctx:Env} {n:Cf} {st:St} {a:Act} {E:Env} (h:SR ctx n st a E) {o:Oper} (I:∀d,o.dst=some d->d<n.n):SR ctx n (st.put o.dst .un st.H) (a.put o.dst undef) E:=
 h.put I .un h.H h.rel (Trans.refl E)
theorem zx3 {P:Program} {all:Array Oper} {ctx:Env} {n:Cf} {K:St->Prop} (Q:Exit->Act->World->Prop) (hQ:∀st' a' E',K st'->SR ctx n st' a' E'->Q .normal a' E'.w) (U:∀o∈all.toList,∀d,o.dst=some d->d<n.n):
  ∀(l:List Nat) (rest:List Oper),rest.length=l.length->(∀(k i:Nat),l[k]? =some i->all[i]? =rest[k]?)->∀(st:St) (a:Act) (E:Env),SR ctx n st a E->awpOps P all rest st K->wpOps P all Q l a E.w
 |[],rest,hl,hi,st,a,E,h,hw=>by
  have:rest=[]:=WaJ (by simpa using hl)
  subst this;exact hQ st a E hw h
 |i::l,rest,hl,hi,st,a,E,h,hw=>by
  cases rest with
  |nil=>simp at hl
  |cons o rest=>
   have ho:all[i]? =some o:=by simpa using hi 0 i rfl
   have aa:o∈all.toList:=Wad (by simpa using ho)
   simp only[wpOps,ho];obtain⟨st',hs,hh⟩:=zs8 h hw
   have ab:=zx3 (P:=P) (all:=all) (K:=K) Q hQ U l rest (by simpa using hl) (fun k j hk=>by simpa using hi (k+1) j (by simpa using hk))
   rcases hh with⟨I,hx⟩|⟨I,hy⟩
   ·simp only[I,if_true]
    exact .inl (zz0 hs (U o aa) hx Q _ fun ae a2 E2 hK ad=>ab _ _ _ ad hK)
   ·simp only[I,WaD,if_false]
    exact ab _ _ _ (hs.skip2 (U o aa)) hy
end Go.Lz

end
section
namespace Go.Lz
def tv (all:Array Oper) (T:Nat->V) (t0:Nat->V) (S:Nat->Prop) [DecidablePred S] (t:Nat):Nat->V
 |0=>t0 t
 |n+1=>if S n/\(all[n]?).bind (·.dst)=some t then T n else tv all T t0 S t n
theorem zvp {all:Array Oper} {T:Nat->V} {t0:Nat->V} {S:Nat->Prop} [DecidablePred S] {t i:Nat} (h1:∀j,j<i->(all[j]?).bind (·.dst)=some t->S j):
  tv all T t0 S t i=tv all T t0 (fun _=>True) t i:=by
 induction i with
 |zero=>rfl
 |succ i U=>
  simp only[tv,true_and]
  by_cases I:(all[i]?).bind (·.dst)=some t
  ·simp[I,h1 i (Wbt i) I]
  ·simp[I];exact U fun j hj=>h1 j (by omega)
theorem zo6 {all:Array Oper} {T:Nat->V} {t0:Nat->V} {S:Nat->Prop} [DecidablePred S] {t i n:Nat} (aa:i<=n) (h2:∀j,i<=j->j<n->(all[j]?).bind (·.dst)=some t->¬S j):
  tv all T t0 S t n=tv all T t0 S t i:=by
 induction n with
 |zero=>have:i=0:=by omega
        subst this;rfl
 |succ n I=>
  by_cases he:i=n+1
  ·subst he;rfl
  ·simp only[tv]
   rw[if_neg (fun⟨U,hd⟩=>h2 n (by omega) (by omega) hd U)];exact I (by omega) fun j h1 h3=>h2 j h1 (by omega)
theorem z2c {all:Array Oper} {T:Nat->V} {t0:Nat->V} {S I:Nat->Prop} [DecidablePred S] [DecidablePred I] {t n:Nat} (h:∀j,j<n->(all[j]?).bind (·.dst)=some t->(S j↔I j)):
  tv all T t0 S t n=tv all T t0 I t n:=by
 induction n with
 |zero=>rfl
 |succ n ih=>
  simp only[tv]
  by_cases U:(all[n]?).bind (·.dst)=some t
  ·have:=h n (Wbt n) U
   simp only[U,and_true,this];split
   ·rfl
   ·exact ih fun j hj=>h j (by omega)
  ·simp[U];exact ih fun j hj=>h j (by omega)
def tvF (all:Array Oper) (T:Nat->V) (l:Nat->V) (k t:Nat):Nat->V
 |0=>l t
 |n+1=>if(all[k+n]?).bind (·.dst)=some t then T (k+n)else tvF all T l k t n
theorem zvq {all:Array Oper} {T l:Nat->V} {t n:Nat}:tvF all T l 0 t n=tv all T l (fun _=>True) t n:=by
 induction n with
 |zero=>rfl
 |succ n I=>simp only[tvF,tv,true_and,Wbd,I]
theorem zuk {all:Array Oper} {T l:Nat->V} {k t n:Nat}:tvF all T l k t (n+1)=tvF all T (fun t=>if(all[k]?).bind (·.dst)=some t then T k else l t) (k+1) t n:=by
 induction n with
 |zero=>rfl
 |succ n I=>
  rw[tvF,I];simp only[tvF];rw[show k+(n+1)=k+1+n by omega]
theorem zul {all:Array Oper} {T l l':Nat->V} {k t n:Nat} (h:∀t,l t=l' t):tvF all T l k t n=tvF all T l' k t n:=by
 induction n with
 |zero=>exact h t
 |succ n I=>simp only[tvF,I]
def OpQ (P:Program) (all:Array Oper) (H:List O) (i:Nat) (o:Oper) (l:Nat->V) (x:V):Prop:=
 ∀(a:Act) (E:Env),HRel E->E.H=H->(∀t,t∈zbv o\/(∃g w,o.guard=some (g,w)/\(all[g]?).bind (·.dst)=some t)->VRel E (l t) (a.tmps.getD t undef))->
  ∀(K:Act->World->Prop) (Q:Exit->Act->World->Prop),(∀v E',VRel E' x v->E'.H=H->HRel E'->Trans E E'->K (a.put o.dst v) E'.w)->wpOp P all Q i K a E.w
theorem zz9 {P:Program} {pos:String} {op:Op} {ρ ρ':Operand->V} {H:List O} (h:∀x∈op.operands,ρ x=ρ' x):zdu P pos op ρ H=zdu P pos op ρ' H:=by
 cases op<;>simp only[Op.operands,Array.mem_def]at h<;>simp only[zdu]
 case slice t x lo hi U=>
  have I:=h x (by simp)
  have hl:lo.map ρ=lo.map ρ':=by cases lo with|none=>rfl|some y=>simp[h y (by simp)]
  have hh:hi.map ρ=hi.map ρ':=by cases hi with|none=>rfl|some y=>simp[h y (by simp)]
  have hm:U.map ρ=U.map ρ':=by cases U with|none=>rfl|some y=>simp[h y (by simp)]
  rw[I,hl,hh,hm]
 case makeFunc fn first cap=>
  have:cap.toList.map ρ=cap.toList.map ρ':=WbB fun x I=>h x (by simp;exact .inr (by simpa using I))
  cases fn<;>simp only[this]
 case build t parts=>
  have:(parts.toList.map fun p=>(p.1,ρ p.2))=parts.toList.map fun p=>(p.1,ρ' p.2):=WbB fun p hp=>by rw[h p.2 (by simp;exact⟨p.1,by simpa using hp⟩)]
  rw[this]
 case buildSlice t n parts=>
  have:(parts.toList.map fun p=>(p.1,ρ p.2))=parts.toList.map fun p=>(p.1,ρ' p.2):=WbB fun p hp=>by rw[h p.2 (by simp;exact⟨p.1,by simpa using hp⟩)]
  rw[this]
 case call c=>
  obtain⟨callee,args,aa⟩:=c
  cases callee with
  |builtin b=>
   have:args.toList.map ρ=args.toList.map ρ':=WbB fun x I=>h x (by simp[Call.operands];simpa using I)
   simp only[this]
  |value f=>rfl
  |invoke r m=>rfl
 case makeMap t r=>cases r<;>rfl
 all_goals (simp at h;simp[h])
theorem zzu {P:Program} {o:Oper} {a:Act} {E:Env} {l:Nat->V} (hE:HRel E) (hl:∀t,t∈zbv o->VRel E (l t) (a.tmps.getD t undef)) (I:(zdu P o.pos o.op (fun x=>match x with|.tmp i=>l i|.const v=>V.ofV v|.func f=>.one (.fn f [])|.global _=>.un) E.H).pre):
  WpV P o a E (zdu P o.pos o.op (fun x=>match x with|.tmp i=>l i|.const v=>V.ofV v|.func f=>.one (.fn f [])|.global _=>.un) E.H):=by
 have e:=zz9 (P:=P) (pos:=o.pos) (op:=o.op) (H:=E.H) (ρ:=fun x=>match x with|.tmp i=>l i|.const v=>V.ofV v|.func f=>.one (.fn f [])|.global _=>.un)
  (ρ':=fun x=>match x with|.tmp i=>(if i∈zbv o then l i else .un)|.const v=>V.ofV v|.func f=>.one (.fn f [])|.global _=>.un) (fun x U=>by
    cases x with
    |tmp t=>
     have:t∈zbv o:=by simp only[zbv,Wbu];exact⟨.tmp t,by simpa using U,rfl⟩
     simp[this]
    |_=>rfl)
 rw[e]at I|-;refine yad hE (fun x=>?_) I
 cases x with
 |tmp t=>
  simp only;split
  ·rename_i ht;exact hl t ht
  ·exact .un
 |const v=>exact V.ofV_rel E v
 |global g=>exact .un
 |func f=>exact .one (.fn rfl (by simp))
theorem ydc {P:Program} {all:Array Oper} {i:Nat} {o:Oper} {st:St} {K:St->Prop} (hi:all[i]? =some o) (hw:awpQ P o st K) (aa:∀(a:Act) (E:Env),(∀t,t∈zbv o\/(∃g w,o.guard=some (g,w)/\(all[g]?).bind (·.dst)=some t)->VRel E (look st.t t) (a.tmps.getD t undef))->Region.wanted o (yielded all a.tmps)=true)
  (ai:∃(a:Act) (E:Env),HRel E/\E.H=st.H/\∀t,t∈zbv o->VRel E (look st.t t) (a.tmps.getD t undef)):
  ∃x,OpQ P all st.H i o (look st.t) x/\K (st.put o.dst x st.H):=by
 unfold awpQ at hw;split at hw
 ·rename_i f args aw ab
  split at hw
  ·rename_i g cap hf
   obtain⟨x,hc,hk⟩:=hw;refine⟨x,fun a E hE hH hl Kn Q hn=>?_,hk⟩;simp only[wpOp,hi,aa a E hl,if_true]
   have hρ:∀y∈o.op.operands,VRel E (st.ρ y) (a.eval y):=by
    intro y hy
    cases y with
    |tmp t=>exact hl t (.inl (by simp only[zbv,Wbu];exact⟨.tmp t,by simpa using hy,rfl⟩))
    |const v=>exact V.ofV_rel E v
    |global g=>exact .un
    |func f=>exact .one (.fn rfl (by simp))
   have aj:=hρ f (by simp[ab,Op.operands,Call.operands])
   rw[hf]at aj;obtain⟨vs,hv,an,ao⟩:=z4z aj
   left
   unfold Oper.wp;rw[zv2 ab hv hc.1]
   have hsz:(args.map a.eval++vs).size=(args.toList.map st.ρ++cap.map V.one).length:=by simp[an]
   refine Calls.mono (hc.2 E (args.map a.eval++vs) hE hH hsz fun j y hj=>?_) ?_
   ·rw[Wbm]at hj
    split at hj
    ·rename_i I
     simp at I;simp only[Wao,Wal]at hj;obtain⟨p,U,rfl⟩:=hj
     have ak:args[j]? =some p:=by simpa using U
     have:(args.map a.eval++vs).getD j undef=a.eval p:=by
      rw[Wah,Wbe (by simpa using I),WbV,ak];rfl
     rw[this];refine hρ p ?_;simp only[ab,Op.operands,Call.operands];exact Array.mem_append.2 (.inr (Array.mem_of_getElem? ak))
    ·rename_i I
     simp at I;simp only[Wao,Wal,Waq,Wbb]at hj;obtain⟨c,hc,rfl⟩:=hj
     have:(args.map a.eval++vs).getD j undef=vs.getD (j-args.size) undef:=by
      rw[Wah,Wah,Wcf (by simpa using I)];simp
     rw[this];exact .one (ao _ c hc)
   ·rintro e w' ⟨v,y,E',rfl,rfl,⟨rfl,ad⟩,hx,hh,tr⟩
    exact hn v E' hx ad hh tr
  ·exact hw.elim
 ·rename_i ab
  obtain⟨U,hk⟩:=hw;obtain⟨a0,E0,aq,al,ar⟩:=ai
  have au:st.ρ=(fun x=>match x with|.tmp i=>look st.t i|.const v=>V.ofV v|.func f=>.one (.fn f [])|.global _=>.un):=by
   funext x;cases x<;>rfl
  rw[au]at U hk;rw[<-al]at U
  have ae:=(zzu (P:=P) (o:=o) (a:=a0) aq (fun t ht=>ar t ht) U).1
  rw[al]at U ae;obtain⟨af,hK⟩:=hk ae;rw[af]at hK;refine⟨_,fun a E hE hH hl Kn Q hn=>?_,hK⟩;simp only[wpOp,hi,aa a E hl,if_true]
  left
  rw[<-hH]at U;obtain⟨_,av⟩:=zzu (P:=P) (o:=o) (a:=a) hE (fun t ht=>hl t (.inl ht)) U;refine av Kn Q fun v E' hv ad hh tr=>?_;rw[hH]at hv ad;exact hn v E' hv (ad.trans af) hh tr
theorem z9x {P:Program} {all:Array Oper} {i:Nat} {K:Act->World->Prop} {a:Act} {w:World} (h:wpOp P all (fun _ _ _=>False) i K a w):∃U w',K U w':=by
 unfold wpOp at h;split at h
 ·exact⟨_,_,h⟩
 ·split at h
  ·rcases h with h|⟨_,_,_,h⟩
   ·unfold Oper.wp at h
    generalize (execOp a.eval _).run P w=r at h
    cases r with
    |ok n w'=>
     cases n<;>simp only[Oper.upon]at h<;>try (exact h.elim)
     ·exact⟨_,_,h⟩
     ·exact⟨_,_,h⟩
     ·obtain⟨e,w2,fr,I,_⟩:=h []
      cases e with
      |returned v=>exact⟨_,_,I⟩
      |panicked c=>exact I.elim
      |outgrown=>obtain⟨_,_,I⟩:=I;exact I.elim
     ·exact⟨_,_,h⟩
     ·obtain⟨v,w2,I,_⟩:=h default []
      exact⟨_,_,I⟩
    |halt x w'=>cases x<;>simp only[Oper.upon]at h
   ·exact h.elim
  ·exact⟨_,_,h⟩
theorem zq0 {all:Array Oper} {T T' l:Nat->V} {k t n:Nat} (h:∀m,k<=m->T m=T' m):tvF all T l k t n=tvF all T' l k t n:=by
 induction n with
 |zero=>rfl
 |succ n I=>simp only[tvF,I,h (k+n) (by omega)]
theorem zoy (st:St) (d:Option Nat) (x:V) (H:List O) (t:Nat):look (st.put d x H).t t=if d=some t then x else look st.t t:=by
 cases d with
 |none=>simp[St.put]
 |some d=>simp[St.put,zfb]
theorem zwy {st:St} {d:Nat} {b:Bool} (h:look st.t d=.one (.bool b)) (t:Nat):look ((d,.one (.bool b))::st.t) t=look st.t t:=by
 rw[zfb];split
 ·rename_i e;subst e;exact h.symm
 ·rfl
theorem ykk {b w:Bool} (h:¬b=w):b= !w:=by cases b<;>cases w<;>simp_all
def OpF (P:Program) (all:Array Oper) (H:List O) (i:Nat) (o:Oper) (l:Nat->V) (x:V) (p:Nat) (pre obj:O):Prop:=
 ∀(a:Act) (E:Env) (G:List O),HRel E->E.H=H++G->G[p]? =some pre->(∀t,t∈zbv o->VRel E (l t) (a.tmps.getD t undef))->
  ∀(K:Act->World->Prop) (Q:Exit->Act->World->Prop),(∀v E',VRel E' x v->E'.H=H++G.set p obj->HRel E'->Trans E E'->K (a.put o.dst v) E'.w)->wpOp P all Q i K a E.w
theorem ydg {H G:List O} {p:Nat} {x:O} (h:G[p]? =some x):(H++G)[H.length+p]? =some x:=by
 rw[WbD (by omega)];simpa using h
theorem ydf {H G:List O} {p:Nat} {x:O}:(H++G).set (H.length+p) x=H++G.set p x:=by
 rw[List.set_append_right _ _ (by omega)];simp
theorem ya5 {P:Program} {all:Array Oper} {H:List O} {i:Nat} {o:Oper} {l:Nat->V} {p:Nat} {cs:List C} (hi:all[i]? =some o) (hg:o.guard=none)
  (h:∀(a:Act) (E:Env),HRel E->(∀t,t∈zbv o->VRel E (l t) (a.tmps.getD t undef))->∃(s:Sem Value) (vs:Array Value) (ty:TypeId),execOp a.eval o=(do pure (.value (<-s)))/\
    s.run P E.w=.ok (.pointer (some ⟨E.w.heap.size,0,none⟩)) (E.w.alloc (.cells vs ty))/\vs.size=cs.length/\∀(j:Nat) (c:C),cs[j]? =some c->∃y,vs[j]? =some y/\CRel E c y):
  OpF P all H i o l (.one (.ref (H.length+p) 1 0 0)) p (.cells 0 0 []) (.cells 1 cs.length [cs]):=by
 intro a E G hE I hG hl K Q hn;obtain⟨s,vs,ty,h1,h2,h3,h4⟩:=h a E hE hl;obtain⟨E',hw,U,hv,hh,tr⟩:=ymf hE (id:=H.length+p) (by rw[I];exact ydg hG) h3 h4 ty;simp only[wpOp,hi,Region.wanted,hg,if_true]
 left
 unfold Oper.wp;rw[h1];simp only[Sem.run_bind,h2,Result.andThen_ok,Sem.run_pure];rw[<-hw];exact hn _ E' hv (by rw[U,I,ydf]) hh tr
theorem ya4 {P:Program} {all:Array Oper} {H:List O} {i:Nat} {o:Oper} {st:St} {p:Nat} {t:TypeId} {s:Nat} {x:Operand} {off n sz:Nat} {row cs:List C} {g:Bool} (hi:all[i]? =some o) (hg:o.guard=none) (hd:o.dst=none) (U:o.op=.store t (.tmp s) x)
  (hs:look st.t s=.one (.ref (H.length+p) 1 0 off)) (hx:(st.ρ x).cs=some cs) (ht:tAg P t=some (g,n)) (hlen:off+cs.length<=row.length) (hn:cs.length=n):
  OpF P all H i o (look st.t) .un p (.cells 1 sz [row]) (.cells 1 sz [zen row off cs]):=by
 intro a E G hE hH hG hl K Q hk;simp only[wpOp,hi,Region.wanted,hg,if_true]
 left
 have aa:E.H[H.length+p]? =some (.cells 1 sz [row]):=by rw[hH];exact ydg hG
 have hρ:∀y∈o.op.operands,VRel E (st.ρ y) (a.eval y):=by
  intro y hy
  cases y with
  |tmp t=>exact hl t (by simp only[zbv,Wbu];exact⟨.tmp t,by simpa using hy,rfl⟩)
  |const v=>exact V.ofV_rel E v
  |global g=>exact .un
  |func f=>exact .one (.fn rfl (by simp))
 have ha:=hρ (.tmp s) (by simp[U,Op.operands])
 have ad:=hρ x (by simp[U,Op.operands])
 have I:=z3t (P:=P) (t:=t) hE ha ad
 have e1:st.ρ (.tmp s)=.one (.ref (H.length+p) 1 0 off):=hs
 have e:zy3 P t (st.ρ (.tmp s)) (st.ρ x) E.H=⟨1=1/\0<[row].length/\off+cs.length<=([row].getD 0 []).length/\cs.length=n,True,.un,E.H.set (H.length+p) (.cells 1 sz ([row].set 0 (zen ([row].getD 0 []) off cs)))⟩:=by
  unfold zy3;rw[e1,hx,ht];simp only[aa]
 rw[e]at I;obtain⟨_,_,E',ab,ae,hh,tr⟩:=I ⟨rfl,by simp,by simpa using hlen,hn⟩;unfold Oper.wp
 have he:execOp a.eval o=(do Instr.storeAt t (a.eval (.tmp s)) (a.eval x);pure .skip):=by simp[execOp,U]
 rw[he];simp only[Sem.run_bind,ab,Result.andThen_ok,Sem.run_pure];exact hk undef E' .un (by rw[ae,hH,ydf];rfl) hh tr
theorem yeh {P:Program} {all:Array Oper} {H:List O} {i:Nat} {o:Oper} {l:Nat->V} {x:V} (hq:OpQ P all H i o l x) {a:Act} {E:Env} {G:List O} (hE:HRel E) (I:E.H=H++G) (U:∀o∈H,o.lt H.length=true)
  (hl:∀t,t∈zbv o\/(∃g w,o.guard=some (g,w)/\(all[g]?).bind (·.dst)=some t)->VRel E (l t) (a.tmps.getD t undef)/\(l t).lt H.length=true)
  {K:Act->World->Prop} {Q:Exit->Act->World->Prop} (hn:∀v E',VRel E' x v->E'.H=H++G->HRel E'->Trans E E'->K (a.put o.dst v) E'.w):wpOp P all Q i K a E.w:=by
 obtain⟨h1,h2,h3,h4⟩:=yi5 hE I U;refine hq a (zyo E H) h1 rfl (fun t ht=>h3 (hl t ht).1 (hl t ht).2) K Q fun v E1 hv aa ab t1=>?_;obtain⟨E',hw,ad,hh,tr,ae⟩:=yht hE I ab aa t1;rw[<-hw];exact hn v E' (ae hv) (ad.trans I) hh tr
open Classical in
noncomputable def gS (z f base:Nat->O) (role:Nat->Option (Bool×Nat)) (S:Nat->Prop) (p:Nat):O:=
 if∃i,S i/\role i=some (false,p)then f p else if∃i,S i/\role i=some (true,p)then z p else base p
section
variable {z f base:Nat->O} {role:Nat->Option (Bool×Nat)} {S:Nat->Prop} {p:Nat}
theorem gS_f (h:∃i,S i/\role i=some (false,p)):gS z f base role S p=f p:=by unfold gS;rw[if_pos h]
theorem gS_z (h:¬∃i,S i/\role i=some (false,p)) (h2:∃i,S i/\role i=some (true,p)):gS z f base role S p=z p:=by unfold gS;rw[if_neg h,if_pos h2]
theorem gS_b (h:¬∃i,S i/\role i=some (false,p)) (h2:¬∃i,S i/\role i=some (true,p)):gS z f base role S p=base p:=by unfold gS;rw[if_neg h,if_neg h2]
theorem zv0 {z' f' U:Nat->O} {I:Nat->Option (Bool×Nat)} {S':Nat->Prop} (h1:(∃i,S i/\role i=some (false,p))↔∃i,S' i/\I i=some (false,p)) (h2:(∃i,S i/\role i=some (true,p))↔∃i,S' i/\I i=some (true,p))
  (ef:f p=f' p) (ez:z p=z' p) (eb:base p=U p):gS z f base role S p=gS z' f' U I S' p:=by
 by_cases a:∃i,S i/\role i=some (false,p)
 ·rw[gS_f a,gS_f (h1.1 a),ef]
 ·have a':=fun h=>a (h1.2 h)
  by_cases b:∃i,S i/\role i=some (true,p)
  ·rw[gS_z a b,gS_z a' (h2.1 b),ez]
  ·rw[gS_b a b,gS_b a' (fun h=>b (h2.2 h)),eb]
end
structure Xt (P:Program) (all:Array Oper) (H:List O) (N:List Fo) (k kt M:Nat) (l0:Nat->V) (T:Nat->V) (role:Nat->Option (Bool×Nat)) (z f:Nat->O):Prop where
 c1:∀i p,role i=some (true,p)->k<=i/\i<kt/\N.length<=p/\p<M
 c2:∀i j p,role i=some (true,p)->role j=some (true,p)->i=j
 c3:∀i p,role i=some (false,p)->k<=i/\i<kt/\p<M/\((∃x o,N[p]? =some x/\x.w=false/\all[i]? =some o/\x.d∈zbv o)\/
  (N.length<=p/\∃j oj oi d,j<i/\role j=some (true,p)/\all[j]? =some oj/\all[i]? =some oi/\oj.dst=some d/\d∈zbv oi))
 c4:∀i j p,role i=some (false,p)->role j=some (false,p)->i=j
 cz:∀p x,N[p]? =some x->z p=x.o
 c5:∀i b p,role i=some (b,p)->∃o,all[i]? =some o/\effO o.op=true
 spec:∀i o,k<=i->i<kt->all[i]? =some o->match role i with
  |none=>OpQ P all H i o (fun t=>tvF all T l0 k t (i-k)) (T i)/\∀t,t∈zbv o\/(∃g w,o.guard=some (g,w)/\(all[g]?).bind (·.dst)=some t)->(tvF all T l0 k t (i-k)).lt H.length=true
  |some (true,p)=>OpF P all H i o (fun t=>tvF all T l0 k t (i-k)) (T i) p (.cells 0 0 []) (z p)
  |some (false,p)=>OpF P all H i o (fun t=>tvF all T l0 k t (i-k)) (T i) p (z p) (f p)
noncomputable def zom (N:List Fo) (p:Nat):O:=match N[p]? with|some x=>x.o|none=>.cells 0 0 []
set_option maxHeartbeats 2000000 in
theorem zzf {P:Program} {all:Array Oper} {K:St->Prop} {n:Nat} (hok:∀o∈all.toList,∀d,o.dst=some d->d<n):∀(rest:List Oper) (k:Nat) (N:List Fo) (st:St),(∀m,rest[m]? =all[k+m]?)->k+rest.length=all.size->
  (∃(a:Act) (E:Env),n<=a.tmps.size/\HRel E/\E.H=st.H/\∀t,(∀x∈N,x.d≠t)->VRel E (look st.t t) (a.tmps.getD t undef))->awpDraw P all rest N st K->
  ∃(T:Nat->V) (role:Nat->Option (Bool×Nat)) (z f:Nat->O) (kt:Nat) (stE:St) (N':List Fo),k<=kt/\kt<=all.size/\N.length<=N'.length/\(kt<all.size->zzl P all kt stE.t)/\stE.H=st.H/\
   awpOps P all (rest.drop (kt-k)) ⟨stE.t,stE.H++N'.map Fo.o⟩ K/\
   (∀p x,N'[p]? =some x->x.o=gS z f (zom N) role (fun i=>k<=i/\i<kt) p)/\
   Xt P all st.H N k kt N'.length (look st.t) T role z f/\∀t,look stE.t t=tvF all T (look st.t) k t (kt-k)
 |[],k,N,st,hi,hsz,hlive,h=>by
  refine⟨fun _=>.un,fun _=>none,zom N,zom N,k,st,N,Wae _,by simp at hsz;omega,Wae _,fun hlt=>by simp at hsz;omega,rfl,by simpa [awpOps,awpDraw]using h,fun p x hp=>?_,⟨?_,?_,?_,?_,?_,?_,?_⟩,fun t=>by simp[tvF]⟩
  ·simp[gS,zom,hp]
  ·intro i p hr;cases hr
  ·intro i j p hr;cases hr
  ·intro i p hr;cases hr
  ·intro i j p hr;cases hr
  ·intro p x hp;simp[zom,hp]
  ·intro i b p hr;cases hr
  ·intro i o h1 h2;omega
 |o::rest,k,N,st,hi,hsz,hlive,h=>by
  have hio:all[k]? =some o:=by simpa using(hi 0).symm
  have hkl:k<all.size:=(Was.1 hio).1
  have hod:∀d,o.dst=some d->d<n:=hok o (Wad (by simpa using hio))
  have hrest:∀m,rest[m]? =all[k+1+m]? :=fun m=>by have:=hi (m+1);simpa [Waz,WbL 1]using this
  have hsz':k+1+rest.length=all.size:=by simp at hsz;omega
  have key:∀(st1:St) (x:V) (T:Nat->V),(∀t,look st1.t t=if o.dst=some t then x else look st.t t)->∀t m,tvF all (fun m=>if m=k then x else T m) (look st.t) k t (m+1)=tvF all T (look st1.t) (k+1) t m:=by
   intro st1 x T hl t m;rw[zuk];rw[zq0 (T':=T) (fun j hj=>by simp[show¬j=k by omega])];exact zul (fun t=>by rw[hl t,hio];simp)
  have join:∀(st1:St) (N1:List Fo) (x:V) (r:Option (Bool×Nat)) (z0 f0:(Nat->O)->Nat->O),st1.H=st.H->N.length<=N1.length->
    (∀t,look st1.t t=if o.dst=some t then x else look st.t t)->
    (∃(a:Act) (E:Env),n<=a.tmps.size/\HRel E/\E.H=st1.H/\∀t,(∀x∈N1,x.d≠t)->VRel E (look st1.t t) (a.tmps.getD t undef))->awpDraw P all rest N1 st1 K->
    (∀(T:Nat->V) (role:Nat->Option (Bool×Nat)) (z f:Nat->O) (kt:Nat) (N':List Fo),k+1<=kt->N1.length<=N'.length->Xt P all st.H N1 (k+1) kt N'.length (look st1.t) T role z f->
      (∀p x,N'[p]? =some x->x.o=gS z f (zom N1) role (fun i=>k+1<=i/\i<kt) p)->
      Xt P all st.H N k kt N'.length (look st.t) (fun m=>if m=k then x else T m) (fun m=>if m=k then r else role m) (z0 z) (f0 f)/\
      ∀p x,N'[p]? =some x->x.o=gS (z0 z) (f0 f) (zom N) (fun m=>if m=k then r else role m) (fun i=>k<=i/\i<kt) p)->
    ∃(T:Nat->V) (role:Nat->Option (Bool×Nat)) (z f:Nat->O) (kt:Nat) (stE:St) (N':List Fo),k<=kt/\kt<=all.size/\N.length<=N'.length/\(kt<all.size->zzl P all kt stE.t)/\stE.H=st.H/\
     awpOps P all ((o::rest).drop (kt-k)) ⟨stE.t,stE.H++N'.map Fo.o⟩ K/\
     (∀p x,N'[p]? =some x->x.o=gS z f (zom N) role (fun i=>k<=i/\i<kt) p)/\
     Xt P all st.H N k kt N'.length (look st.t) T role z f/\∀t,look stE.t t=tvF all T (look st.t) k t (kt-k):=by
   intro st1 N1 x r z0 f0 hH hN hl hlive1 hd hmk;obtain⟨T,role,z,f,kt,stE,N',g1,g2,g3,g4,g5,g6,g7,g8,g9⟩:=zzf hok rest (k+1) N1 st1 hrest hsz' hlive1 hd;rw[hH]at g5 g8;obtain⟨q1,q2⟩:=hmk T role z f kt N' g1 g3 g8 g7;refine⟨_,_,_,_,kt,stE,N',by omega,g2,by omega,g4,g5,?_,q2,q1,fun t=>?_⟩
   ·rw[show kt-k=(kt-(k+1))+1 by omega];exact g6
   ·rw[show kt-k=(kt-(k+1))+1 by omega,key st1 x T hl];exact g9 t
  have specs:∀(st1:St) (N1:List Fo) (x:V) (T:Nat->V),(∀t,look st1.t t=if o.dst=some t then x else look st.t t)->∀i,k+1<=i->(fun t=>tvF all (fun m=>if m=k then x else T m) (look st.t) k t (i-k))=fun t=>tvF all T (look st1.t) (k+1) t (i-(k+1)):=by
   intro st1 N1 x T hl i hik
   funext t
   rw[show i-k=(i-(k+1))+1 by omega,key st1 x T hl]
  have hnew:∀(cs:List C) (d:Nat),o.dst=some d->OpF P all st.H k o (look st.t) (.one (.ref (st.H.length+N.length) 1 0 0)) N.length (.cells 0 0 []) (.cells 1 cs.length [cs])->
    awpDraw P all rest (N++[⟨.cells 1 cs.length [cs],false,d⟩]) (st.put o.dst (.one (.ref (st.H.length+N.length) 1 0 0)) st.H) K->effO o.op=true->
    ∃(T:Nat->V) (role:Nat->Option (Bool×Nat)) (z f:Nat->O) (kt:Nat) (stE:St) (N':List Fo),k<=kt/\kt<=all.size/\N.length<=N'.length/\(kt<all.size->zzl P all kt stE.t)/\stE.H=st.H/\
     awpOps P all ((o::rest).drop (kt-k)) ⟨stE.t,stE.H++N'.map Fo.o⟩ K/\
     (∀p x,N'[p]? =some x->x.o=gS z f (zom N) role (fun i=>k<=i/\i<kt) p)/\
     Xt P all st.H N k kt N'.length (look st.t) T role z f/\∀t,look stE.t t=tvF all T (look st.t) k t (kt-k):=by
   intro cs d hdst hop hd heffN
   have hl1:∀t,look (st.put o.dst (.one (.ref (st.H.length+N.length) 1 0 0)) st.H).t t=if o.dst=some t then(.one (.ref (st.H.length+N.length) 1 0 0))else look st.t t:=fun t=>zoy _ _ _ _ _
   refine join (st.put o.dst (.one (.ref (st.H.length+N.length) 1 0 0)) st.H) (N++[⟨.cells 1 cs.length [cs],false,d⟩]) (.one (.ref (st.H.length+N.length) 1 0 0)) (some (true,N.length)) (fun z=>z) (fun f=>f) (by cases o.dst<;>rfl) (by simp) hl1 ?_ hd ?_
   ·obtain⟨a,E,h1,h2,h3,h4⟩:=hlive
    refine⟨a,E,h1,h2,by rw[h3];cases o.dst<;>rfl,fun t ht=>?_⟩;rw[hl1,if_neg (by rw[hdst];intro e;cases e;exact ht ⟨.cells 1 cs.length [cs],false,d⟩ (by simp) rfl)];exact h4 t fun x hx=>ht x (by simp[hx])
   ·intro T role z f kt N' g1 g2 X g7
    have hzN:z N.length=.cells 1 cs.length [cs]:=X.cz N.length ⟨.cells 1 cs.length [cs],false,d⟩ (by simp)
    have hN1:∀p,p<N.length->(N++[(⟨.cells 1 cs.length [cs],false,d⟩:Fo)])[p]? =N[p]? :=fun p hp=>Wa8 hp
    have hget:∀p x,N[p]? =some x->(N++[(⟨.cells 1 cs.length [cs],false,d⟩:Fo)])[p]? =some x:=fun p x hp=>by
     rw[hN1 p (Wag.1 hp).1];exact hp
    have rk:∀p,¬role k=some (true,p):=fun p e=>by have:=(X.c1 k p e).1;omega
    have rk2:∀p,¬role k=some (false,p):=fun p e=>by have:=(X.c3 k p e).1;omega
    refine⟨⟨?_,?_,?_,?_,?_,?_,?_⟩,?_⟩
    ·intro i p hr
     by_cases hik:i=k
     ·subst hik;simp at hr;subst hr
      exact⟨Wae _,by omega,Wae _,by simp at g2;omega⟩
     ·simp only[hik,if_false]at hr
      obtain⟨q1,q2,q3,q4⟩:=X.c1 i p hr;simp at q3;exact⟨by omega,q2,by omega,q4⟩
    ·intro i j p hr1 hr2
     by_cases hik:i=k<;>by_cases hjk:j=k
     ·omega
     ·subst hik;simp at hr1;subst hr1
      simp only[hjk,if_false]at hr2
      have:=(X.c1 j _ hr2).2.2.1;simp at this;omega
     ·subst hjk;simp at hr2;subst hr2
      simp only[hik,if_false]at hr1
      have:=(X.c1 i _ hr1).2.2.1;simp at this;omega
     ·simp only[hik,if_false]at hr1
      simp only[hjk,if_false]at hr2;exact X.c2 i j p hr1 hr2
    ·intro i p hr
     by_cases hik:i=k
     ·subst hik;simp at hr
     ·simp only[hik,if_false]at hr
      obtain⟨q1,q2,q3,q4⟩:=X.c3 i p hr;refine⟨by omega,q2,q3,?_⟩
      rcases q4 with⟨y,oi,e1,e2,e3,e4⟩|⟨e0,j,oj,oi,dd,e1,e2,e3,e4,e5,e6⟩
      ·rcases WaG p N.length with hp|hp
       ·rw[hN1 p hp]at e1
        exact .inl ⟨y,oi,e1,e2,e3,e4⟩
       ·rw[WbD hp]at e1
        have hp0:p-N.length=0:=by
         have:=(Wag.1 e1).1;simp at this;omega
        rw[hp0]at e1;simp at e1;subst e1
        have hpe:p=N.length:=by omega
        subst hpe;exact .inr ⟨Wae _,k,o,oi,d,by omega,by simp,hio,e3,hdst,e4⟩
      ·simp at e0
       have hjk:j≠k:=fun e=>rk p (e▸e2)
       exact .inr ⟨by omega,j,oj,oi,dd,e1,by simp only[hjk,if_false];exact e2,e3,e4,e5,e6⟩
    ·intro i j p hr1 hr2
     by_cases hik:i=k
     ·subst hik;simp at hr1
     by_cases hjk:j=k
     ·subst hjk;simp at hr2
     simp only[hik,if_false]at hr1;simp only[hjk,if_false]at hr2;exact X.c4 i j p hr1 hr2
    ·exact fun p x hp=>X.cz p x (hget p x hp)
    ·intro i b q hr
     by_cases hik:i=k
     ·subst hik;exact⟨o,hio,heffN⟩
     ·simp only[hik,if_false]at hr;exact X.c5 i b q hr
    ·intro i oi h1 h2 h3
     by_cases hik:i=k
     ·subst hik
      rw[hio]at h3;cases h3;simp only[if_true,Wbf,tvF];rw[hzN];exact hop
     ·have hsp:=X.spec i oi (by omega) h2 h3
      have e:=specs _ N (.one (.ref (st.H.length+N.length) 1 0 0)) T hl1 i (by omega)
      simp only[hik,if_false];rw[e]
      have e2:∀t,tvF all (fun m=>if m=k then(.one (.ref (st.H.length+N.length) 1 0 0))else T m) (look st.t) k t (i-k)=tvF all T (look (st.put o.dst (.one (.ref (st.H.length+N.length) 1 0 0)) st.H).t) (k+1) t (i-(k+1)):=fun t=>congrFun e t
      simp only[e2];exact hsp
    ·intro p y hp
     rw[g7 p y hp]
     have s1:(∃i,(k<=i/\i<kt)/\(if i=k then some (true,N.length)else role i)=some (false,p))↔∃i,(k+1<=i/\i<kt)/\role i=some (false,p):=by
      constructor
      ·rintro⟨i,hi,hr⟩
       by_cases hik:i=k
       ·subst hik;simp at hr
       ·simp only[hik,if_false]at hr
        exact⟨i,by omega,hr⟩
      ·rintro⟨i,hi,hr⟩
       exact⟨i,by omega,by simp only[show¬i=k by omega,if_false];exact hr⟩
     have s2:(∃i,(k<=i/\i<kt)/\(if i=k then some (true,N.length)else role i)=some (true,p))↔(p=N.length\/∃i,(k+1<=i/\i<kt)/\role i=some (true,p)):=by
      constructor
      ·rintro⟨i,hi,hr⟩
       by_cases hik:i=k
       ·subst hik;simp at hr;exact .inl hr.symm
       ·simp only[hik,if_false]at hr
        exact .inr ⟨i,by omega,hr⟩
      ·rintro(rfl|⟨i,hi,hr⟩)
       ·exact⟨k,by omega,by simp⟩
       ·exact⟨i,by omega,by simp only[show¬i=k by omega,if_false];exact hr⟩
     by_cases hst:∃i,(k+1<=i/\i<kt)/\role i=some (false,p)
     ·rw[gS_f hst,gS_f (s1.2 hst)]
     ·have hst':=fun h=>hst (s1.1 h)
      by_cases hpN:p=N.length
      ·subst hpN
       rw[gS_z hst' (s2.2 (.inl rfl))]
       by_cases hal:∃i,(k+1<=i/\i<kt)/\role i=some (true,N.length)
       ·rw[gS_z hst hal]
       ·rw[gS_b hst hal];simp[zom,hzN]
      ·by_cases hal:∃i,(k+1<=i/\i<kt)/\role i=some (true,p)
       ·rw[gS_z hst hal,gS_z hst' (s2.2 (.inr hal))]
       ·rw[gS_b hst hal,gS_b hst' (fun h=>(s2.1 h).elim hpN hal)]
        unfold zom
        rcases WaG p N.length with hlt|hge
        ·rw[hN1 p hlt]
        ·rw[WbD hge]
         have:p-N.length≠0:=by omega
         obtain⟨q,hq⟩:=Nat.exists_eq_succ_of_ne_zero this;rw[hq,WbI hge];simp
  simp only[awpDraw]at h
  cases hfr:zvh P o st N with
  |some r=>
   obtain⟨pp,xv,N1⟩:=r;rw[hfr]at h;obtain⟨hp,hd⟩:=h;unfold zvh at hfr;split at hfr
   ·--a new variable
    rename_i d t hg hdst hop;split at hfr
    ·rename_i zz hz
     split at hfr
     ·rename_i cs hcs
      cases hfr;refine hnew cs d hdst (ya5 hio hg fun a E hE hl=>?_) hd (by rw[hop];rfl);obtain⟨iz,zv,hi1,hzv,rfl⟩:=zz7 hz;obtain⟨h1,h2⟩:=(V.ofV_rel E zv).cells hcs
      refine⟨Instr.alloc t true (.tuple #[]),zv.cells,t,by simp[execOp,hop],?_,h1,h2⟩
      simp only[Instr.alloc,zeroValue,typeInfo,Sem.run_bind,run_program,Result.andThen_ok,hi1,Sem.run_pure,hzv];simp[newVar,newRow]
     ·cases hfr
    ·cases hfr
   ·rename_i d t x hg hdst hop
    split at hfr
    ·rename_i cs hcs
     cases hfr;refine hnew cs d hdst (ya5 hio hg fun a E hE hl=>?_) hd (by rw[hop];rfl)
     have hρ:VRel E (st.ρ x) (a.eval x):=by
      cases x with
      |tmp q=>exact hl q (by simp only[zbv,Wbu];exact⟨.tmp q,by simp[hop,Op.operands],rfl⟩)
      |const v=>exact V.ofV_rel E v
      |global g=>exact .un
      |func f=>exact .one (.fn rfl (by simp))
     obtain⟨h1,h2⟩:=hρ.cells hcs;exact⟨Instr.box t (a.eval x),(a.eval x).cells,t,by simp[execOp,hop],by simp[Instr.box,newVar,newRow],h1,h2⟩
    ·cases hfr
   ·--the first write to a new variable
    rename_i t s x hg hdst hop;split at hfr
    ·rename_i id off cs g nn hlk hcs hag
     split at hfr
     ·rename_i hid
      split at hfr
      ·rename_i sz row d hN
       cases hfr;obtain⟨rfl,hlen,hcn⟩:=hp;obtain⟨p,rfl⟩:∃p,id=st.H.length+p:=⟨id-st.H.length,by omega⟩;rw[WbK]at hN hd
       have hpl:p<N.length:=(Wag.1 hN).1
       have hopF:=ya4 (P:=P) (all:=all) (H:=st.H) (st:=st) (p:=p) (sz:=sz) (row:=row) hio hg hdst hop hlk hcs hag hlen hcn
       have hput:st.put o.dst .un st.H=⟨st.t,st.H⟩:=by rw[hdst];rfl
       rw[hput]at hd
       have hl1:∀q,look (⟨st.t,st.H⟩:St).t q=if o.dst=some q then .un else look st.t q:=fun q=>by rw[hdst];simp
       have hget:∀q,q≠p->(N.set p ⟨.cells 1 sz [zen row off cs],true,d⟩)[q]? =N[q]? :=fun q hq=>WaT (Ne.symm hq)
       have hself:(N.set p ⟨.cells 1 sz [zen row off cs],true,d⟩)[p]? =some ⟨.cells 1 sz [zen row off cs],true,d⟩:=WaU hpl
       refine join ⟨st.t,st.H⟩ (N.set p ⟨.cells 1 sz [zen row off cs],true,d⟩) .un (some (false,p)) (fun z q=>if q=p then .cells 1 sz [row]else z q) (fun f q=>if q=p then .cells 1 sz [zen row off cs]else f q) rfl (by simp) hl1 ?_ hd ?_
       ·obtain⟨a,E,h1,h2,h3,h4⟩:=hlive
        refine⟨a,E,h1,h2,h3,fun q hq=>h4 q fun y hy=>?_⟩;obtain⟨j,hj,hjy⟩:=WaV.1 hy
        by_cases hjp:j=p
        ·subst hjp
         have:y=⟨.cells 1 sz [row],false,d⟩:=by rw[<-hjy];have:=Wac hj;rw[hN]at this;exact(Wab this).symm
         rw[this];exact hq ⟨.cells 1 sz [zen row off cs],true,d⟩ (Wad hself)
        ·exact hq y (Wad (i:=j) (by rw[hget j hjp,Wac hj,hjy]))
       ·intro T role z f kt N' g1 g2 X g7
        simp at g2
        have noT:∀i q,role i=some (true,q)->q≠p:=fun i q hr e=>by
         have:=(X.c1 i q hr).2.2.1;simp at this;omega
        have noF:∀i q,role i=some (false,q)->q≠p:=fun i q hr e=>by
         subst e
         rcases(X.c3 i q hr).2.2.2 with⟨y,oi,e1,e2,_⟩|⟨e0,_⟩
         ·rw[hself]at e1;cases e1;cases e2
         ·simp at e0;omega
        refine⟨⟨?_,?_,?_,?_,?_,?_,?_⟩,?_⟩
        ·intro i q hr
         by_cases hik:i=k
         ·subst hik;simp at hr
         ·simp only[hik,if_false]at hr
          obtain⟨q1,q2,q3,q4⟩:=X.c1 i q hr;simp at q3;exact⟨by omega,q2,q3,q4⟩
        ·intro i j q hr1 hr2
         by_cases hik:i=k
         ·subst hik;simp at hr1
         by_cases hjk:j=k
         ·subst hjk;simp at hr2
         simp only[hik,if_false]at hr1;simp only[hjk,if_false]at hr2;exact X.c2 i j q hr1 hr2
        ·intro i q hr
         by_cases hik:i=k
         ·subst hik;simp at hr;subst hr
          refine⟨Wae _,by omega,by omega,.inl ⟨_,o,hN,rfl,hio,?_⟩⟩;simp only[zbv,Wbu];exact⟨.tmp d,by simp[hop,Op.operands],rfl⟩
         ·simp only[hik,if_false]at hr
          obtain⟨q1,q2,q3,q4⟩:=X.c3 i q hr;refine⟨by omega,q2,q3,?_⟩
          rcases q4 with⟨y,oi,e1,e2,e3,e4⟩|⟨e0,j,oj,oi,dd,e1,e2,e3,e4,e5,e6⟩
          ·rw[hget q (noF i q hr)]at e1
           exact .inl ⟨y,oi,e1,e2,e3,e4⟩
          ·simp at e0
           have hjk:j≠k:=fun e=>by have:=(X.c1 j q e2).1;omega
           exact .inr ⟨e0,j,oj,oi,dd,e1,by simp only[hjk,if_false];exact e2,e3,e4,e5,e6⟩
        ·intro i j q hr1 hr2
         by_cases hik:i=k<;>by_cases hjk:j=k
         ·omega
         ·subst hik;simp at hr1;subst hr1
          simp only[hjk,if_false]at hr2;exact(noF j _ hr2 rfl).elim
         ·subst hjk;simp at hr2;subst hr2
          simp only[hik,if_false]at hr1;exact(noF i _ hr1 rfl).elim
         ·simp only[hik,if_false]at hr1
          simp only[hjk,if_false]at hr2;exact X.c4 i j q hr1 hr2
        ·intro q y hq
         by_cases hqp:q=p
         ·subst hqp;rw[hN]at hq;cases hq;simp
         ·simp only[hqp,if_false]
          exact X.cz q y (by rw[hget q hqp];exact hq)
        ·intro i b q hr
         by_cases hik:i=k
         ·subst hik;exact⟨o,hio,by rw[hop];rfl⟩
         ·simp only[hik,if_false]at hr;exact X.c5 i b q hr
        ·intro i oi h1 h2 h3
         by_cases hik:i=k
         ·subst hik
          rw[hio]at h3;cases h3;simp only[if_true,Wbf,tvF];exact hopF
         ·have hsp:=X.spec i oi (by omega) h2 h3
          have e:=specs ⟨st.t,st.H⟩ N .un T hl1 i (by omega)
          have e2:∀t,tvF all (fun m=>if m=k then V.un else T m) (look st.t) k t (i-k)=tvF all T (look st.t) (k+1) t (i-(k+1)):=fun t=>congrFun e t
          simp only[hik,if_false,e2]
          cases hr:role i with
          |none=>rw[hr]at hsp;exact hsp
          |some bq=>
           obtain⟨bb,q⟩:=bq;rw[hr]at hsp
           cases bb with
           |true=>
            have:=noT i q hr
            simp only[this,if_false];exact hsp
           |false=>
            have:=noF i q hr
            simp only[this,if_false];exact hsp
        ·intro q y hq
         rw[g7 q y hq]
         have s1:(∃i,(k<=i/\i<kt)/\(if i=k then some (false,p)else role i)=some (false,q))↔(q=p\/∃i,(k+1<=i/\i<kt)/\role i=some (false,q)):=by
          constructor
          ·rintro⟨i,hi,hr⟩
           by_cases hik:i=k
           ·subst hik;simp at hr;exact .inl hr.symm
           ·simp only[hik,if_false]at hr
            exact .inr ⟨i,by omega,hr⟩
          ·rintro(rfl|⟨i,hi,hr⟩)
           ·exact⟨k,by omega,by simp⟩
           ·exact⟨i,by omega,by simp only[show¬i=k by omega,if_false];exact hr⟩
         have s2:(∃i,(k<=i/\i<kt)/\(if i=k then some (false,p)else role i)=some (true,q))↔∃i,(k+1<=i/\i<kt)/\role i=some (true,q):=by
          constructor
          ·rintro⟨i,hi,hr⟩
           by_cases hik:i=k
           ·subst hik;simp at hr
           ·simp only[hik,if_false]at hr
            exact⟨i,by omega,hr⟩
          ·rintro⟨i,hi,hr⟩
           exact⟨i,by omega,by simp only[show¬i=k by omega,if_false];exact hr⟩
         by_cases hqp:q=p
         ·subst hqp
          have n1:¬∃i,(k+1<=i/\i<kt)/\role i=some (false,q):=by rintro⟨i,_,hr⟩;exact noF i q hr rfl
          have n2:¬∃i,(k+1<=i/\i<kt)/\role i=some (true,q):=by rintro⟨i,_,hr⟩;exact noT i q hr rfl
          rw[gS_b n1 n2,gS_f (s1.2 (.inl rfl)),if_pos rfl];simp[zom,hself]
         ·exact zv0 ⟨fun h=>s1.2 (.inr h),fun h=>(s1.1 h).elim (fun e=>(hqp e).elim) id⟩ s2.symm (by simp[hqp]) (by simp[hqp]) (by simp only[zom,hget q hqp])
      ·cases hfr
     ·cases hfr
    ·cases hfr
   ·cases hfr
  |none=>
   rw[hfr]at h
   cases heff:effT o.pos o.op with
   |true=>
    simp only[heff]at h;obtain⟨htail,hops⟩:=h
    have hk0:all.size-(rest.length+1)=k:=by simp at hsz;omega
    rw[hk0]at htail;refine⟨fun _=>.un,fun _=>none,zom N,zom N,k,st,N,Wae _,by omega,Wae _,fun _=>htail,rfl,by simpa using hops,fun p x hp=>?_,⟨?_,?_,?_,?_,?_,?_,?_⟩,fun t=>by simp[tvF]⟩
    ·simp[gS,zom,hp]
    ·intro i p hr;cases hr
    ·intro i j p hr;cases hr
    ·intro i p hr;cases hr
    ·intro i j p hr;cases hr
    ·intro p x hp;simp[zom,hp]
    ·intro i b p hr;cases hr
    ·intro i o h1 h2;omega
   |false=>
    simp only[heff]at h;obtain⟨hunm,h⟩:=h
    have hun:∀t,t∈zbv o->∀x∈N,x.d≠t:=by
     intro t ht x hx e
     have:=Wak.1 (show List.all N _=true from hunm) x hx
     subst e;simp[ht]at this
    have fin:∀(st1:St) (x:V),st1.H=st.H->(∀t,look st1.t t=look st.t t)->OpQ P all st.H k o (look st.t) x->(∀t,t∈zbv o\/(∃g w,o.guard=some (g,w)/\(all[g]?).bind (·.dst)=some t)->(look st.t t).lt st.H.length=true)->
      (∃(a:Act) (E:Env),n<=a.tmps.size/\HRel E/\E.H=st.H/\(∀t,t∈zbv o\/(∃g w,o.guard=some (g,w)/\(all[g]?).bind (·.dst)=some t)->VRel E (look st.t t) (a.tmps.getD t undef))/\∀t,(∀x∈N,x.d≠t)->VRel E (look st.t t) (a.tmps.getD t undef))->
      awpDraw P all rest N (st1.put o.dst x st.H) K->
      ∃(T:Nat->V) (role:Nat->Option (Bool×Nat)) (z f:Nat->O) (kt:Nat) (stE:St) (N':List Fo),k<=kt/\kt<=all.size/\N.length<=N'.length/\(kt<all.size->zzl P all kt stE.t)/\stE.H=st.H/\
       awpOps P all ((o::rest).drop (kt-k)) ⟨stE.t,stE.H++N'.map Fo.o⟩ K/\
       (∀p x,N'[p]? =some x->x.o=gS z f (zom N) role (fun i=>k<=i/\i<kt) p)/\
       Xt P all st.H N k kt N'.length (look st.t) T role z f/\∀t,look stE.t t=tvF all T (look st.t) k t (kt-k):=by
     intro st1 x hH hl hq hlt hlv hd
     have hl1:∀t,look (st1.put o.dst x st.H).t t=if o.dst=some t then x else look st.t t:=fun t=>by rw[zoy,hl t]
     refine join (st1.put o.dst x st.H) N x none (fun z=>z) (fun f=>f) (by cases o.dst<;>rfl) (Wae _) hl1 ?_ hd ?_
     ·obtain⟨a,E,hN,hE,hH0,hl0,hl2⟩:=hlv
      have:=hq a E hE hH0 hl0 (fun a' w'=>∃v E',E'.w=w'/\a'=a.put o.dst v/\VRel E' x v/\E'.H=st.H/\HRel E'/\Trans E E') (fun _ _ _=>False) (fun v E' h1 h2 h3 h4=>⟨v,E',rfl,rfl,h1,h2,h3,h4⟩)
      obtain⟨a',w',v,E',rfl,rfl,h1,h2,h3,h4⟩:=z9x this;refine⟨a.put o.dst v,E',?_,h3,by rw[h2];cases o.dst<;>rfl,fun t ht=>?_⟩
      ·cases hdd:o.dst<;>simpa [Act.put,hdd]using hN
      ·rw[hl1]
       by_cases hdt:o.dst=some t
       ·rw[if_pos hdt,hdt,zny (War (hod t hdt) hN),if_pos rfl];exact h1
       ·rw[if_neg hdt]
        have:(a.put o.dst v).tmps.getD t undef=a.tmps.getD t undef:=by
         cases hdd:o.dst with
         |none=>rfl
         |some d=>rw[zny (War (hod d hdd) hN),if_neg (by rintro rfl;exact hdt hdd)]
        rw[this];exact(hl2 t ht).trans h4
     ·intro T role z f kt N' g1 g2 X g7
      have rk:∀b p,¬role k=some (b,p):=fun b p e=>by
       cases b with
       |true=>have:=(X.c1 k p e).1;omega
       |false=>have:=(X.c3 k p e).1;omega
      have rr:(fun m=>if m=k then none else role m)=role:=by
       funext m
       split
       ·rename_i e;subst e
        cases hr:role m with
        |none=>rfl
        |some bp=>obtain⟨b,p⟩:=bp;exact(rk b p hr).elim
       ·rfl
      rw[rr];refine⟨⟨?_,X.c2,?_,X.c4,X.cz,X.c5,?_⟩,?_⟩
      ·intro i p hr;obtain⟨q1,q2,q3,q4⟩:=X.c1 i p hr;exact⟨by omega,q2,q3,q4⟩
      ·intro i p hr;obtain⟨q1,q2,q3,q4⟩:=X.c3 i p hr;exact⟨by omega,q2,q3,q4⟩
      ·intro i oi h1 h2 h3
       by_cases hik:i=k
       ·subst hik
        rw[hio]at h3;cases h3
        have hr0:role i=none:=by
         cases hr:role i with
         |none=>rfl
         |some bp=>obtain⟨b,p⟩:=bp;exact(rk b p hr).elim
        simp only[hr0,if_true,Wbf,tvF];exact⟨hq,hlt⟩
       ·have hsp:=X.spec i oi (by omega) h2 h3
        have e:=specs _ N x T hl1 i (by omega)
        have e2:∀t,tvF all (fun m=>if m=k then x else T m) (look st.t) k t (i-k)=tvF all T (look (st1.put o.dst x st.H).t) (k+1) t (i-(k+1)):=fun t=>congrFun e t
        simp only[hik,if_false,e2];exact hsp
      ·intro p y hp
       rw[g7 p y hp]
       have sh:∀(b:Bool),(∃i,(k<=i/\i<kt)/\role i=some (b,p))↔∃i,(k+1<=i/\i<kt)/\role i=some (b,p):=by
        intro b;constructor
        ·rintro⟨i,hi,hr⟩
         have:i≠k:=fun e=>rk b p (e▸hr)
         exact⟨i,by omega,hr⟩
        ·rintro⟨i,hi,hr⟩;exact⟨i,by omega,hr⟩
       exact zv0 (sh false).symm (sh true).symm rfl rfl rfl
    have ltOf:∀t,t∈zbv o->(look st.t t).lt st.H.length=true:=by
     intro t ht;obtain⟨a,E,_,_,h3,h4⟩:=hlive
     have:=(h4 t (hun t ht)).lt_len
     rwa[h3]at this
    simp only[guarded2]at h;split at h
    ·rename_i hg
     obtain⟨x,hq,hd⟩:=ydc hio h (fun a E _=>by simp[Region.wanted,hg]) (by obtain⟨a,E,_,h1,h2,h3⟩:=hlive;exact⟨a,E,h1,h2,fun t ht=>h3 t (hun t ht)⟩);refine fin st x rfl (fun _=>rfl) hq ?_ ?_ hd
     ·rintro t (ht|⟨g,w,hgg,_⟩)
      ·exact ltOf t ht
      ·rw[hg]at hgg;cases hgg
     ·obtain⟨a,E,h0,h1,h2,h3⟩:=hlive
      refine⟨a,E,h0,h1,h2,?_,h3⟩
      rintro t (ht|⟨g,w,hgg,_⟩)
      ·exact h3 t (hun t ht)
      ·rw[hg]at hgg;cases hgg
    ·rename_i j want hg
     split at h
     ·rename_i d hdj
      have hgd:∀t,(∃g w,o.guard=some (g,w)/\(all[g]?).bind (·.dst)=some t)->t=d:=by
       rintro t ⟨g,w,hgg,hgt⟩;rw[hg]at hgg;cases hgg;rw[hdj]at hgt;exact(Wab hgt).symm
      split at h
      ·rename_i b hb
       have hlvd:∃(a:Act) (E:Env),n<=a.tmps.size/\HRel E/\E.H=st.H/\(∀t,t∈zbv o\/(∃g w,o.guard=some (g,w)/\(all[g]?).bind (·.dst)=some t)->VRel E (look st.t t) (a.tmps.getD t undef))/\∀t,(∀x∈N,x.d≠t)->VRel E (look st.t t) (a.tmps.getD t undef):=by
        obtain⟨a,E,h0,h1,h2,h3⟩:=hlive
        by_cases hdN:∀x∈N,x.d≠d
        ·refine⟨a,E,h0,h1,h2,?_,h3⟩
         rintro t (ht|ht)
         ·exact h3 t (hun t ht)
         ·rw[hgd t ht];exact h3 d hdN
        ·--the slot is a new object's:its value may be taken as it should be
         refine⟨{a with tmps:=a.tmps.setIfInBounds d (.bool b)},E,by simpa using h0,h1,h2,?_,?_⟩
         ·rintro t (ht|ht)
          ·have hne:t≠d:=fun e=>hdN (e▸hun t ht)
           have:(a.tmps.setIfInBounds d (.bool b)).getD t undef=a.tmps.getD t undef:=by
            simp only[Wah,WbE,if_neg (Ne.symm hne)]
           show VRel E _ ((a.tmps.setIfInBounds d (.bool b)).getD t undef)
           rw[this];exact h3 t (hun t ht)
          ·rw[hgd t ht,hb]
           have hdn:d<a.tmps.size:=by
            refine War ?_ h0
            cases hj:all[j]? with
            |none=>simp[hj]at hdj
            |some oj=>simp[hj]at hdj;exact hok oj (Wad (by simpa using hj)) d hdj
           have:(a.tmps.setIfInBounds d (.bool b)).getD d undef=.bool b:=by
            simp[Wah,hdn]
           show VRel E _ ((a.tmps.setIfInBounds d (.bool b)).getD d undef)
           rw[this];exact .one .bool
         ·intro t ht
          have hne:t≠d:=fun e=>hdN (e▸ht)
          have:(a.tmps.setIfInBounds d (.bool b)).getD t undef=a.tmps.getD t undef:=by
           simp only[Wah,WbE,if_neg (Ne.symm hne)]
          show VRel E _ ((a.tmps.setIfInBounds d (.bool b)).getD t undef)
          rw[this];exact h3 t ht
       have hlt':∀t,t∈zbv o\/(∃g w,o.guard=some (g,w)/\(all[g]?).bind (·.dst)=some t)->(look st.t t).lt st.H.length=true:=by
        rintro t (ht|ht)
        ·exact ltOf t ht
        ·rw[hgd t ht,hb];rfl
       have hy:∀(a:Act) (E:Env),(∀t,t∈zbv o\/(∃g w,o.guard=some (g,w)/\(all[g]?).bind (·.dst)=some t)->VRel E (look st.t t) (a.tmps.getD t undef))->yielded all a.tmps j=some b:=by
        intro a E hl
        have:=hl d (.inr ⟨j,want,hg,hdj⟩)
        rw[hb]at this;exact z1i hdj (bool_inv (one_inv this))
       by_cases hbw:b=want
       ·subst hbw
        have hl:∀t,look ((d,V.one (C.bool b))::st.t) t=look st.t t:=zwy hb
        obtain⟨x,hq,hd⟩:=ydc (st:=⟨(d,.one (.bool b))::st.t,st.H⟩) hio (h.1 rfl)
         (fun a E hh=>by have:=hy a E (fun t ht=>by rw[<-hl t];exact hh t ht);simp[Region.wanted,hg,this]) (by obtain⟨a,E,_,h1,h2,h3,_⟩:=hlvd;exact⟨a,E,h1,h2,fun t ht=>by simp only[hl];exact h3 t (.inl ht)⟩)
        refine fin ⟨(d,.one (.bool b))::st.t,st.H⟩ x rfl hl ?_ hlt' hlvd hd
        have e:look ((d,V.one (C.bool b))::st.t)=look st.t:=funext hl
        simp only[e]at hq;exact hq
       ·have hbn:b= !want:=ykk hbw
        have hl:∀t,look ((d,V.one (C.bool (!want)))::st.t) t=look st.t t:=zwy (by rw[hb,hbn])
        refine fin ⟨(d,.one (.bool (!want)))::st.t,st.H⟩ (.tup []) rfl hl (fun a E hE hH hh Kn Q hn=>?_) hlt' hlvd (h.2 hbn);simp only[wpOp,hio]
        have hw:Region.wanted o (yielded all a.tmps)=false:=by
         simp only[Region.wanted,hg,hy a E hh];simp[hbw]
        simp only[hw,WaD,if_false];exact hn undef E (.tup rfl (by simp)) hH hE (Trans.refl E)
      ·rename_i hb
       have hlvd:∃(a:Act) (E:Env),n<=a.tmps.size/\HRel E/\E.H=st.H/\(∀t,t∈zbv o\/(∃g w,o.guard=some (g,w)/\(all[g]?).bind (·.dst)=some t)->VRel E (look st.t t) (a.tmps.getD t undef))/\∀t,(∀x∈N,x.d≠t)->VRel E (look st.t t) (a.tmps.getD t undef):=by
        obtain⟨a,E,h0,h1,h2,h3⟩:=hlive
        by_cases hdN:∀x∈N,x.d≠d
        ·refine⟨a,E,h0,h1,h2,?_,h3⟩
         rintro t (ht|ht)
         ·exact h3 t (hun t ht)
         ·rw[hgd t ht];exact h3 d hdN
        ·refine⟨{a with tmps:=a.tmps.setIfInBounds d (.tuple #[])},E,by simpa using h0,h1,h2,?_,?_⟩
         ·rintro t (ht|ht)
          ·have hne:t≠d:=fun e=>hdN (e▸hun t ht)
           have:(a.tmps.setIfInBounds d (.tuple #[])).getD t undef=a.tmps.getD t undef:=by
            simp only[Wah,WbE,if_neg (Ne.symm hne)]
           show VRel E _ ((a.tmps.setIfInBounds d (.tuple #[])).getD t undef)
           rw[this];exact h3 t (hun t ht)
          ·rw[hgd t ht,hb]
           have hdn:d<a.tmps.size:=by
            refine War ?_ h0
            cases hj:all[j]? with
            |none=>simp[hj]at hdj
            |some oj=>simp[hj]at hdj;exact hok oj (Wad (by simpa using hj)) d hdj
           have:(a.tmps.setIfInBounds d (.tuple #[])).getD d undef=.tuple #[]:=by
            simp[Wah,hdn]
           show VRel E _ ((a.tmps.setIfInBounds d (.tuple #[])).getD d undef)
           rw[this];exact .tup rfl (by simp)
         ·intro t ht
          have hne:t≠d:=fun e=>hdN (e▸ht)
          have:(a.tmps.setIfInBounds d (.tuple #[])).getD t undef=a.tmps.getD t undef:=by
           simp only[Wah,WbE,if_neg (Ne.symm hne)]
          show VRel E _ ((a.tmps.setIfInBounds d (.tuple #[])).getD t undef)
          rw[this];exact h3 t ht
       refine fin st (.tup []) rfl (fun _=>rfl) (fun a E hE hH hh Kn Q hn=>?_) ?_ hlvd h
       ·simp only[wpOp,hio]
        have ht:=hh d (.inr ⟨j,want,hg,hdj⟩)
        rw[hb]at ht
        have hv:a.tmps.getD d undef=.tuple #[]:=by
         generalize a.tmps.getD d undef=v at ht
         cases ht with
         |tup hn _=>congr 1;exact Array.eq_empty_of_size_eq_zero (by simpa using hn)
        have hw:Region.wanted o (yielded all a.tmps)=false:=by simp[Region.wanted,hg,zyx hdj hv]
        simp only[hw,WaD,if_false];exact hn undef E (.tup rfl (by simp)) hH hE (Trans.refl E)
       ·rintro t (ht|ht)
        ·exact ltOf t ht
        ·rw[hgd t ht,hb];rfl
      ·exact h.elim
     ·exact h.elim
theorem zfs {ops:Array Oper} {i j:Nat} (h:zhc ops i j=true):∃o,ops[j]? =some o/\∃e∈o.after,Region.binds .any e=true/\e.on=i:=by
 unfold zhc at h;split at h
 ·rename_i o I
  simp only[Wbv,Wan,beq_iff_eq]at h;obtain⟨e,he,hb,rfl⟩:=h;exact⟨o,I,e,by simpa using he,hb,rfl⟩
 ·cases h
structure z17 (ops:Array Oper):Prop where
 back:∀(j:Nat) (o:Oper),ops[j]? =some o->∀e∈o.after,Region.binds .any e=true->e.on<j
 guard:∀(j:Nat) (o:Oper) (g:Nat) (w:Bool),ops[j]? =some o->o.guard=some (g,w)->g<j/\zhc ops g j=true
 war:∀(i j:Nat) (oi oj:Oper) (d:Nat),i<j->ops[i]? =some oi->ops[j]? =some oj->
  (oi.dst=some d/\(d∈zbv oj\/oj.dst=some d\/∃g w,oj.guard=some (g,w)/\(ops[g]?).bind (·.dst)=some d))\/
  (oj.dst=some d/\(d∈zbv oi\/∃g w,oi.guard=some (g,w)/\(ops[g]?).bind (·.dst)=some d))->zhc ops i j=true
theorem zrt {ops:Array Oper} (h:zwc ops=true):z17 ops:=by
 unfold zwc at h;rw[Wak]at h;refine⟨fun j o I e he hb=>?_,fun j o g w I hg=>?_,fun i j oi oj d ad hi I hc=>?_⟩
 ·have U:j<ops.size:=(Was.1 I).1
  have:=h j (WaC.2 U)
  simp only[I,Wan]at this
  have:=this.1.1
  rw[Wak]at this
  have:=this e (by simpa using he)
  simpa [hb]using this
 ·have U:j<ops.size:=(Was.1 I).1
  have:=h j (WaC.2 U)
  simp only[I,hg,Wan,decide_eq_true_eq]at this;exact this.1.2
 ·have U:j<ops.size:=(Was.1 I).1
  have:=h j (WaC.2 U)
  simp only[I,Wan]at this
  have h2:=this.2
  rw[Wak]at h2
  have h3:=h2 i (WaC.2 ad)
  simp only[hi]at h3
  cases ab:zhc ops i j with
  |true=>rfl
  |false=>
   simp only[ab,Bool.or_false,Wan]at h3;obtain⟨⟨⟨h1,h4⟩,h2⟩,h3⟩:=h3
   rcases hc with⟨hd,hc⟩|⟨hd,hc⟩
   ·simp only[hd,Wa4,Wbw]at h1
    rcases hc with hc|hc|⟨g,w,hg,aa⟩
    ·have:=h1.1;simp[hc]at this
    ·have:=h1.2;simp[hc]at this
    ·simp only[hd,hg,aa,Wa4]at h4;simp at h4
   ·rcases hc with hc|⟨g,w,hg,aa⟩
    ·simp only[hd,Wa4]at h2;simp[hc]at h2
    ·simp only[hd,hg,aa,Wa4]at h3;simp at h3
theorem zb3 {listed:Array Bool} {i j:Nat} (hi:i<listed.size):(listed.setIfInBounds i true).getD j false=(decide (i=j)||listed.getD j false):=by
 simp only[Wah,WbE]
 by_cases e:i=j
 ·subst e;simp[hi]
 ·simp[e]
def unl (listed:Array Bool):Nat:=listed.toList.countP (·==false)
theorem zz4 {listed:Array Bool} {i:Nat} (hi:i<listed.size) (h:listed.getD i true=false):unl (listed.setIfInBounds i true)+1=unl listed:=by
 have I:listed[i]=false:=by simpa [Wah,hi]using h
 unfold unl
 have hl:i<listed.toList.length:=by simpa using hi
 have:listed.toList=listed.toList.take i++false::listed.toList.drop (i+1):=by
  rw[<-I]
  conv=>lhs;rw[<-WbU i listed.toList]
  rw[Wa3 hl];simp
 have h2:(listed.setIfInBounds i true).toList=listed.toList.take i++true::listed.toList.drop (i+1):=by
  rw[Array.toList_setIfInBounds,List.set_eq_take_append_cons_drop,if_pos hl]
 rw[h2]
 conv=>rhs;rw[this]
 simp[List.countP_append,List.countP_cons];omega
theorem zw6 {listed:Array Bool} (h:unl listed=0) {j:Nat} (I:j<listed.size):listed.getD j false=true:=by
 unfold unl at h;rw[List.countP_eq_zero]at h
 have:=h listed[j] (by simp)
 simpa [Wah,I]using this
inductive Before (ops:Array Oper):Nat->Nat->Prop
 |one {i j:Nat} (h:zhc ops i j=true):Before ops i j
 |trans {i k j:Nat} (h:Before ops i k) (h2:zhc ops k j=true):Before ops i j
theorem ybf {a b:List Nat} {x:Nat}:x∈z63 a b↔x∈a\/x∈b:=by
 unfold z63;simp only[WaN,List.mem_filter];constructor
 ·rintro(h|⟨h,_⟩);exact .inl h;exact .inr h
 ·rintro(h|h)
  ·exact .inl h
  ·by_cases I:x∈a
   ·exact .inl I
   ·exact .inr ⟨h,by simp[I]⟩
theorem zut {β:Type} (g:β->List Nat):∀(es:List β) (acc:List Nat) (x:Nat),x∈es.foldl (fun acc e=>z63 acc (g e)) acc↔x∈acc\/∃e∈es,x∈g e
 |[],acc,x=>by simp
 |e::es,acc,x=>by
  rw[List.foldl_cons,zut g es,ybf];constructor
  ·rintro((h|h)|⟨I,h1,h2⟩)
   ·exact .inl h
   ·exact .inr ⟨e,by simp,h⟩
   ·exact .inr ⟨I,by simp[h1],h2⟩
  ·rintro(h|⟨I,h1,h2⟩)
   ·exact .inl (.inl h)
   ·rcases WaB.1 h1 with rfl|h1
    ·exact .inl (.inr h2)
    ·exact .inr ⟨I,h1,h2⟩
theorem zxh (ops:Array Oper):∀(rest:List Oper) (I:List (List Nat)) (k:Nat),I.length=k->(∀m,rest[m]? =ops[k+m]?)->(∀j i,i∈I.getD j []->Before ops i j)->
  ∀j i,i∈(rest.foldl z0f I).getD j []->Before ops i j
 |[],I,k,hk,hr,ht,j,i,hi=>ht j i hi
 |o::rest,I,k,hk,hr,ht,j,i,hi=>by
  have ho:ops[k]? =some o:=by simpa using(hr 0).symm
  refine zxh ops rest (z0f I o) (k+1) (by simp[z0f,hk]) (fun m=>by have:=hr (m+1);simpa [Waz,WbL 1]using this) (fun j i hi=>?_) j i hi;rw[z0f,List.getD_eq_getElem?_getD,Wbm]at hi;split at hi
  ·exact ht j i (by rw[List.getD_eq_getElem?_getD];exact hi)
  ·rename_i ad
   by_cases hj:j=k
   ·subst hj
    rw[hk,Wbf]at hi;simp only[Wat,WaI]at hi;rw[zut]at hi
    rcases hi with hi|⟨e,he,hi⟩
    ·simp at hi
    ·obtain⟨aa,ab⟩:=List.mem_filter.1 he
     have U:zhc ops e.on j=true:=by
      unfold zhc;simp only[ho,Wbv,Wan,beq_iff_eq];exact⟨e,aa,ab,rfl⟩
     rcases WaB.1 hi with rfl|hi
     ·exact .one U
     ·exact .trans (ht _ _ hi) U
   ·have:∃q,j-I.length=q+1:=⟨j-I.length-1,by omega⟩
    obtain⟨q,hq⟩:=this;rw[hq]at hi;simp at hi
theorem zvr {ops:Array Oper} {k:Nat} (h:z2e ops k=true):∀j,k<=j->j<ops.size->∀i,i<j->Before ops i j:=by
 intro j U I i hi;unfold z2e at h;rw[Wak]at h
 have:=h j (WaC.2 I)
 simp only[WaE,decide_eq_true_eq]at this
 rcases this with h1|h1
 ·omega
 ·rw[Wak]at h1
  have h2:=h1 i (WaC.2 hi)
  refine zxh ops ops.toList [] 0 rfl (fun m=>by simp) (fun j i hi=>by simp at hi) j i ?_;simpa [zi6]using h2
theorem Before.listed {ops:Array Oper} {listed:Array Bool} (hc:∀(j:Nat) (o:Oper),ops[j]? =some o->listed.getD j false=true->∀e∈o.after,Region.binds .any e=true->listed.getD e.on false=true) {i j:Nat} (h:Before ops i j):
  listed.getD j false=true->listed.getD i false=true:=by
 have one:∀{i j:Nat},zhc ops i j=true->listed.getD j false=true->listed.getD i false=true:=by
  intro i j I hl;obtain⟨o,U,e,he,hb,rfl⟩:=zfs I;exact hc j o U hl e he hb
 induction h with
 |one h=>exact one h
 |trans h h2 ih=>exact fun hl=>ih (one h2 hl)
theorem Before.ready {ops:Array Oper} {listed:Array Bool} (hc:∀(j:Nat) (o:Oper),ops[j]? =some o->listed.getD j false=true->∀e∈o.after,Region.binds .any e=true->listed.getD e.on false=true) {i j:Nat} {o:Oper} (ho:ops[j]? =some o)
  (hr:∀e∈o.after,Region.binds .any e=true->listed.getD e.on false=true) (h:Before ops i j):listed.getD i false=true:=by
 have one:∀{i:Nat},zhc ops i j=true->listed.getD i false=true:=by
  intro i U;obtain⟨o',I,e,he,hb,rfl⟩:=zfs U;rw[ho]at I;cases I;exact hr e he hb
 cases h with
 |one h=>exact one h
 |trans h h2=>exact h.listed hc (one h2)
theorem z67 {P:Program} {ctx:Env} {n:Cf} {ops:Array Oper} {K:St->Prop} {Q:Exit->Act->World->Prop} {k0:Nat} (hd:z17 ops) (av:∀o∈ops.toList,∀d,o.dst=some d->d<n.n)
  (ht:∀j,k0<=j->j<ops.size->∀i,i<j->Before ops i j) (hQ:∀st' a' E',K st'->SR ctx n st' a' E'->Q .normal a' E'.w):
  ∀(fuel j:Nat) (listed:Array Bool) (a:Act) (E:Env) (st:St),k0<=j->j<=ops.size->listed.size=ops.size->unl listed<=fuel->(∀i,i<ops.size->(listed.getD i false=true↔i<j))->SR ctx n st a E->awpOps P ops (ops.toList.drop j) st K->
   wpAny P .any ops Q fuel listed a E.w:=by
 have fin:∀(j:Nat) (listed:Array Bool) (a:Act) (E:Env) (st:St),(∀i,i<ops.size->(listed.getD i false=true↔i<j))->(∀i,i<ops.size->listed.getD i false=true)->SR ctx n st a E->awpOps P ops (ops.toList.drop j) st K->Q .normal a E.w:=by
  intro j listed a E st hl U hS hw
  have:ops.toList.drop j=[]:=by
   refine Wbx ?_;rw[Wbb]
   rcases WaG j ops.size with h|h
   ·have:=(hl j h).1 (U j h);omega
   ·exact h
  rw[this]at hw;exact hQ st a E hw hS
 have closed:∀(j:Nat) (listed:Array Bool),j<=ops.size->(∀i,i<ops.size->(listed.getD i false=true↔i<j))->∀(q:Nat) (o:Oper),ops[q]? =some o->listed.getD q false=true->∀e∈o.after,Region.binds .any e=true->listed.getD e.on false=true:=by
  intro j listed hj hl q o I hq e he hb
  have aw:q<ops.size:=(Was.1 I).1
  have h1:=(hl q aw).1 hq
  have h2:=hd.back q o I e he hb
  exact(hl e.on (by omega)).2 (by omega)
 have nil:∀(j:Nat) (listed:Array Bool),listed.size=ops.size->j<=ops.size->(∀i,i<ops.size->(listed.getD i false=true↔i<j))->Region.ready .any ops listed=[]->∀i,i<ops.size->listed.getD i false=true:=by
  intro j listed hs hj hl hr i hi
  rcases WaG j ops.size with h|h
  ·exfalso
   have ae:j∈Region.ready .any ops listed:=by
    rw[mem_ready]
    have af:listed.getD j false=false:=by
     cases hh:listed.getD j false with
     |false=>rfl
     |true=>have:=(hl j h).1 hh;omega
    refine⟨by simp only[Wah]at af|-;rw[WaR (by rw[hs];exact h)]at af|-;simpa using af,ops[j],by simp[h],fun e he hb=>?_⟩
    have:=hd.back j ops[j] (by simp[h]) e he hb
    exact(hl e.on (by omega)).2 this
   rw[hr]at ae;cases ae
  ·exact(hl i hi).2 (by omega)
 intro fuel
 induction fuel with
 |zero=>
  intro j listed a E st hk hj hs hu hl hS hw
  have U:∀i,i<ops.size->listed.getD i false=true:=fun i hi=>zw6 (by omega) (by rw[hs];exact hi)
  refine⟨?_,fin j listed a E st hl U hS hw⟩
  apply Wcg.2
  intro i hi;rw[mem_ready]at hi;obtain⟨h1,o,I,_⟩:=hi
  have an:=(Was.1 I).1
  have h2:=U i an
  simp only[Wah,WaR (show i<listed.size by rw[hs];exact an)]at h1 h2
  simp_all
 |succ fuel ih=>
  intro j listed a E st hk hj hs hu hl hS hw;refine⟨fun hr=>fin j listed a E st hl (nil j listed hs hj hl hr) hS hw,fun i hi=>?_⟩;rw[mem_ready]at hi;obtain⟨ai,o,I,aj⟩:=hi
  have aa:i<ops.size:=(Was.1 I).1
  have ad:i<listed.size:=by rw[hs];exact aa
  have ax:listed.getD i false=false:=by
   simp only[Wah,WaR ad]at ai|-;simpa using ai
  have ay:j<=i:=by
   rcases WaG i j with h|h
   ·have:=(hl i aa).2 h;rw[ax]at this;cases this
   ·exact h
  have az:i=j:=by
   rcases WbF ay with h|h
   ·have:=(ht i (by omega) aa j h).ready (closed j listed hj hl) I aj
    have:=(hl j (by omega)).1 this;omega
   ·exact h.symm
  subst az
  have ak:ops.toList.drop i=o::ops.toList.drop (i+1):=by
   rw[Wa3 (by simpa using aa)]
   congr 1
   have:=Was.1 I
   obtain⟨h1,h2⟩:=this;simpa using h2
  rw[ak]at hw;simp only[awpOps]at hw
  have ao:∀q,q<ops.size->((listed.setIfInBounds i true).getD q false=true↔q<i+1):=by
   intro q hq;rw[zb3 ad,WaE,decide_eq_true_eq,hl q hq];omega
  have aq:unl (listed.setIfInBounds i true)<=fuel:=by have:=zz4 ad ai;omega
  have ar:=av o (Wad (by simpa using I))
  obtain⟨st',au,al⟩:=zs8 hS hw;simp only[wpOp,I]
  rcases al with⟨ab,hx⟩|⟨ab,hx⟩
  ·simp only[ab,if_true]
   left
   exact zz0 au ar hx Q _ fun aA a2 E2 hK aB=>ih (i+1) _ a2 E2 aA (by omega) (by omega) (by simpa using hs) aq ao aB hK
  ·simp only[ab,WaD,if_false]
   exact ih (i+1) _ _ E _ (by omega) (by omega) (by simpa using hs) aq ao (au.skip2 ar) hx
structure Inv (ctx:Env) (n:Nat) (ops:Array Oper) (T:Nat->V) (l0:Nat->V) (H:List O) (M kt:Nat) (z f:Nat->O) (role:Nat->Option (Bool×Nat)) (listed:Array Bool) (a:Act) (E:Env):Prop where
 size:listed.size=ops.size
 closed:∀(j:Nat) (o:Oper),ops[j]? =some o->listed.getD j false=true->∀e∈o.after,Region.binds .any e=true->listed.getD e.on false=true
 sub:∀j,listed.getD j false=true->j<kt
 len:n<=a.tmps.size
 defers:a.defers=[]
 rel:HRel E
 H:E.H=H++(List.range M).map (gS z f (zom []) role (fun j=>listed.getD j false=true))
 tr:Trans ctx E
 tm:∀t,VRel E (tv ops T l0 (fun j=>listed.getD j false=true) t ops.size) (a.tmps.getD t undef)
theorem z4a {M p:Nat} {g U:Nat->O} {x:O} (hp:p<M) (h1:U p=x) (h2:∀q,q≠p->U q=g q):(List.range M).map U=((List.range M).map g).set p x:=by
 apply WbA
 intro q;rw[Wa9]
 by_cases I:p=q
 ·subst I
  rw[if_pos rfl,if_pos (by simpa using hp)];simp[hp,h1]
 ·rw[if_neg I]
  simp only[Wao]
  cases hq:(List.range M)[q]? with
  |none=>rfl
  |some y=>
   have:y=q:=by
    have:=(Wag.1 hq)
    obtain⟨h,e⟩:=this;simpa using e.symm
   subst this;simp[h2 y (Ne.symm I)]
theorem yfk {P:Program} {ctx:Env} {n:Nat} {ops:Array Oper} {T l0:Nat->V} {H:List O} {Q:Exit->Act->World->Prop} {M kt:Nat} {z f:Nat->O} {role:Nat->Option (Bool×Nat)} (hd:z17 ops) (aN:∀o∈ops.toList,∀d,o.dst=some d->d<n)
  (aO:∀o∈H,o.lt H.length=true) (X:Xt P ops H [] 0 kt M l0 T role z f) (aP:kt<=ops.size) (late:Nat->Prop) (aL:∀i j,kt<=j->j<ops.size->i<kt->¬late i->Before ops i j) (I:∀i,late i->role i=none)
  (hQ:∀(fuel:Nat) (listed:Array Bool) (a:Act) (E:Env),unl listed<=fuel->listed.size=ops.size->(∀(j:Nat) (o:Oper),ops[j]? =some o->listed.getD j false=true->∀e∈o.after,Region.binds .any e=true->listed.getD e.on false=true)->
    (∀i,listed.getD i false=true->i<kt)->(∀i,i<kt->¬late i->listed.getD i false=true)->n<=a.tmps.size->a.defers=[]->HRel E->
    E.H=H++(List.range M).map (gS z f (zom []) role (fun i=>0<=i/\i<kt))->Trans ctx E->(∀t,(∀j,j<kt->late j->listed.getD j false=false->(ops[j]?).bind (·.dst)≠some t)->VRel E (tv ops T l0 (fun _=>True) t kt) (a.tmps.getD t undef))->wpAny P .any ops Q fuel listed a E.w):
  ∀(fuel:Nat) (listed:Array Bool) (a:Act) (E:Env),unl listed<=fuel->Inv ctx n ops T l0 H M kt z f role listed a E->wpAny P .any ops Q fuel listed a E.w:=by
 have af:∀{j t:Nat},(ops[j]?).bind (·.dst)=some t->∃oj,ops[j]? =some oj/\oj.dst=some t:=by
  intro j t h
  cases U:ops[j]? with
  |none=>simp[U]at h
  |some oj=>simp[U]at h;exact⟨oj,rfl,h⟩
 have done:∀(fuel:Nat) (listed:Array Bool) (a:Act) (E:Env),unl listed<=fuel->Inv ctx n ops T l0 H M kt z f role listed a E->(∀j,j<kt->¬late j->listed.getD j false=true)->wpAny P .any ops Q fuel listed a E.w:=by
  intro fuel listed a E hu hI aw;refine hQ fuel listed a E hu hI.size hI.closed hI.sub aw hI.len hI.defers hI.rel ?_ hI.tr fun t ht=>?_
  ·rw[hI.H]
   congr 2
   funext p
   have e:∀b,(∃i,listed.getD i false=true/\role i=some (b,p))↔∃i,(0<=i/\i<kt)/\role i=some (b,p):=fun b=>by
    constructor
    ·rintro⟨i,h1,h2⟩;exact⟨i,⟨Waf _,hI.sub i h1⟩,h2⟩
    ·rintro⟨i,h1,h2⟩;exact⟨i,aw i h1.2 (fun hl=>by rw[I i hl]at h2;cases h2),h2⟩
   exact zv0 (e false) (e true) rfl rfl rfl
  ·have:=hI.tm t
   rw[zo6 (i:=kt) aP (fun j U _ _ hl=>by have:=hI.sub j hl;omega)]at this;rwa[zvp (fun j U hd=>?_)]at this
   cases hl:listed.getD j false with
   |true=>rfl
   |false=>
    by_cases ay:late j
    ·exact(ht j U ay hl hd).elim
    ·rw[aw j U ay]at hl;cases hl
 intro fuel
 induction fuel with
 |zero=>
  intro listed a E hu hI;exact done 0 listed a E hu hI fun j U _=>zw6 (by omega) (by rw[hI.size];omega)
 |succ fuel ih=>
  intro listed a E hu hI
  by_cases aq:∀j,j<kt->¬late j->listed.getD j false=true
  ·exact done (fuel+1) listed a E hu hI aq
  refine⟨fun hr=>?_,fun i hi=>?_⟩
  ·exfalso
   apply aq
   suffices hx:∀j,j<kt->listed.getD j false=true from fun j U _=>hx j U
   intro j
   induction j using Nat.strongRecOn with
   |_ j aQ=>
    intro U
    cases hl:listed.getD j false with
    |true=>rfl
    |false=>
     have aA:j<ops.size:=by omega
     have aB:j∈Region.ready .any ops listed:=by
      rw[mem_ready];refine⟨by simp only[Wah]at hl|-;rw[WaR (by rw[hI.size];exact aA)]at hl|-;simpa using hl,ops[j],by simp[aA],fun e he hb=>?_⟩
      have ai:=hd.back j ops[j] (by simp[aA]) e he hb
      exact aQ e.on ai (by omega)
     rw[hr]at aB;cases aB
  rw[mem_ready]at hi;obtain⟨aC,o,ho,aj⟩:=hi
  have ar:i<ops.size:=(Was.1 ho).1
  have ad:i<listed.size:=by rw[hI.size];exact ar
  have aD:listed.getD i false=false:=by
   simp only[Wah,WaR ad]at aC|-;simpa using aC
  have aG:∀d,o.dst=some d->d<n:=aN o (Wad (by simpa using ho))
  have aM:i<kt:=by
   rcases WaG i kt with h|h
   ·exact h
   ·exfalso
    exact aq fun j U ay=>(aL j i h ar U ay).ready hI.closed ho aj
  have later:∀j,zhc ops i j=true->listed.getD j false=true->False:=by
   intro j ax hl;obtain⟨oj,ab,e,he,hb,rfl⟩:=zfs ax
   have:=hI.closed j oj ab hl e he hb
   rw[aD]at this;cases this
  have ak:∀j,zhc ops j i=true->listed.getD j false=true:=by
   intro j ax;obtain⟨oi,aH,e,he,hb,rfl⟩:=zfs ax;rw[ho]at aH;cases aH;exact aj e he hb
  have aE:∀t,t∈zbv o\/(∃g w,o.guard=some (g,w)/\(ops[g]?).bind (·.dst)=some t)->VRel E (tv ops T l0 (fun _=>True) t i) (a.tmps.getD t undef):=by
   intro t ht
   have h1:tv ops T l0 (fun j=>listed.getD j false=true) t ops.size=tv ops T l0 (fun j=>listed.getD j false=true) t i:=by
    refine zo6 (WaS ar) fun j aI U aa hl=>?_;obtain⟨oj,ab,aa⟩:=af aa
    rcases WbF aI with ai|rfl
    ·refine later j (hd.war i j o oj t ai ho ab (.inr ⟨aa,?_⟩)) hl
     rcases ht with ht|⟨g,w,hg,aF⟩
     ·exact .inl ht
     ·exact .inr ⟨g,w,hg,aF⟩
    ·rw[aD]at hl;cases hl
   have h2:tv ops T l0 (fun j=>listed.getD j false=true) t i=tv ops T l0 (fun _=>True) t i:=by
    refine zvp fun j U aa=>?_;obtain⟨oj,ab,aa⟩:=af aa
    rcases ht with ht|⟨g,w,hg,aF⟩
    ·exact ak j (hd.war j i oj o t U ab ho (.inl ⟨aa,.inl ht⟩))
    ·exact ak j (hd.war j i oj o t U ab ho (.inl ⟨aa,.inr (.inr ⟨g,w,hg,aF⟩)⟩))
   have:=hI.tm t
   rw[h1,h2]at this;exact this
  have lF:∀t,tvF ops T l0 0 t (i-0)=tv ops T l0 (fun _=>True) t i:=fun t=>by rw[WaY,zvq]
  have next:∀v E',VRel E' (T i) v->E'.H=H++(List.range M).map (gS z f (zom []) role (fun j=>(listed.setIfInBounds i true).getD j false=true))->HRel E'->Trans E E'->wpAny P .any ops Q fuel (listed.setIfInBounds i true) (a.put o.dst v) E'.w:=by
   intro v E' hv al hh tr;refine ih (listed.setIfInBounds i true) (a.put o.dst v) E' (by have:=zz4 ad aC;omega) ⟨by simp[hI.size],?_,?_,?_,?_,hh,al,hI.tr.trans tr,?_⟩
   ·intro j oj ab hl e he hb
    rw[zb3 ad]at hl|-;rw[WaE]at hl|-
    rcases hl with hl|hl
    ·have:i=j:=by simpa using hl
     subst this;rw[ho]at ab;cases ab;exact .inr (aj e he hb)
    ·exact .inr (hI.closed j oj ab hl e he hb)
   ·intro j hl
    rw[zb3 ad,WaE]at hl
    rcases hl with hl|hl
    ·have:i=j:=by simpa using hl
     omega
    ·exact hI.sub j hl
   ·cases an:o.dst<;>simpa [Act.put,an]using hI.len
   ·cases an:o.dst<;>simpa [Act.put,an]using hI.defers
   ·intro t
    by_cases ao:o.dst=some t
    ·have aR:=aG t ao
     have ai:t<a.tmps.size:=War aR hI.len
     rw[ao,zny ai,if_pos rfl]
     have h1:tv ops T l0 (fun j=>(listed.setIfInBounds i true).getD j false=true) t ops.size=tv ops T l0 (fun j=>(listed.setIfInBounds i true).getD j false=true) t (i+1):=by
      refine zo6 ar fun j aI U aa hl=>?_;obtain⟨oj,ab,aa⟩:=af aa;rw[zb3 ad,WaE]at hl
      rcases hl with hl|hl
      ·have:i=j:=by simpa using hl
       omega
      ·exact later j (hd.war i j o oj t (by omega) ho ab (.inl ⟨ao,.inr (.inl aa)⟩)) hl
     rw[h1,tv,if_pos ⟨by rw[zb3 ad];simp,by simp[ho,ao]⟩];exact hv
    ·have h1:tv ops T l0 (fun j=>(listed.setIfInBounds i true).getD j false=true) t ops.size=tv ops T l0 (fun j=>listed.getD j false=true) t ops.size:=by
      refine z2c fun j U aa=>?_;obtain⟨oj,ab,aa⟩:=af aa
      have aS:i≠j:=by rintro rfl;rw[ho]at ab;cases ab;exact ao aa
      rw[zb3 ad];simp[aS]
     rw[h1]
     have:(a.put o.dst v).tmps.getD t undef=a.tmps.getD t undef:=by
      cases an:o.dst with
      |none=>rfl
      |some d=>rw[zny (War (aG d an) hI.len),if_neg (by rintro rfl;exact ao an)]
     rw[this];exact(hI.tm t).trans tr
  have ae:∀q b,(∃j,(listed.setIfInBounds i true).getD j false=true/\role j=some (b,q))↔(role i=some (b,q)\/∃j,listed.getD j false=true/\role j=some (b,q)):=by
   intro q b;constructor
   ·rintro⟨j,U,hr⟩
    rw[zb3 ad,WaE]at U
    rcases U with U|U
    ·have:i=j:=by simpa using U
     subst this;exact .inl hr
    ·exact .inr ⟨j,U,hr⟩
   ·rintro(hr|⟨j,U,hr⟩)
    ·exact⟨i,by rw[zb3 ad];simp,hr⟩
    ·exact⟨j,by rw[zb3 ad,U];simp,hr⟩
  have az:∀j q,role j=some (false,q)->∃j',role j'=some (true,q)/\zhc ops j' j=true:=by
   intro j q hr
   rcases(X.c3 j q hr).2.2.2 with⟨x,_,hx,_⟩|⟨_,j',aT,oj,d,h1,h2,h3,h4,h5,h6⟩
   ·simp at hx
   ·exact⟨j',h2,hd.war j' j aT oj d h1 h3 h4 (.inl ⟨h5,.inl h6⟩)⟩
  have aJ:∀b q,(∃j,listed.getD j false=true/\role j=some (b,q))->role i=some (b,q)->False:=by
   rintro b q ⟨j,U,hr⟩ aK
   have:j=i:=by cases b with
    |true=>exact X.c2 j i q hr aK
    |false=>exact X.c4 j i q hr aK
   subst this;rw[aD]at U;cases U
  have au:=X.spec i o (Waf _) aM ho
  cases I:role i with
  |none=>
   rw[I]at au;obtain⟨hq,ai⟩:=au
   refine yeh hq hI.rel hI.H aO (fun t ht=>?_) fun v E' hv al hh tr=>next v E' hv ?_ hh tr
   ·have h1:=aE t ht
    have h2:=ai t ht
    have e:=lF t
    exact⟨by rw[e];exact h1,h2⟩
   ·rw[al]
    congr 2
    funext q
    have e:∀b,(∃i,listed.getD i false=true/\role i=some (b,q))↔∃j,(listed.setIfInBounds i true).getD j false=true/\role j=some (b,q):=fun b=>by
     rw[ae q b,I];simp
    exact zv0 (e false) (e true) rfl rfl rfl
  |some bp=>
   obtain⟨b,p⟩:=bp;rw[I]at au
   have getM:∀(g:Nat->O),p<M->((List.range M).map g)[p]? =some (g p):=fun g hp=>by simp[hp]
   cases b with
   |true=>
    have av:=(X.c1 i p I).2.2.2
    have n1:¬∃j,listed.getD j false=true/\role j=some (false,p):=by
     rintro⟨j,U,hr⟩;obtain⟨j',h1,h2⟩:=az j p hr
     have:j'=i:=X.c2 j' i p h1 I
     subst this;exact later j h2 U
    have n2:¬∃j,listed.getD j false=true/\role j=some (true,p):=fun h=>aJ true p h I
    have hg:gS z f (zom []) role (fun j=>listed.getD j false=true) p=.cells 0 0 []:=by
     rw[gS_b n1 n2];rfl
    refine au a E _ hI.rel hI.H (by rw[getM _ av,hg]) (fun t ht=>by have:=aE t (.inl ht);rwa[<-lF t]at this) _ Q fun v E' hv al hh tr=>next v E' hv ?_ hh tr
    rw[al]
    congr 1
    refine(z4a av ?_ fun q hq=>?_).symm
    ·exact gS_z (fun h=>((ae p false).1 h).elim (fun e=>by rw[I]at e;cases e) n1) ((ae p true).2 (.inl I))
    ·have e:∀b,(∃j,(listed.setIfInBounds i true).getD j false=true/\role j=some (b,q))↔∃i,listed.getD i false=true/\role i=some (b,q):=fun b=>by
      rw[ae q b,I];constructor
      ·rintro(h|h)
       ·simp at h;exact(hq h.2.symm).elim
       ·exact h
      ·exact .inr
     exact zv0 (e false) (e true) rfl rfl rfl
   |false=>
    have av:=(X.c3 i p I).2.2.1
    have n1:¬∃j,listed.getD j false=true/\role j=some (false,p):=fun h=>aJ false p h I
    have n2:∃j,listed.getD j false=true/\role j=some (true,p):=by
     obtain⟨j',h1,h2⟩:=az i p I;exact⟨j',ak j' h2,h1⟩
    have hg:gS z f (zom []) role (fun j=>listed.getD j false=true) p=z p:=by
     rw[gS_z n1 n2]
    refine au a E _ hI.rel hI.H (by rw[getM _ av,hg]) (fun t ht=>by have:=aE t (.inl ht);rwa[<-lF t]at this) _ Q fun v E' hv al hh tr=>next v E' hv ?_ hh tr
    rw[al]
    congr 1
    refine(z4a av ?_ fun q hq=>?_).symm
    ·exact gS_f ((ae p false).2 (.inl I))
    ·have e:∀b,(∃j,(listed.setIfInBounds i true).getD j false=true/\role j=some (b,q))↔∃i,listed.getD i false=true/\role i=some (b,q):=fun b=>by
      rw[ae q b,I];constructor
      ·rintro(h|h)
       ·simp at h;exact(hq h.2.symm).elim
       ·exact h
      ·exact .inr
     exact zv0 (e false) (e true) rfl rfl rfl
end Go.Lz

end
section
namespace Go.Lz
def OpE (P:Program) (all:Array Oper) (H H1:List O) (i:Nat) (o:Oper) (l:Nat->V) (x:V):Prop:=
 ∀(a:Act) (E:Env),HRel E->E.H=H->(∀t,t∈zbv o->VRel E (l t) (a.tmps.getD t undef))->
  ∀(K:Act->World->Prop) (Q:Exit->Act->World->Prop),(∀v E',VRel E' x v->E'.H=H1->HRel E'->Trans E E'->K (a.put o.dst v) E'.w)->wpOp P all Q i K a E.w
theorem z7q {P:Program} {all:Array Oper} {i:Nat} {o:Oper} {st:St} {H1:List O} {x:V} {f:Operand} {args:Array Operand} {af:Array TypeId} {g:FuncId} {cap:List C} (hi:all[i]? =some o) (hg:o.guard=none)
  (aa:o.op=.call {callee:=.value f,args,argTypes:=af}) (hf:st.ρ f=.one (.fn g cap)) (hc:Ct P g (args.toList.map st.ρ++cap.map V.one) st.H (fun v H'=>v=x/\H'=H1)):OpE P all st.H H1 i o (look st.t) x:=by
 intro a E hE hH hl Kn Q hn
 have ab:Region.wanted o (yielded all a.tmps)=true:=by simp[Region.wanted,hg]
 simp only[wpOp,hi,ab,if_true]
 have hρ:∀y∈o.op.operands,VRel E (st.ρ y) (a.eval y):=by
  intro y hy
  cases y with
  |tmp t=>exact hl t (by simp only[zbv,Wbu];exact⟨.tmp t,by simpa using hy,rfl⟩)
  |const v=>exact V.ofV_rel E v
  |global g=>exact .un
  |func f=>exact .one (.fn rfl (by simp))
 have ad:=hρ f (by simp[aa,Op.operands,Call.operands])
 rw[hf]at ad;obtain⟨vs,hv,ai,aj⟩:=z4z ad
 left
 unfold Oper.wp;rw[zv2 aa hv hc.1]
 have hsz:(args.map a.eval++vs).size=(args.toList.map st.ρ++cap.map V.one).length:=by simp[ai]
 refine Calls.mono (hc.2 E (args.map a.eval++vs) hE hH hsz fun j y U=>?_) ?_
 ·rw[Wbm]at U
  split at U
  ·rename_i I
   simp at I;simp only[Wao,Wal]at U;obtain⟨p,hp,rfl⟩:=U
   have ae:args[j]? =some p:=by simpa using hp
   have:(args.map a.eval++vs).getD j undef=a.eval p:=by
    rw[Wah,Wbe (by simpa using I),WbV,ae];rfl
   rw[this];refine hρ p ?_;simp only[aa,Op.operands,Call.operands];exact Array.mem_append.2 (.inr (Array.mem_of_getElem? ae))
  ·rename_i I
   simp at I;simp only[Wao,Wal,Waq,Wbb]at U;obtain⟨c,hc,rfl⟩:=U
   have:(args.map a.eval++vs).getD j undef=vs.getD (j-args.size) undef:=by
    rw[Wah,Wah,Wcf (by simpa using I)];simp
   rw[this];exact .one (aj _ c hc)
 ·rintro e w' ⟨v,y,E',rfl,rfl,⟨rfl,ak⟩,hx,hh,tr⟩
  exact hn v E' hx ak hh tr
theorem zvu {P:Program} {all:Array Oper} {i:Nat} {o:Oper} {st:St} {H:List O} (hi:all[i]? =some o) (hg:o.guard=none) (hp:(zdu P o.pos o.op st.ρ H).pre):
  OpE P all H (zdu P o.pos o.op st.ρ H).h i o (look st.t) (zdu P o.pos o.op st.ρ H).v:=by
 intro a E hE hH hl Kn Q hn
 have I:Region.wanted o (yielded all a.tmps)=true:=by simp[Region.wanted,hg]
 have U:st.ρ=(fun x=>match x with|.tmp i=>look st.t i|.const v=>V.ofV v|.func f=>.one (.fn f [])|.global _=>.un):=by
  funext x;cases x<;>rfl
 rw[U,<-hH]at hp;rw[U,<-hH]at hn;simp only[wpOp,hi,I,if_true]
 left
 obtain⟨_,aa⟩:=zzu (P:=P) (o:=o) (a:=a) hE (fun t ht=>hl t ht) hp;exact aa Kn Q fun v E' hv ab hh tr=>hn v E' hv ab hh tr
structure z9u (P:Program) (all:Array Oper) (S Fl FE:List Nat) (l:Nat->V) (T:Nat->V) (Hs:Nat->List O) (i:Nat) (o:Oper):Prop where
 eff:zcm all i=true->OpE P all (Hs i) (Hs (i+1)) i o l (T i)
 ag:FE.contains i=true->zo2 S (Hs i) (Hs (i+1))
 quiet:zcm all i=false->Hs (i+1)=Hs i
 one:zcm all i=false->OpE P all (Hs i) (Hs i) i o l (T i)
 flo:zcm all i=false->Fl.contains i=true->∀H',zo2 S (Hs i) H'->OpE P all H' H' i o l (T i)
theorem z0e {ops:Array Oper} {i j:Nat} (h:i∈(zi6 ops.toList).getD j []):Before ops i j:=
 zxh ops ops.toList [] 0 rfl (fun m=>by simp) (fun j i hi=>by simp at hi) j i (by simpa [zi6]using h)
theorem zxr {all:Array Oper} (h:floB all=true):(∀(j:Nat) (o:Oper),all[j]? =some o->o.guard=none)/\∀(i j:Nat),i<j->j<all.size->zcm all i=true->zcm all j=true->((zi6 all.toList).getD j []).contains i=true:=by
 unfold floB at h;rw[Wak]at h;refine⟨fun j o I=>?_,fun i j U I hi aa=>?_⟩
 ·have ab:j<all.size:=(Was.1 I).1
  have:=h j (WaC.2 ab)
  simp only[I,Wan]at this;simpa using this.1
 ·have:=h j (WaC.2 I)
  rw[Wan]at this
  have h2:=this.2
  rw[aa]at h2;simp only[Bool.not_true,Bool.false_or,Wak]at h2
  have:=h2 i (WaC.2 U)
  simpa [hi]using this
theorem z0w {P:Program} {all:Array Oper} {S Fl FE:List Nat} {K:St->Prop} (hg:∀(j:Nat) (o:Oper),all[j]? =some o->o.guard=none):∀(rest:List Oper) (k:Nat) (st:St),(∀m,rest[m]? =all[k+m]?)->k+rest.length=all.size->awpF P S Fl FE k rest st K->
  ∃(T:Nat->V) (Hs:Nat->List O) (ad:St),Hs k=st.H/\(∀(i:Nat) (o:Oper),k<=i->all[i]? =some o->z9u P all S Fl FE (fun t=>tvF all T (look st.t) k t (i-k)) T Hs i o)/\K ad/\ad.H=Hs all.size/\∀t,look ad.t t=tvF all T (look st.t) k t (all.size-k)
 |[],k,st,hr,hn,h=>by
  simp at hn;refine⟨fun _=>.un,fun _=>st.H,st,rfl,fun i o hi I=>?_,h,rfl,fun t=>?_⟩
  ·have:=(Was.1 I).1;omega
  ·rw[hn,Wbf];rfl
 |o::rest,k,st,hr,hn,h=>by
  have I:all[k]? =some o:=by have:=hr 0;simpa using this.symm
  have an:∀m,rest[m]? =all[k+1+m]? :=fun m=>by have:=hr (m+1);simpa [Waz,WbL 1 m]using this
  have ao:k+1+rest.length=all.size:=by simp at hn;omega
  have ae:=hg k o I
  have au:all.size-(rest.length+1)=k:=by omega
  have ab:zcm all k=effF o.op:=by simp[zcm,I]
  obtain⟨x,H1,hE,hA,hQ,hO,hF,ak⟩:∃x H1,(effF o.op=true->OpE P all st.H H1 k o (look st.t) x)/\(FE.contains k=true->zo2 S st.H H1)/\(effF o.op=false->H1=st.H)/\(effF o.op=false->OpE P all st.H st.H k o (look st.t) x)/\
    (effF o.op=false->Fl.contains k=true->∀H',zo2 S st.H H'->OpE P all H' H' k o (look st.t) x)/\awpF P S Fl FE (k+1) rest (st.put o.dst x H1) K:=by
   simp only[awpF]at h
   cases he:effF o.op with
   |true=>
    rw[he]at h;simp only at h;split at h
    ·rename_i f args av aq
     split at h
     ·rename_i g cap hf
      obtain⟨x,H1,hc,ha,hk⟩:=h;exact⟨x,H1,fun _=>z7q I ae aq hf hc,ha,fun h=>(by cases h),fun h=>(by cases h),fun h=>(by cases h),hk⟩
     ·exact h.elim
    ·obtain⟨hp,ha,hk⟩:=h
     exact⟨_,_,fun _=>zvu I ae hp,ha,fun h=>(by cases h),fun h=>(by cases h),fun h=>(by cases h),hk⟩
   |false=>
    rw[he]at h;simp only at h;obtain⟨hp,hh,ar,hk⟩:=h;refine⟨_,st.H,fun h=>(by cases h),fun _ _ _=>rfl,fun _=>rfl,fun _=>?_,fun _ hf H' U=>?_,hk⟩
    ·have:=zvu (st:=st) I ae hp
     rwa[hh]at this
    ·obtain⟨q1,q2,q3⟩:=ar hf H' U
     have:=zvu (st:=st) I ae q1
     rwa[q2,q3]at this
  obtain⟨T,Hs,ad,e1,e2,e3,e4,e5⟩:=z0w hg rest (k+1) (st.put o.dst x H1) an ao ak
  have af:∀t,look (st.put o.dst x H1).t t=if(all[k]?).bind (·.dst)=some t then x else look st.t t:=fun t=>by rw[zoy,I];rfl
  have ai:Hs (k+1)=H1:=by rw[e1];cases o.dst<;>rfl
  refine⟨fun i=>if i=k then x else T i,fun i=>if i=k then st.H else Hs i,ad,by simp,fun i oi hi aj=>?_,e3,?_,fun t=>?_⟩
  ·by_cases aa:i=k
   ·subst aa
    rw[I]at aj;cases aj
    have l0:(fun t=>tvF all (fun j=>if j=i then x else T j) (look st.t) i t (i-i))=look st.t:=by funext t;rw[Wbf];rfl
    rw[l0]
    have n1:i+1≠i:=by omega
    refine⟨fun h=>?_,fun ha=>?_,fun h=>?_,fun h=>?_,fun h hf H' U=>?_⟩
    ·simp only[if_true,if_neg n1,ai];exact hE (by rw[<-ab];exact h)
    ·simp only[if_true,if_neg n1,ai];exact hA ha
    ·simp only[if_true,if_neg n1,ai];exact hQ (by rw[<-ab];exact h)
    ·simp only[if_true];exact hO (by rw[<-ab];exact h)
    ·simp only[if_true]at U|-;exact hF (by rw[<-ab];exact h) hf H' U
   ·have al:k+1<=i:=by omega
    have F:=e2 i oi al aj
    have lE:(fun t=>tvF all (fun j=>if j=k then x else T j) (look st.t) k t (i-k))=fun t=>tvF all T (look (st.put o.dst x H1).t) (k+1) t (i-(k+1)):=by
     funext t
     rw[show i-k=(i-(k+1))+1 by omega,zuk];simp only[if_true];rw[zul (l':=look (st.put o.dst x H1).t) (fun t=>(af t).symm)]
     exact zq0 fun m hm=>by rw[if_neg (by omega)]
    rw[lE]
    have n1:i+1≠k:=by omega
    refine⟨fun h=>?_,fun ha=>?_,fun h=>?_,fun h=>?_,fun h hf H' U=>?_⟩
    ·simp only[if_neg aa,if_neg n1];exact F.eff h
    ·simp only[if_neg aa,if_neg n1];exact F.ag ha
    ·simp only[if_neg aa,if_neg n1];exact F.quiet h
    ·simp only[if_neg aa];exact F.one h
    ·simp only[if_neg aa]at U|-;exact F.flo h hf H' U
  ·have:all.size≠k:=by have:=(Was.1 I).1;omega
   simp only[if_neg this];exact e4
  ·rw[e5]
   have al:=(Was.1 I).1
   rw[show all.size-k=(all.size-(k+1))+1 by omega,zuk];simp only[if_true];rw[zul (l':=look (st.put o.dst x H1).t) (fun t=>(af t).symm)];exact(zq0 fun m hm=>by rw[if_neg (by omega)]).symm
theorem yja {P:Program} {ctx:Env} {n:Nat} {ops:Array Oper} {T l0:Nat->V} {S Fl FE:List Nat} {Hs:Nat->List O} {Q:Exit->Act->World->Prop} (hd:z17 ops) (aV:floB ops=true) (aB:floL ops Fl FE=true) (aW:∀o∈ops.toList,∀d,o.dst=some d->d<n)
  (X:∀(i:Nat) (o:Oper),ops[i]? =some o->z9u P ops S Fl FE (fun t=>tv ops T l0 (fun _=>True) t i) T Hs i o)
  (hQ:∀(a:Act) (E:Env),n<=a.tmps.size->a.defers=[]->HRel E->E.H=Hs ops.size->Trans ctx E->(∀t,VRel E (tv ops T l0 (fun _=>True) t ops.size) (a.tmps.getD t undef))->Q .normal a E.w):
  ∀(fuel:Nat) (listed:Array Bool) (a:Act) (E:Env),unl listed<=fuel->listed.size=ops.size->(∀(j:Nat) (o:Oper),ops[j]? =some o->listed.getD j false=true->∀e∈o.after,Region.binds .any e=true->listed.getD e.on false=true)->
   n<=a.tmps.size->a.defers=[]->HRel E->(∃m,m<=ops.size/\E.H=Hs m/\(∀e,e<m->zcm ops e=true->listed.getD e false=true)/\∀e,m<=e->zcm ops e=true->listed.getD e false=false)->Trans ctx E->
   (∀t,VRel E (tv ops T l0 (fun j=>listed.getD j false=true) t ops.size) (a.tmps.getD t undef))->wpAny P .any ops Q fuel listed a E.w:=by
 obtain⟨hg,aC⟩:=zxr aV
 have an:∀{j t:Nat},(ops[j]?).bind (·.dst)=some t->∃oj,ops[j]? =some oj/\oj.dst=some t:=by
  intro j t h
  cases hj:ops[j]? with
  |none=>simp[hj]at h
  |some oj=>simp[hj]at h;exact⟨oj,rfl,h⟩
 have pre:∀{i j:Nat},((zi6 ops.toList).getD j []).contains i=true->Before ops i j:=fun{i j} h=>z0e (by simpa using h)
 have ab:∀{i j:Nat},Before ops i j->i<j:=by
  intro i j h
  have one:∀{i j:Nat},zhc ops i j=true->i<j:=fun{i j} ao=>by
   obtain⟨o,ho,e,he,hb,rfl⟩:=zfs ao;exact hd.back j o ho e he hb
  induction h with
  |one h=>exact one h
  |trans h h2 ih=>exact Nat.lt_trans ih (one h2)
 have const:∀{a b:Nat},a<=b->b<=ops.size->(∀e,a<=e->e<b->zcm ops e=false)->Hs b=Hs a:=by
  intro a b aq
  induction aq with
  |refl=>intro _ _;rfl
  | @step b aq ih=>
    intro hb hq
    have aw:b<ops.size:=hb
    have:=(X b ops[b] (by simp[aw])).quiet (hq b aq (Wbt b))
    rw[this];exact ih (WaS aw) fun e h1 h2=>hq e h1 (Wb5 h2)
 have aX:∀e,e<ops.size->zcm ops e=true->floE ops e=true->FE.contains e=true:=fun e he I hf=>by
  unfold floL at aB
  have:=Wak.1 aB e (WaC.2 he)
  rw[I,hf]at this;simpa using this
 have aY:∀i,i<ops.size->zcm ops i=false->floQ ops i=true->Fl.contains i=true:=fun i hi aZ hf=>by
  unfold floL at aB
  have:=Wak.1 aB i (WaC.2 hi)
  rw[aZ,hf]at this;simpa using this
 have aQ:∀{a b:Nat},a<=b->b<=ops.size->(∀e,a<=e->e<b->zcm ops e=true->floE ops e=true)->∀i∈S,(Hs b)[i]? =(Hs a)[i]? :=by
  intro a b aq
  induction aq with
  |refl=>intro _ _ i _;rfl
  | @step b aq ih=>
    intro hb hq i hi
    have aw:b<ops.size:=hb
    have hX:=X b ops[b] (by simp[aw])
    have:(Hs (b+1))[i]? =(Hs b)[i]? :=by
     cases I:zcm ops b with
     |true=>exact hX.ag (aX b aw I (hq b aq (Wbt b) I)) i hi
     |false=>rw[hX.quiet I]
    rw[this];exact ih (WaS aw) (fun e h1 h2=>hq e h1 (Wb5 h2)) i hi
 have fin:∀(listed:Array Bool) (a:Act) (E:Env),n<=a.tmps.size->a.defers=[]->HRel E->(∃m,m<=ops.size/\E.H=Hs m/\(∀e,e<m->zcm ops e=true->listed.getD e false=true)/\∀e,m<=e->zcm ops e=true->listed.getD e false=false)->Trans ctx E->
   (∀t,VRel E (tv ops T l0 (fun j=>listed.getD j false=true) t ops.size) (a.tmps.getD t undef))->(∀i,i<ops.size->listed.getD i false=true)->Q .normal a E.w:=by
  rintro listed a E hlen ax hE ⟨m,hm,hH,h1,h2⟩ tr ar au;refine hQ a E hlen ax hE ?_ tr fun t=>?_
  ·rw[hH]
   refine(const hm (Wae _) fun e he U=>?_).symm
   cases af:zcm ops e with
   |false=>rfl
   |true=>have:=h2 e he af;rw[au e U]at this;cases this
  ·have:=ar t
   rwa[zvp (fun j hj _=>au j hj)]at this
 have nil:∀(listed:Array Bool),listed.size=ops.size->Region.ready .any ops listed=[]->∀i,i<ops.size->listed.getD i false=true:=by
  intro listed hs hr j
  induction j using Nat.strongRecOn with
  |_ j a4=>
   intro hj
   cases hl:listed.getD j false with
   |true=>rfl
   |false=>
    have aK:j∈Region.ready .any ops listed:=by
     rw[mem_ready];refine⟨by simp only[Wah]at hl|-;rw[WaR (by rw[hs];exact hj)]at hl|-;simpa using hl,ops[j],by simp[hj],fun e he hb=>?_⟩
     have U:=hd.back j ops[j] (by simp[hj]) e he hb
     exact a4 e.on U (by omega)
    rw[hr]at aK;cases aK
 intro fuel
 induction fuel with
 |zero=>
  intro listed a E hu hs hc hlen ax hE hm tr ar
  have au:∀i,i<ops.size->listed.getD i false=true:=fun i hi=>zw6 (by omega) (by rw[hs];exact hi)
  refine⟨?_,fin listed a E hlen ax hE hm tr ar au⟩
  apply Wcg.2
  intro i hi;rw[mem_ready]at hi;obtain⟨h1,o,ho,_⟩:=hi
  have U:=(Was.1 ho).1
  have h2:=au i U
  simp only[Wah,WaR (show i<listed.size by rw[hs];exact U)]at h1 h2
  simp_all
 |succ fuel ih=>
  intro listed a E hu hs hc hlen ax hE hm tr ar;refine⟨fun hr=>fin listed a E hlen ax hE hm tr ar (nil listed hs hr),fun i hi=>?_⟩;rw[mem_ready]at hi;obtain⟨aL,o,ho,ai⟩:=hi
  have ae:i<ops.size:=(Was.1 ho).1
  have aj:i<listed.size:=by rw[hs];exact ae
  have ay:listed.getD i false=false:=by
   simp only[Wah,WaR aj]at aL|-;simpa using aL
  have aR:∀d,o.dst=some d->d<n:=aW o (Wad (by simpa using ho))
  have later:∀j,zhc ops i j=true->listed.getD j false=true->False:=by
   intro j ao hl;obtain⟨oj,ad,e,he,hb,rfl⟩:=zfs ao
   have:=hc j oj ad hl e he hb
   rw[ay]at this;cases this
  have aM:∀j,zhc ops j i=true->listed.getD j false=true:=by
   intro j ao;obtain⟨oi,aS,e,he,hb,rfl⟩:=zfs ao;rw[ho]at aS;cases aS;exact ai e he hb
  have aN:∀t,t∈zbv o->VRel E (tv ops T l0 (fun _=>True) t i) (a.tmps.getD t undef):=by
   intro t ht
   have h1:tv ops T l0 (fun j=>listed.getD j false=true) t ops.size=tv ops T l0 (fun j=>listed.getD j false=true) t i:=by
    refine zo6 (WaS ae) fun j aT hj aa hl=>?_;obtain⟨oj,ad,aa⟩:=an aa
    rcases WbF aT with U|rfl
    ·exact later j (hd.war i j o oj t U ho ad (.inr ⟨aa,.inl ht⟩)) hl
    ·rw[ay]at hl;cases hl
   have h2:tv ops T l0 (fun j=>listed.getD j false=true) t i=tv ops T l0 (fun _=>True) t i:=by
    refine zvp fun j hj aa=>?_;obtain⟨oj,ad,aa⟩:=an aa;exact aM j (hd.war j i oj o t hj ad ho (.inl ⟨aa,.inl ht⟩))
   have:=ar t
   rw[h1,h2]at this;exact this
  have next:∀v E',VRel E' (T i) v->(∃m,m<=ops.size/\E'.H=Hs m/\(∀e,e<m->zcm ops e=true->(listed.setIfInBounds i true).getD e false=true)/\∀e,m<=e->zcm ops e=true->(listed.setIfInBounds i true).getD e false=false)->
    HRel E'->Trans E E'->wpAny P .any ops Q fuel (listed.setIfInBounds i true) (a.put o.dst v) E'.w:=by
   intro v E' hv a5 hh al;refine ih (listed.setIfInBounds i true) (a.put o.dst v) E' (by have:=zz4 aj aL;omega) (by simp[hs]) ?_ ?_ ?_ hh a5 (tr.trans al) ?_
   ·intro j oj ad hl e he hb
    rw[zb3 aj]at hl|-;rw[WaE]at hl|-
    rcases hl with hl|hl
    ·have:i=j:=by simpa using hl
     subst this;rw[ho]at ad;cases ad;exact .inr (ai e he hb)
    ·exact .inr (hc j oj ad hl e he hb)
   ·cases az:o.dst<;>simpa [Act.put,az]using hlen
   ·cases az:o.dst<;>simpa [Act.put,az]using ax
   ·intro t
    by_cases aA:o.dst=some t
    ·have a6:=aR t aA
     have U:t<a.tmps.size:=War a6 hlen
     rw[aA,zny U,if_pos rfl]
     have h1:tv ops T l0 (fun j=>(listed.setIfInBounds i true).getD j false=true) t ops.size=tv ops T l0 (fun j=>(listed.setIfInBounds i true).getD j false=true) t (i+1):=by
      refine zo6 ae fun j aT hj aa hl=>?_;obtain⟨oj,ad,aa⟩:=an aa;rw[zb3 aj,WaE]at hl
      rcases hl with hl|hl
      ·have:i=j:=by simpa using hl
       omega
      ·exact later j (hd.war i j o oj t (by omega) ho ad (.inl ⟨aA,.inr (.inl aa)⟩)) hl
     rw[h1,tv,if_pos ⟨by rw[zb3 aj];simp,by simp[ho,aA]⟩];exact hv
    ·have h1:tv ops T l0 (fun j=>(listed.setIfInBounds i true).getD j false=true) t ops.size=tv ops T l0 (fun j=>listed.getD j false=true) t ops.size:=by
      refine z2c fun j hj aa=>?_;obtain⟨oj,ad,aa⟩:=an aa
      have aO:i≠j:=by rintro rfl;rw[ho]at ad;cases ad;exact aA aa
      rw[zb3 aj];simp[aO]
     rw[h1]
     have:(a.put o.dst v).tmps.getD t undef=a.tmps.getD t undef:=by
      cases az:o.dst with
      |none=>rfl
      |some d=>rw[zny (War (aR d az) hlen),if_neg (by rintro rfl;exact aA az)]
     rw[this];exact(ar t).trans al
  obtain⟨m,av,hH,h1,h2⟩:=hm
  have Xi:=X i o ho
  have ak:∀e,zcm ops e=true->e≠i->(listed.setIfInBounds i true).getD e false=listed.getD e false:=fun e _ aO=>by rw[zb3 aj];simp[Ne.symm aO]
  cases af:zcm ops i with
  |true=>
   have below:∀e,e<i->zcm ops e=true->listed.getD e false=true:=fun e he I=>(pre (aC e i he ae I af)).ready hc ho ai
   have aG:∀e,i<e->zcm ops e=true->listed.getD e false=false:=fun e he I=>by
    cases hl:listed.getD e false with
    |false=>rfl
    |true=>
     have aH:e<ops.size:=by
      unfold zcm at I
      cases aD:ops[e]? with
      |none=>rw[aD]at I;cases I
      |some oe=>exact(Was.1 aD).1
     have:=(pre (aC i e he aH af I)).listed hc hl
     rw[ay]at this;cases this
   have aP:E.H=Hs i:=by
    rw[hH]
    rcases WbM m i with h|h
    ·refine(const h (WaS ae) fun e he U=>?_).symm
     cases I:zcm ops e with
     |false=>rfl
     |true=>have:=h2 e he I;rw[below e U I]at this;cases this
    ·refine const h av fun e he U=>?_
     cases I:zcm ops e with
     |false=>rfl
     |true=>
      have:=h1 e U I
      rcases WbF he with hx|hx
      ·rw[aG e hx I]at this;cases this
      ·rw[<-hx,ay]at this;cases this
   refine Xi.eff af a E hE aP aN _ Q fun v E' hv aE hh al=>next v E' hv ⟨i+1,ae,aE,fun e he I=>?_,fun e he I=>?_⟩ hh al
   ·by_cases aU:e=i
    ·subst aU;rw[zb3 aj];simp
    ·rw[ak e I aU];exact below e (by omega) I
   ·rw[ak e I (by omega)];exact aG e (by omega) I
  |false=>
   have keep:∃m,m<=ops.size/\Hs m=Hs m/\(∀e,e<m->zcm ops e=true->(listed.setIfInBounds i true).getD e false=true)/\∀e,m<=e->zcm ops e=true->(listed.setIfInBounds i true).getD e false=false:=
    ⟨m,av,rfl,fun e he I=>by rw[ak e I (by rintro rfl;rw[af]at I;cases I)];exact h1 e he I,fun e he I=>by rw[ak e I (by rintro rfl;rw[af]at I;cases I)];exact h2 e he I⟩
   have aI:∀E':Env,E'.H=Hs m->∃m,m<=ops.size/\E'.H=Hs m/\(∀e,e<m->zcm ops e=true->(listed.setIfInBounds i true).getD e false=true)/\∀e,m<=e->zcm ops e=true->(listed.setIfInBounds i true).getD e false=false:=fun E' a7=>
    ⟨m,av,a7,fun e he I=>by rw[ak e I (by rintro rfl;rw[af]at I;cases I)];exact h1 e he I,fun e he I=>by rw[ak e I (by rintro rfl;rw[af]at I;cases I)];exact h2 e he I⟩
   cases aJ:floQ ops i with
   |true=>
    have aF:∀e,e<ops.size->zcm ops e=true->¬Before ops e i->¬Before ops i e->floE ops e=true:=by
     intro e aH I n1 n2;unfold floE;rw[Wbv];refine⟨i,WaC.2 ae,?_⟩
     have c1:((zi6 ops.toList).getD i []).contains e=false:=by
      cases hx:((zi6 ops.toList).getD i []).contains e with
      |false=>rfl
      |true=>exact(n1 (pre hx)).elim
     have c2:((zi6 ops.toList).getD e []).contains i=false:=by
      cases hx:((zi6 ops.toList).getD e []).contains i with
      |false=>rfl
      |true=>exact(n2 (pre hx)).elim
     simp only[af,c1,c2,WbN,Bool.and_self]
    have a8:zo2 S (Hs i) (Hs m):=by
     intro q hq
     rcases WbM m i with h|h
     ·refine(aQ h (WaS ae) (fun e he U I=>aF e (by omega) I (fun hb=>?_) (fun hb=>?_)) q hq).symm
      ·have:=hb.ready hc ho ai;rw[h2 e he I]at this;cases this
      ·have:=ab hb;omega
     ·refine aQ h av (fun e he U I=>aF e (by omega) I (fun hb=>?_) (fun hb=>?_)) q hq
      ·have:=ab hb;omega
      ·have:=hb.listed hc (h1 e U I);rw[ay]at this;cases this
    exact Xi.flo af (aY i ae af aJ) (Hs m) a8 a E hE hH aN _ Q fun v E' hv aE hh al=>next v E' hv (aI E' aE) hh al
   |false=>
    have comp:∀e,zcm ops e=true->Before ops e i\/Before ops i e:=by
     intro e I
     have aH:e<ops.size:=by
      unfold zcm at I
      cases aD:ops[e]? with
      |none=>rw[aD]at I;cases I
      |some oe=>exact(Was.1 aD).1
     unfold floQ at aJ;rw[Wb6]at aJ
     have:=aJ e (WaC.2 aH)
     rw[I]at this
     by_cases hx:((zi6 ops.toList).getD i []).contains e=true
     ·exact .inl (pre hx)
     ·refine .inr (pre ?_)
      cases hy:((zi6 ops.toList).getD e []).contains i with
      |true=>rfl
      |false=>
       exfalso;apply this;simp only[Wb7]at hx;simp only[hx,hy,WbN,Bool.and_self]
    have aP:Hs m=Hs i:=by
     rcases WbM m i with h|h
     ·refine(const h (WaS ae) fun e he U=>?_).symm
      cases I:zcm ops e with
      |false=>rfl
      |true=>
       have h3:=h2 e he I
       rcases comp e I with hb|hb
       ·have:=hb.ready hc ho ai;rw[h3]at this;cases this
       ·have:=ab hb;omega
     ·refine const h av fun e he U=>?_
      cases I:zcm ops e with
      |false=>rfl
      |true=>
       have h3:=h1 e U I
       rcases comp e I with hb|hb
       ·have:=ab hb;omega
       ·have:=hb.listed hc h3;rw[ay]at this;cases this
    have one:=Xi.one af
    rw[<-aP]at one
    exact one a E hE hH aN _ Q fun v E' hv aE hh al=>next v E' hv (aI E' aE) hh al
theorem ym1 {P:Program} {ctx:Env} {n:Cf} {id:Nat} {ops:Array Oper} {st:St} {a:Act} {E:Env} {K:St->Prop} {S Fl FE:List Nat} {Q:Exit->Act->World->Prop} (hm:P.follows .mixedOrders=true) (hd:zwc ops=true) (hf:floB ops=true) (aa:floL ops Fl FE=true)
  (ab:∀o∈ops.toList,∀d,o.dst=some d->d<n.n) (hw:awpF P S Fl FE 0 ops.toList st K) (h:SR ctx n st a E) (hQ:∀st' U E',K st'->SR ctx n st' U E'->Q .normal U E'.w):
  (Code.region id ops true).wp P Q a E.w:=by
 have hD:=zrt hd
 obtain⟨T,Hs,ad,e1,e2,e3,e4,e5⟩:=z0w (zxr hf).1 ops.toList 0 st (fun m=>by simp) (by simp) hw;refine wp_region_any hm ?_
 obtain⟨t0,ae⟩:=zi9 h.rel {E.w with drawn:=E.w.drawn+1} (Wae _) rfl rfl rfl (fun _ _=>rfl)
 have X:∀(i:Nat) (o:Oper),ops[i]? =some o->z9u P ops S Fl FE (fun t=>tv ops T (look st.t) (fun _=>True) t i) T Hs i o:=fun i o ho=>by
  have:=e2 i o (Waf _) ho
  have l:(fun t=>tvF ops T (look st.t) 0 t (i-0))=fun t=>tv ops T (look st.t) (fun _=>True) t i:=by funext t;rw[WaY,zvq]
  rwa[l]at this
 have I:∀j,(Array.replicate ops.size false).getD j false=true->False:=by
  intro j hl;simp only[Wah,Wch]at hl;split at hl<;>simp at hl
 refine yja (ctx:=ctx) (n:=n.n) hD hf aa ab X (fun U E' hl af ai aj ak al=>hQ ad U E' e3 ⟨hl,h.hm,af,fun t=>?_,aj.trans e4.symm,ai,ak⟩) ops.size (Array.replicate ops.size false) a _ ?_ (by simp) ?_ h.len h.defers ae ⟨0,Waf _,?_,fun e he=>by omega,fun e _ _=>?_⟩ (h.tr.trans t0) fun t=>?_
 ·rw[e5 t,WaY,zvq];exact al t
 ·simp[unl]
  exact WaF (List.countP_le_length) (by simp)
 ·exact fun j o _ hl=>(I j hl).elim
 ·rw[e1,<-h.H]
 ·cases hx:(Array.replicate ops.size false).getD e false with
  |false=>rfl
  |true=>exact(I e hx).elim
 ·have:tv ops T (look st.t) (fun j=>(Array.replicate ops.size false).getD j false=true) t ops.size=look st.t t:=by
   rw[zo6 (i:=0) (Waf _) (fun j _ _ _ hl=>(I j hl).elim)];rfl
  rw[this];exact(h.tm t).trans t0
end Go.Lz

end
section
namespace Go.Lz
theorem HRel.lt_objs {E:Env} (hE:HRel E):∀o∈E.H,o.lt E.H.length=true:=by
 intro o ho;obtain⟨i,hi,aa⟩:=WaV.1 ho
 have I:=hE.obj i o (by rw[Wac hi,aa])
 cases o with
 |cells cur sz rows=>
  obtain⟨h3,h4,h5,U⟩:=I
  show zcn _ rows=true
  rw[ltRows_iff];intro r hr;rw[ltRow_iff];intro c hc;obtain⟨q,hq,ab⟩:=WaV.1 hr;obtain⟨j,hj,ad⟩:=WaV.1 hc;obtain⟨arr,ty,_,_,U⟩:=U (by omega);obtain⟨v,_,hv⟩:=U q j c (at2_some.2 ⟨r,by rw[Wac hq,ab],by rw[Wac hj,ad]⟩);exact hv.lt_len
 |map es=>
  obtain⟨af,clock,h1,h2,h3⟩:=I;simp only[O.lt,Wak,Wan];intro p hp;obtain⟨q,hq,ae⟩:=WaV.1 hp;obtain⟨e,_,hk,hx⟩:=h3 q p.1 p.2 (by rw[Wac hq,ae]);exact⟨hk.lt_len,hx.lt_len⟩
 |dead=>rfl
theorem ylm {E:Env} (hE:HRel E):∀(M:Nat),∃E',E'.w=E.w/\E'.H=E.H++List.replicate M (.cells 0 0 [])/\HRel E'/\Trans E E'
 |0=>⟨E,rfl,by simp,hE,Trans.refl E⟩
 |M+1=>by
  obtain⟨E1,h1,h2,h3,h4⟩:=ylm hE M;obtain⟨t,I,_⟩:=zzv h3 0 _ rfl
  refine⟨⟨E1.w,E1.Fr,fun i=>if i=E1.H.length then⟨0,0,0⟩else E1.bd i,E1.H++[.cells 0 0 []]⟩,h1,?_,I,h4.trans t⟩
  show E1.H++[_]=_
  rw[h2,Wbl,List.replicate_succ']
theorem z0s {P:Program} {all:Array Oper} {t:List (Nat×V)}:∀{L:List Nat},zym P all t L->∀i∈L,z4p P all t i
 |[],_,i,hi=>by cases hi
 |x::L,h,i,hi=>by
  rcases WaB.1 hi with rfl|hi
  ·exact h.1
  ·exact z0s h.2 i hi
theorem zvz {ops:Array Oper} {k i:Nat} (h:i∈zdt ops k):i<k:=by
 unfold zdt at h;simpa using(List.mem_filter.1 h).1
theorem z4n {ops:Array Oper} {k:Nat} (h:z4o ops k=true):∀j,k<=j->j<ops.size->∀i,i<j->i∉zdt ops k->Before ops i j:=by
 intro j U I i hi hn;unfold z4o at h;rw[Wan,Wak]at h
 have:=h.1 j (WaC.2 I)
 simp only[WaE,decide_eq_true_eq]at this
 rcases this with h1|h1
 ·omega
 ·rw[Wak]at h1
  have h2:=h1 i (WaC.2 hi)
  rw[WaE]at h2
  rcases h2 with h2|h2
  ·exact(hn (by simpa using h2)).elim
  ·refine zxh ops ops.toList [] 0 rfl (fun m=>by simp) (fun j i hi=>by simp at hi) j i ?_
   simpa [zi6]using h2
theorem zxj {ops:Array Oper} {k i:Nat} (h:z4o ops k=true) (hi:i∈zdt ops k):∃o d,ops[i]? =some o/\o.guard=none/\effO o.op=false/\o.dst=some d/\
  ∀j oj,ops[j]? =some oj->(j≠i->oj.dst≠some d)/\(i<=j->∀U,oj.dst=some U->U∉zbv o):=by
 unfold z4o at h;rw[Wan,Wak,Wak]at h
 have:=h.2 i hi
 unfold ygb at this;split at this
 ·cases this
 ·rename_i o ho
  simp only[Wan,Wak,WaC,Option.isNone_iff_eq_none,Wa4]at this;obtain⟨⟨⟨h1,h2⟩,h3⟩,h4⟩:=this;obtain⟨d,hd⟩:=Wb3.1 h3;refine⟨o,d,ho,h1,h2,hd,fun j oj hj=>?_⟩
  have h5:=h4 j (Was.1 hj).1
  rw[hj]at h5;simp only[Wan,WaE,decide_eq_true_eq,Wa4,beq_eq_false_iff_ne]at h5;refine⟨fun aa he=>?_,fun hle U ab hm=>?_⟩
  ·rcases h5.1 with I|I
   ·exact aa I
   ·exact I (by rw[he,hd])
  ·rcases h5.2 with I|I
   ·omega
   ·unfold yf7 at I
    rw[ab]at I;simp[hm]at I
def SimD (D:List Nat) (s st:St):Prop:=s.H=st.H/\∀t,look s.t t=if t∈D then .un else look st.t t
theorem SimD.put {D:List Nat} {s st:St} (h:SimD D s st) {d:Option Nat} {v:V} {H:List O} (I:∀x,d=some x->x∉D):SimD D (s.put d v H) (st.put d v H):=by
 refine⟨by cases d<;>rfl,fun t=>?_⟩;rw[zoy,zoy]
 by_cases e:d=some t
 ·rw[if_pos e,if_pos e,if_neg (I t e)]
 ·rw[if_neg e,if_neg e];exact h.2 t
theorem z4u {all:Array Oper} {o:Oper} {D:List Nat} {s st:St} {X Y:St->Prop} (h:SimD D s st) (hD:∀g w d,o.guard=some (g,w)->(all[g]?).bind (·.dst)=some d->d∉D) (I:guarded2 all o st X Y):
  guarded2 all o s (fun s'=>∃st',SimD D s' st'/\(∀t,look st'.t t=look st.t t)/\X st') (fun s'=>∃st',SimD D s' st'/\(∀t,look st'.t t=look st.t t)/\Y st'):=by
 unfold guarded2 at I|-
 cases h0:o.guard with
 |none=>rw[h0]at I;exact⟨st,h,fun _=>rfl,I⟩
 |some jw=>
  obtain⟨j,want⟩:=jw;rw[h0]at I
  cases hd:(all[j]?).bind (·.dst)with
  |none=>simp only[hd]at I
  |some d=>
   simp only[hd]at I|-
   have U:=hD j want d h0 hd
   have hl:look s.t d=look st.t d:=by rw[h.2,if_neg U]
   rw[hl]
   cases hv:look st.t d with
   |one c=>
    rw[hv]at I
    cases c with
    |bool b=>
     have key:∀w:Bool,b=w->SimD D ⟨(d,.one (.bool w))::s.t,s.H⟩ ⟨(d,.one (.bool w))::st.t,st.H⟩/\∀t,look ((d,V.one (.bool w))::st.t) t=look st.t t:=fun w e=>by
      subst e;refine⟨⟨h.1,fun t=>?_⟩,zwy hv⟩;simp only[zfb]
      by_cases e:d=t
      ·subst e;rw[if_pos rfl,if_pos rfl,if_neg U]
      ·rw[if_neg e,if_neg e];exact h.2 t
     exact⟨fun e=>⟨_,(key want e).1,(key want e).2,I.1 e⟩,fun e=>⟨_,(key (!want) e).1,(key (!want) e).2,I.2 e⟩⟩
    |_=>exact I.elim
   |agg c=>simp only[hv]at I
   |un=>simp only[hv]at I
   |tup l=>
    cases l with
    |nil=>rw[hv]at I;exact⟨st,h,fun _=>rfl,I⟩
    |cons x l=>simp only[hv]at I
theorem yde {P:Program} {o:Oper} {D:List Nat} {s st:St} {K:St->Prop} (h:SimD D s st) (hD:∀t∈zbv o,t∉D) (hw:awpOp P o st K):awpOp P o s fun s'=>∃v H',s'=s.put o.dst v H'/\K (st.put o.dst v H'):=by
 have I:∀x∈o.op.operands,s.ρ x=st.ρ x:=by
  intro x hx
  cases x with
  |tmp t=>
   have ht:t∈zbv o:=by simp only[zbv,Wbu];exact⟨.tmp t,by simpa using hx,rfl⟩
   show look s.t t=look st.t t
   rw[h.2,if_neg (hD t ht)]
  |_=>rfl
 unfold awpOp at hw|-;split at hw
 ·rename_i f args aa U
  rw[U]at I
  have e1:=I f (by simp[Op.operands,Call.operands])
  have e2:args.toList.map s.ρ=args.toList.map st.ρ:=WbB fun x hx=>I x (by simp only[Op.operands,Call.operands];exact Array.mem_append.2 (.inr (by simpa using hx)))
  simp only[e1,e2,h.1];split at hw
  ·exact hw.mono fun v H' hk=>⟨v,H',rfl,hk⟩
  ·exact hw.elim
 ·rename_i U
  have e:=zz9 (P:=P) (pos:=o.pos) (op:=o.op) (H:=st.H) (ρ:=s.ρ) (ρ':=st.ρ) I
  rw[h.1,e];exact⟨hw.1,fun hf=>⟨_,_,rfl,hw.2 hf⟩⟩
def dueL (ops:Array Oper) (L:List Nat) (listed:Array Bool):List Nat:=(L.filter fun i=> !listed.getD i false).filterMap fun i=>(ops[i]?).bind (·.dst)
theorem mem_due {ops:Array Oper} {L:List Nat} {listed:Array Bool} {t:Nat}:t∈dueL ops L listed↔∃i,i∈L/\listed.getD i false=false/\(ops[i]?).bind (·.dst)=some t:=by
 unfold dueL;simp only[Wbu,List.mem_filter,Wa4];constructor
 ·rintro⟨i,⟨h1,h2⟩,h3⟩;exact⟨i,h1,h2,h3⟩
 ·rintro⟨i,h1,h2,h3⟩;exact⟨i,⟨h1,h2⟩,h3⟩
theorem z2y (t:List (Nat×V)):∀(D:List Nat) (x:Nat),look (D.map (fun d=>(d,V.un))++t) x=if x∈D then .un else look t x
 |[],x=>by simp
 |d::D,x=>by
  rw[Wbg,Wbh,zfb,z2y t D x]
  by_cases e:d=x
  ·subst e;simp
  ·rw[if_neg e]
   have:(x∈d::D)↔x∈D:=by rw[WaB];exact⟨fun h=>h.resolve_left fun h2=>e h2.symm,.inr⟩
   by_cases hm:x∈D
   ·rw[if_pos hm,if_pos (this.2 hm)]
   ·rw[if_neg hm,if_neg (fun h=>hm (this.1 h))]
theorem z98 {P:Program} {ctx:Env} {n:Cf} {ops:Array Oper} {K:St->Prop} {Q:Exit->Act->World->Prop} {k0:Nat} {t0:List (Nat×V)} (hd:z17 ops) (aX:∀o∈ops.toList,∀d,o.dst=some d->d<n.n)
  (hL:ykq P ops k0 t0) (hQ:∀st' a' E',K st'->SR ctx n st' a' E'->Q .normal a' E'.w):
  ∀(fuel j:Nat) (listed:Array Bool) (a:Act) (E:Env) (st s:St),k0<=j->j<=ops.size->listed.size=ops.size->unl listed<=fuel->
   (∀(j:Nat) (o:Oper),ops[j]? =some o->listed.getD j false=true->∀e∈o.after,Region.binds .any e=true->listed.getD e.on false=true)->
   (∀i,listed.getD i false=true->i<j)->(∀i,i<j->i∉zdt ops k0->listed.getD i false=true)->
   (∀i,i∈zdt ops k0->listed.getD i false=false->∀o,ops[i]? =some o->∀t,t∈zbv o\/o.dst=some t->look st.t t=look t0 t)->
   SimD (dueL ops (zdt ops k0) listed) s st->SR ctx n s a E->awpOps P ops (ops.toList.drop j) st K->wpAny P .any ops Q fuel listed a E.w:=by
 obtain⟨hB,hA⟩:=hL
 have fin:∀(j:Nat) (listed:Array Bool) (a:Act) (E:Env) (st s:St),(∀i,listed.getD i false=true->i<j)->(∀i,i<ops.size->listed.getD i false=true)->SimD (dueL ops (zdt ops k0) listed) s st->SR ctx n s a E->awpOps P ops (ops.toList.drop j) st K->Q .normal a E.w:=by
  intro j listed a E st s hl af hs hS hw
  have:ops.toList.drop j=[]:=by
   refine Wbx ?_;rw[Wbb]
   rcases WaG j ops.size with h|h
   ·have:=hl j (af j h);omega
   ·exact h
  rw[this]at hw;refine hQ st a E hw ⟨hS.len,hS.hm,hS.defers,fun t=>?_,hS.H.trans hs.1,hS.rel,hS.tr⟩
  have:=hS.tm t
  rw[hs.2,if_neg]at this
  ·exact this
  ·intro hm
   obtain⟨i,h1,h2,h3⟩:=mem_due.1 hm
   cases hi:ops[i]? with
   |none=>simp[hi]at h3
   |some o=>rw[af i (Was.1 hi).1]at h2;cases h2
 have nil:∀(listed:Array Bool),listed.size=ops.size->Region.ready .any ops listed=[]->∀i,i<ops.size->listed.getD i false=true:=by
  intro listed hs hr j
  induction j using Nat.strongRecOn with
  |_ j aY=>
   intro hj
   cases hl:listed.getD j false with
   |true=>rfl
   |false=>
    have ay:j∈Region.ready .any ops listed:=by
     rw[mem_ready];refine⟨by simp only[Wah]at hl|-;rw[WaR (by rw[hs];exact hj)]at hl|-;simpa using hl,ops[j],by simp[hj],fun e he hb=>?_⟩
     have au:=hd.back j ops[j] (by simp[hj]) e he hb
     exact aY e.on au (by omega)
    rw[hr]at ay;cases ay
 intro fuel
 induction fuel with
 |zero=>
  intro j listed a E st s hk hj hs hu hc hl hn hi aa hS hw
  have af:∀i,i<ops.size->listed.getD i false=true:=fun i hi=>zw6 (by omega) (by rw[hs];exact hi)
  refine⟨?_,fin j listed a E st s hl af aa hS hw⟩
  apply Wcg.2
  intro i hi;rw[mem_ready]at hi;obtain⟨h1,o,ho,_⟩:=hi
  have au:=(Was.1 ho).1
  have h2:=af i au
  simp only[Wah,WaR (show i<listed.size by rw[hs];exact au)]at h1 h2
  simp_all
 |succ fuel ih=>
  intro j listed a E st s hk hj hs hu hc hl hn av aa hS hw;refine⟨fun hr=>fin j listed a E st s hl (nil listed hs hr) aa hS hw,fun i hi=>?_⟩;rw[mem_ready]at hi;obtain⟨az,o,ho,ai⟩:=hi
  have ar:i<ops.size:=(Was.1 ho).1
  have I:i<listed.size:=by rw[hs];exact ar
  have aw:listed.getD i false=false:=by
   simp only[Wah,WaR I]at az|-;simpa using az
  have aA:∀q,zhc ops q i=true->listed.getD q false=true:=by
   intro q aV;obtain⟨oi,aO,e,he,hb,rfl⟩:=zfs aV;rw[ho]at aO;cases aO;exact ai e he hb
  have aB:unl (listed.setIfInBounds i true)<=fuel:=by have:=zz4 I az;omega
  have ax:=aX o (Wad (by simpa using ho))
  have aC:∀(j:Nat) (o:Oper),ops[j]? =some o->(listed.setIfInBounds i true).getD j false=true->∀e∈o.after,Region.binds .any e=true->(listed.setIfInBounds i true).getD e.on false=true:=by
   intro q oq U aj e he hb;rw[zb3 I]at aj|-;rw[WaE]at aj|-
   rcases aj with aj|aj
   ·have:i=q:=by simpa using aj
    subst this;rw[ho]at U;cases U;exact .inr (ai e he hb)
   ·exact .inr (hc q oq U aj e he hb)
  have ae:∀t,(t∈zbv o\/(∃g w,o.guard=some (g,w)/\(ops[g]?).bind (·.dst)=some t)\/(i∉zdt ops k0/\o.dst=some t))->t∉dueL ops (zdt ops k0) listed:=by
   intro t ht hm;obtain⟨q,q1,q2,q3⟩:=mem_due.1 hm;obtain⟨oq,d,U,qg,qe,qd,qs⟩:=zxj hB q1;rw[U]at q3;simp only[Waa]at q3;rw[qd]at q3;obtain rfl:=Wab q3
   rcases Wb8 q i with ak|ak|ak
   ·have:zhc ops q i=true:=by
     refine hd.war q i oq o d ak U ho (.inl ⟨qd,?_⟩)
     rcases ht with ht|ht|ht
     ·exact .inl ht
     ·exact .inr (.inr ht)
     ·exact .inr (.inl ht.2)
    rw[aA q this]at q2;cases q2
   ·subst ak
    rw[ho]at U;cases U
    rcases ht with ht|⟨g,w,ht,_⟩|ht
    ·exact(qs q o ho).2 (Wae _) d qd ht
    ·rw[qg]at ht;cases ht
    ·exact ht.1 q1
   ·have bb:=zvz q1
    have aP:i∈zdt ops k0:=by
     apply Wce
     intro aZ
     have:=hn i (by omega) aZ
     rw[aw]at this;cases this
    obtain⟨o',d',ao,ig,ie,al,is⟩:=zxj hB aP;rw[ho]at ao;cases ao
    rcases ht with ht|⟨g,w,ht,_⟩|ht
    ·exact(is q oq U).2 (by omega) d qd ht
    ·rw[ig]at ht;cases ht
    ·exact ht.1 aP
  by_cases ad:i∈zdt ops k0
  ·obtain⟨o',d,ao,ig,ie,al,is⟩:=zxj hB ad
   rw[ho]at ao;cases ao
   have aD:=z0s hA i ad
   unfold z4p at aD;rw[ho]at aD;obtain⟨p1,p2,p3⟩:=aD E.H
   have aW:∀t,t∈zbv o->VRel E (look t0 t) (a.tmps.getD t undef):=fun t ht=>by
    rw[<-av i ad aw o ho t (.inl ht)]
    have:=hS.tm t
    rwa[aa.2,if_neg (ae t (.inl ht))]at this
   have a4:WpV P o a E (zdu P o.pos o.op (St.ρ ⟨t0,E.H⟩) E.H):=zzu (l:=look t0) hS.rel aW p1
   obtain⟨_,a5⟩:=a4;simp only[wpOp,ho,Region.wanted,ig,if_true]
   left
   refine a5 _ Q fun v E' hv aQ hh tr=>?_;rw[p2]at aQ;rw[p3,al]at hv;simp only[WaI]at hv
   have bc:=ax d al
   refine ih j _ (a.put o.dst v) E' st (s.put o.dst (look t0 d) E.H) hk hj (by simpa using hs) aB aC (fun q hq=>?_) (fun q hq aE=>?_) (fun q hq aq=>?_) ?_ (hS.put ax hv aQ hh tr) hw
   ·rw[zb3 I,WaE]at hq
    rcases hq with hq|hq
    ·have:i=q:=by simpa using hq
     subst this
     have:=zvz ad;omega
    ·exact hl q hq
   ·rw[zb3 I,hn q hq aE,Bool.or_true]
   ·refine av q hq ?_
    rw[zb3 I,Wbw]at aq;exact aq.2
   ·refine⟨by rw[al];exact hS.H.trans aa.1,fun t=>?_⟩
    rw[zoy,al]
    by_cases e:d=t
    ·subst e
     have a6:d∉dueL ops (zdt ops k0) (listed.setIfInBounds i true):=by
      intro hm;obtain⟨q,q1,q2,q3⟩:=mem_due.1 hm;rw[zb3 I,Wbw]at q2
      have ak:q≠i:=fun e=>by subst e;simp at q2
      cases U:ops[q]? with
      |none=>simp[U]at q3
      |some oq=>simp[U]at q3;exact(is q oq U).1 ak q3
     rw[if_pos rfl,if_neg a6];exact(av i ad aw o ho d (.inr al)).symm
    ·rw[if_neg (by simpa using e),aa.2]
     have:t∈dueL ops (zdt ops k0) (listed.setIfInBounds i true)↔t∈dueL ops (zdt ops k0) listed:=by
      rw[mem_due,mem_due];constructor
      ·rintro⟨q,q1,q2,q3⟩
       rw[zb3 I,Wbw]at q2;exact⟨q,q1,q2.2,q3⟩
      ·rintro⟨q,q1,q2,q3⟩
       refine⟨q,q1,?_,q3⟩;rw[zb3 I,q2,Bool.or_false,decide_eq_false_iff_not];rintro rfl;rw[ho,Waa,al]at q3;exact e (Wab q3)
     by_cases hm:t∈dueL ops (zdt ops k0) listed
     ·rw[if_pos hm,if_pos (this.2 hm)]
     ·rw[if_neg hm,if_neg (fun h=>hm (this.1 h))]
  ·have a7:j<=i:=by
    rcases WaG i j with h|h
    ·have:=hn i h ad;rw[aw]at this;cases this
    ·exact h
   have a8:i=j:=by
    rcases WbF a7 with h|h
    ·have a9:j∉zdt ops k0:=fun hm=>by have:=zvz hm;omega
     have:=(z4n hB i (by omega) ar j h a9).ready hc ho ai
     have:=hl j this;omega
    ·exact h.symm
   subst a8
   have aM:ops.toList.drop i=o::ops.toList.drop (i+1):=by
    rw[Wa3 (by simpa using ar)]
    congr 1
    have:=Was.1 ho
    obtain⟨h1,h2⟩:=this;simpa using h2
   rw[aM]at hw;simp only[awpOps]at hw
   have aF:dueL ops (zdt ops k0) (listed.setIfInBounds i true)=dueL ops (zdt ops k0) listed:=by
    unfold dueL
    congr 1
    refine List.filter_congr fun q hq=>?_;rw[zb3 I]
    have:i≠q:=fun e=>ad (e▸hq)
    simp[this]
   have aR:∀q,(listed.setIfInBounds i true).getD q false=true->q<i+1:=by
    intro q hq;rw[zb3 I,WaE,decide_eq_true_eq]at hq
    rcases hq with hq|hq
    ·omega
    ·have:=hl q hq;omega
   have aS:∀q,q<i+1->q∉zdt ops k0->(listed.setIfInBounds i true).getD q false=true:=by
    intro q hq aE;rw[zb3 I,WaE,decide_eq_true_eq]
    by_cases e:i=q
    ·exact .inl e
    ·exact .inr (hn q (by omega) aE)
   have aG:∀(aH:St),(∀t,o.dst≠some t->look aH.t t=look st.t t)->∀q,q∈zdt ops k0->(listed.setIfInBounds i true).getD q false=false->∀oq,ops[q]? =some oq->∀t,t∈zbv oq\/oq.dst=some t->look aH.t t=look t0 t:=by
    intro aH h2 q hq aq oq U t ht;rw[zb3 I,Wbw]at aq;rw[h2 t ?_]
    ·exact av q hq aq.2 oq U t ht
    ·intro aT
     obtain⟨bf,d,aI,qg,qe,qd,qs⟩:=zxj hB hq;rw[U]at aI;cases aI
     have ak:q<i:=by have:=zvz hq;omega
     rcases ht with ht|ht
     ·exact(qs i o ho).2 (by omega) t aT ht
     ·exact(qs i o ho).1 (by omega) (by rw[aT,<-ht,qd])
   have aJ:∀x,o.dst=some x->x∉dueL ops (zdt ops k0) listed:=fun x hx=>ae x (.inr (.inr ⟨ad,hx⟩))
   obtain⟨s1,aU,aN⟩:=zs8 hS (z4u aa (fun g w d h1 h2=>ae d (.inr (.inl ⟨g,w,h1,h2⟩))) hw);simp only[wpOp,ho]
   rcases aN with⟨an,aK,ab,aL,hx⟩|⟨an,aK,ab,aL,hx⟩
   ·simp only[an,if_true]
    left
    refine zz0 aU ax (yde ab (fun t ht=>ae t (.inl ht)) hx) Q _ fun s2 a2 E2 hK ba=>?_;obtain⟨v,H',rfl,hK⟩:=hK;refine ih (i+1) _ a2 E2 _ _ (by omega) (by omega) (by simpa using hs) aB aC aR aS (aG _ fun t ht=>?_) ?_ ba hK
    ·rw[zoy,if_neg ht,aL]
    ·rw[aF];exact ab.put aJ
   ·simp only[an,WaD,if_false]
    refine ih (i+1) _ _ E (aK.put o.dst (.tup []) aK.H) (s1.put o.dst (.tup []) s1.H) (by omega) (by omega) (by simpa using hs) aB aC aR aS (aG _ fun t ht=>by rw[zoy,if_neg ht,aL]) ?_ (aU.skip2 ax) hx;rw[aF,ab.1];exact ab.put aJ
theorem z0z {P:Program} {ctx:Env} {n:Cf} {ops:Array Oper} {st:St} {a:Act} {E:Env} {K:St->Prop} {Q:Exit->Act->World->Prop} (hm:P.follows .mixedOrders=true) (hd:zwc ops=true)
  (af:∀o∈ops.toList,∀d,o.dst=some d->d<n.n) (hw:awpDraw P ops ops.toList [] st K) (h:SR ctx n st a E) (hQ:∀st' U E',K st'->SR ctx n st' U E'->Q .normal U E'.w):
  wpAny P .any ops Q ops.size (Array.replicate ops.size false) a {E.w with drawn:=E.w.drawn+1}:=by
 obtain⟨T,role,z,f,kt,I,N',g1,g2,g3,g4,g5,g6,g7,X,g9⟩:=zzf (P:=P) (all:=ops) (n:=n.n) af ops.toList 0 [] st (fun m=>by simp) (by simp) ⟨a,E,h.len,h.rel,h.H,fun t _=>h.tm t⟩ hw
 obtain⟨t0,aq⟩:=zi9 h.rel {E.w with drawn:=E.w.drawn+1} (Wae _) rfl rfl rfl (fun _ _=>rfl)
 obtain⟨E1,w1,H1,ar,t1⟩:=ylm aq N'.length
 have au:∀o∈st.H,o.lt st.H.length=true:=by have:=h.rel.lt_objs;rwa[h.H]at this
 have aj:I.H++N'.map Fo.o=st.H++(List.range N'.length).map (gS z f (zom []) role (fun i=>0<=i/\i<kt)):=by
  rw[g5]
  congr 1
  apply WbA
  intro p;simp only[Wao]
  rcases WaG p N'.length with hp|hp
  ·have e:=g7 p N'[p] (by simp[hp])
   simp[hp,e]
  ·rw[WbI hp,WbI (by simpa using hp)];rfl
 have main:∀late:Nat->Prop,(∀i j,kt<=j->j<ops.size->i<kt->¬late i->Before ops i j)->(∀i,late i->role i=none)->
   (∀(fuel:Nat) (listed:Array Bool) (U:Act) (E':Env),unl listed<=fuel->listed.size=ops.size->(∀(j:Nat) (o:Oper),ops[j]? =some o->listed.getD j false=true->∀e∈o.after,Region.binds .any e=true->listed.getD e.on false=true)->
     (∀i,listed.getD i false=true->i<kt)->(∀i,i<kt->¬late i->listed.getD i false=true)->n.n<=U.tmps.size->U.defers=[]->HRel E'->
     E'.H=I.H++N'.map Fo.o->Trans ctx E'->(∀t,(∀j,j<kt->late j->listed.getD j false=false->(ops[j]?).bind (·.dst)≠some t)->VRel E' (look I.t t) (U.tmps.getD t undef))->wpAny P .any ops Q fuel listed U E'.w)->
   wpAny P .any ops Q ops.size (Array.replicate ops.size false) a E1.w:=fun late ao ak hq=>by
  refine yfk (P:=P) (ctx:=ctx) (n:=n.n) (ops:=ops) (T:=T) (l0:=look st.t) (H:=st.H) (M:=N'.length) (kt:=kt) (z:=z) (f:=f) (role:=role) (zrt hd) af au X g2 late ao ak
   (fun fuel listed U E' hu ad ai aa ab h1 h2 h3 h4 h5 h6=>hq fuel listed U E' hu ad ai aa ab h1 h2 h3 (by rw[h4,aj]) h5 fun t ht=>?_) ops.size (Array.replicate ops.size false) a E1 ?_ ?_
  ·rw[g9 t,WaY,zvq]
   exact h6 t ht
  ·simp[unl]
   exact WaF (List.countP_le_length) (by simp)
  ·have none:∀j,(Array.replicate ops.size false).getD j false=true->False:=by
    intro j hl;simp only[Wah,Wch]at hl;split at hl<;>simp at hl
   refine⟨by simp,fun j o _ hl=>(none j hl).elim,fun j hl=>(none j hl).elim,h.len,h.defers,ar,?_,(h.tr.trans t0).trans t1,fun t=>?_⟩
   ·have e:(List.range N'.length).map (gS z f (zom []) role (fun j=>(Array.replicate ops.size false).getD j false=true))=(List.range N'.length).map (fun _=>(.cells 0 0 []:O)):=by
     congr 1
     funext p
     rw[gS_b (fun⟨j,hj,_⟩=>none j hj) (fun⟨j,hj,_⟩=>none j hj)];rfl
    rw[e,H1,List.map_const',List.length_range,<-h.H]
   ·have:tv ops T (look st.t) (fun j=>(Array.replicate ops.size false).getD j false=true) t ops.size=look st.t t:=by
     rw[zo6 (i:=0) (Waf _) (fun j _ _ _ hl=>(none j hl).elim)];rfl
    rw[this];exact((h.tm t).trans t0).trans t1
 suffices hx:wpAny P .any ops Q ops.size (Array.replicate ops.size false) a E1.w by rw[w1]at hx;exact hx
 by_cases hB:kt=ops.size\/z2e ops kt=true
 ·refine main (fun _=>False) (fun i j hj ae hi _=>?_) (fun _ h=>h.elim) fun fuel listed U E' hu ad ai aa ab h1 h2 h3 h4 h5 h6=>?_
  ·rcases hB with hB|hB
   ·omega
   ·exact zvr hB j hj ae i (by omega)
  ·refine z67 (P:=P) (ctx:=ctx) (n:=n) (K:=K) (k0:=kt) (zrt hd) af (fun j hj ae i av=>?_) hQ fuel kt listed U E' ⟨I.t,I.H++N'.map Fo.o⟩ (Wae _) g2 ad hu (fun i _=>⟨aa i,fun hi=>ab i hi (fun hf=>hf)⟩) ?_ (by simpa using g6)
   ·rcases hB with hB|hB
    ·omega
    ·exact zvr hB j hj ae i av
   ·exact⟨h1,h.hm,h2,fun t=>h6 t (fun _ _ hf=>hf.elim),h4,h3,h5⟩
 ·have aw:kt<ops.size:=by omega
  have hL:ykq P ops kt I.t:=(g4 aw).resolve_left fun h=>hB (.inr h)
  refine main (fun i=>i∈zdt ops kt) (fun i j hj ae hi ax=>z4n hL.1 j hj ae i (by omega) ax) (fun i hi=>?_) fun fuel listed U E' hu ad ai aa ab h1 h2 h3 h4 h5 h6=>?_
  ·cases hr:role i with
   |none=>rfl
   |some bp=>
    obtain⟨b,p⟩:=bp;obtain⟨o,ho,he⟩:=X.c5 i b p hr;obtain⟨o',d,al,_,an,_⟩:=zxj hL.1 hi;rw[ho]at al;cases al;rw[he]at an;cases an
  ·refine z98 (P:=P) (ctx:=ctx) (n:=n) (K:=K) (k0:=kt) (t0:=I.t) (zrt hd) af hL hQ fuel kt listed U E' ⟨I.t,I.H++N'.map Fo.o⟩ ⟨(dueL ops (zdt ops kt) listed).map (fun d=>(d,V.un))++I.t,I.H++N'.map Fo.o⟩ (Wae _) g2 ad hu ai aa ab (fun _ _ _ _ _ _ _=>rfl) ⟨rfl,fun t=>z2y _ _ _⟩ ?_ (by simpa using g6)
   refine⟨h1,h.hm,h2,fun t=>?_,h4,h3,h5⟩
   show VRel E' (look ((dueL ops (zdt ops kt) listed).map (fun d=>(d,V.un))++I.t) t) _
   rw[z2y];split
   ·exact .un
   ·rename_i hm
    exact h6 t fun j hj hl ay e=>hm (mem_due.2 ⟨j,hl,ay,e⟩)
theorem yj5 {P:Program} {ctx:Env} {n:Cf} {id:Nat} {ops:Array Oper} {st:St} {a:Act} {E:Env} {K:St->Prop} {Q:Exit->Act->World->Prop} (hm:P.follows .mixedOrders=true) (hd:zwc ops=true)
 (I:∀o∈ops.toList,∀d,o.dst=some d->d<n.n) (hw:awpDraw P ops ops.toList [] st K) (h:SR ctx n st a E) (hQ:∀st' U E',K st'->SR ctx n st' U E'->Q .normal U E'.w):
 (Code.region id ops true).wp P Q a E.w:=wp_region_any hm (z0z hm hd I hw h hQ)
theorem zh0 {P:Program} {n:Cf}:∀(c:Code) (st:St) (Q:Ex->St->Prop),awp P n c st Q->Sem' P n c st Q
 |.skip,st,Q,h=>fun _ ctx a E U=>wp_skip ⟨.normal,st,E,rfl,rfl,h,U⟩
 |.label l,st,Q,h=>fun _ ctx a E U=>wp_label ⟨.normal,st,E,rfl,rfl,h,U⟩
 |.region id ops draw,st,Q,h=>fun aa ctx a E U=>by
  have ad:∀o∈ops.toList,∀d,o.dst=some d->d<n.n:=by
   intro o ho d hd;simp only[okC,Wak]at aa
   have:=aa o ho
   simpa [hd]using this
  cases draw with
  |true=>
   simp only[awp]at h;split at h
   ·obtain⟨hm,hd,hf,S,Fl,FE,aj,hw⟩:=h
    exact ym1 hm hd hf aj ad hw U fun st' a' E' hK I=>⟨.normal,st',E',rfl,rfl,hK,I⟩
   ·obtain⟨hm,hd,hw⟩:=h
    exact yj5 hm hd ad hw U fun st' a' E' hK I=>⟨.normal,st',E',rfl,rfl,hK,I⟩
  |false=>
   refine wp_region (zx3 (K:=Q .normal) _ (fun st' a' E' hK I=>⟨.normal,st',E',rfl,rfl,hK,I⟩) ad (List.range ops.size) ops.toList (by simp) (fun k i hk=>?_) st a E U h)
   have af:=(Wag.1 hk).1
   simp at af;simp[af]at hk;subst hk;simp
 |.seq x y,st,Q,h=>fun aa ctx a E U=>by
  simp only[okC,Wan]at aa;refine wp_seq (wp_mono (zh0 x st _ h aa.1 ctx a E U) ?_);rintro e a' w' ⟨k,st',E',rfl,rfl,hq,I⟩
  cases k with
  |normal=>exact zh0 y st' Q hq aa.2 ctx a' E' I
  |exit id=>exact⟨.exit id,st',E',rfl,rfl,hq,I⟩
  |ret=>exact⟨.ret,st',E',rfl,rfl,hq,I⟩
  |goto l=>exact⟨.goto l,st',E',rfl,rfl,hq,I⟩
 |.cond c x y,st,Q,h=>fun aa ctx a E U=>by
  simp only[okC,Wan]at aa;simp only[awp,z3j]at h;split at h
  ·rename_i b hb
   have hc:=U.ρ c
   rw[hb]at hc
   have hv:=bool_inv (one_inv hc)
   refine wp_cond hv ?_
   cases b with
   |true=>exact zh0 x st Q (h.1 rfl) aa.1 ctx a E U
   |false=>exact zh0 y st Q (h.2 rfl) aa.2 ctx a E U
  ·exact h.elim
 |.block id c,st,Q,h=>fun aa ctx a E U=>by
  refine wp_block (wp_mono (zh0 c st _ h aa ctx a E U) ?_);rintro e a' w' ⟨k,st',E',rfl,rfl,hq,I⟩
  cases k with
  |normal=>exact⟨.normal,st',E',rfl,rfl,hq,I⟩
  |exit i=>
   simp only[Ex.toExit,Exit.inBlock];simp only[z14]at hq;split
   ·rename_i e;rw[if_pos e]at hq;exact⟨.normal,st',E',rfl,rfl,hq,I⟩
   ·rename_i e;rw[if_neg e]at hq;exact⟨.exit i,st',E',rfl,rfl,hq,I⟩
  |ret=>exact⟨.ret,st',E',rfl,rfl,hq,I⟩
  |goto l=>exact⟨.goto l,st',E',rfl,rfl,hq,I⟩
 |.loop c,st,Q,h=>fun aa ctx a E U b k cs=>by
  obtain⟨e,a',w',hr,ab⟩:=h aa ctx a E U b k cs;exact⟨e,a',w',hr,.of_steps (.one step_loop) ab⟩
 |.scope c,st,Q,h=>fun aa ctx a E U b k cs=>by
  obtain⟨e,a',w',⟨x,st',E',rfl,rfl,hq,I⟩,ab⟩:=zh0 c st _ h aa ctx a E U b (.inScope c::k) cs
  cases x with
  |normal=>exact⟨.normal,a',E'.w,⟨.normal,st',E',rfl,rfl,hq,I⟩,.head step_scope (Steps.trans ab (.one step_inScope))⟩
  |exit i=>exact⟨.exit i,a',E'.w,⟨.exit i,st',E',rfl,rfl,hq,I⟩,fun k' hk=>.head step_scope (ab k' (by simp[exitTo,hk]))⟩
  |ret=>exact⟨.ret,a',E'.w,⟨.ret,st',E',rfl,rfl,hq,I⟩,.of_steps (.one step_scope) ab⟩
  |goto l=>
   obtain⟨rest,hf,_,ai⟩:=hq;obtain⟨e2,a2,w2,hr,ae⟩:=ai ctx a' E' I b k cs;exact⟨e2,a2,w2,hr,.of_steps (.head step_scope (ab _ (by simp[gotoIn,hf]))) ae⟩
 |.exit id,st,Q,h=>fun _ ctx a E U=>wp_exit ⟨.exit id,st,E,rfl,rfl,h,U⟩
 |.ret,st,Q,h=>fun _ ctx a E U=>wp_ret ⟨.ret,st,E,rfl,rfl,h,U⟩
 |.goto l,st,Q,h=>fun _ ctx a E U=>wp_goto ⟨.goto l,st,E,rfl,rfl,h,U⟩
 |.refuse _,_,_,h=>h.elim
 |.rangeFunc ..,_,_,h=>h.elim
theorem zy6 {P:Program} {n:Cf} {c rest:Code} {st:St} {Q:Ex->St->Prop} (ad:okC n.n rest=true) (h:awp P n rest st (z9h P n c Q)):ScopeSem P n c rest st Q:=by
 intro ctx a E hs b k cs;obtain⟨e,a',w',⟨x,st',E',rfl,rfl,hq,U⟩,I⟩:=zh0 rest st _ h ad ctx a E hs b (.inScope c::k) cs
 cases x with
 |normal=>exact⟨.normal,a',E'.w,⟨.normal,st',E',rfl,rfl,hq,U⟩,Steps.trans I (.one step_inScope)⟩
 |exit i=>exact⟨.exit i,a',E'.w,⟨.exit i,st',E',rfl,rfl,hq,U⟩,fun k' hk=>I k' (by simp[exitTo,hk])⟩
 |ret=>exact⟨.ret,a',E'.w,⟨.ret,st',E',rfl,rfl,hq,U⟩,I⟩
 |goto l=>
  obtain⟨ae,hf,_,ab⟩:=hq;obtain⟨e2,a2,w2,hr,aa⟩:=ab ctx a' E' U b k cs;exact⟨e2,a2,w2,hr,.of_steps (I _ (by simp[gotoIn,hf])) aa⟩
theorem ScopeSem.mono {P:Program} {n:Cf} {c rest:Code} {st:St} {Q U:Ex->St->Prop} (h:ScopeSem P n c rest st Q) (hq:∀e st,Q e st->U e st):ScopeSem P n c rest st U:=by
 intro ctx a E hs b k cs;obtain⟨e,a',w',⟨x,st',E',r1,r2,r3,r4⟩,I⟩:=h ctx a E hs b k cs;exact⟨e,a',w',⟨x,st',E',r1,r2,hq _ _ r3,r4⟩,I⟩
theorem z0o {P:Program} {n:Cf} {body:Code} {st:St} {Q:Ex->St->Prop} (h:awp P n body st (zq1 (fun st'=>LoopSem P n body st' Q) Q)):LoopSem P n body st Q:=by
 intro ab ctx a E hs b k cs;obtain⟨e,a',w',⟨x,st',E',rfl,rfl,hq,U⟩,I⟩:=zh0 body st _ h ab ctx a E hs b (.inLoop body::k) cs
 cases x with
 |normal=>
  obtain⟨e2,a2,w2,hr,aa⟩:=hq ab ctx a' E' U b k cs;exact⟨e2,a2,w2,hr,.of_steps (Steps.trans I (.one step_inLoop)) aa⟩
 |exit id=>exact⟨_,a',E'.w,⟨.exit id,st',E',rfl,rfl,hq,U⟩,.pass (x:=.inLoop body) rfl (fun _ _=>.inl (by simp[Ex.toExit])) I⟩
 |ret=>exact⟨_,a',E'.w,⟨.ret,st',E',rfl,rfl,hq,U⟩,.pass (x:=.inLoop body) rfl (fun _ _=>.inl (by simp[Ex.toExit])) I⟩
 |goto l=>exact⟨_,a',E'.w,⟨.goto l,st',E',rfl,rfl,hq,U⟩,.pass (x:=.inLoop body) rfl (fun _ _=>.inl (by simp[Ex.toExit])) I⟩
theorem LoopSem.mono {P:Program} {n:Cf} {body:Code} {st:St} {Q U:Ex->St->Prop} (h:LoopSem P n body st Q) (hq:∀e st,Q e st->U e st):LoopSem P n body st U:=by
 intro aa ctx a E hs b k cs;obtain⟨e,a',w',⟨x,st',E',r1,r2,r3,r4⟩,I⟩:=h aa ctx a E hs b k cs;exact⟨e,a',w',⟨x,st',E',r1,r2,hq _ _ r3,r4⟩,I⟩
theorem guarded2.mono {all:Array Oper} {o:Oper} {st:St} {X I Y U:St->Prop} (h:guarded2 all o st X Y) (hx:∀s,X s->I s) (hy:∀s,Y s->U s):guarded2 all o st I U:=by
 unfold guarded2 at*;split at h
 ·exact hx _ h
 ·split at h
  ·split at h
   ·exact⟨fun e=>hx _ (h.1 e),fun e=>hy _ (h.2 e)⟩
   ·exact hy _ h
   ·exact h
  ·exact h
theorem guarded.mono {all:Array Oper} {o:Oper} {st:St} {X I Y U:St->Prop} (h:guarded all o st X Y) (hx:∀s,X s->I s) (hy:∀s,Y s->U s):guarded all o st I U:=by
 unfold guarded at*;split at h
 ·exact hx _ h
 ·split at h
  ·split at h
   ·exact⟨fun e=>hx _ (h.1 e),fun e=>hy _ (h.2 e)⟩
   ·exact h
  ·exact h
theorem awpOp.mono {P:Program} {o:Oper} {st:St} {K I:St->Prop} (h:awpOp P o st K) (U:∀s,K s->I s):awpOp P o st I:=by
 unfold awpOp at*;split at h
 ·split at h
  ·exact h.mono fun _ _=>U _
  ·exact h
 ·exact⟨h.1,fun hf=>U _ (h.2 hf)⟩
theorem awpOps.mono {P:Program} {all:Array Oper} {K U:St->Prop} (I:∀s,K s->U s):∀{l:List Oper} {st:St},awpOps P all l st K->awpOps P all l st U
 |[],_,h=>I _ h
 |_::_,_,h=>guarded2.mono h (fun _ hx=>awpOp.mono hx fun _=>awpOps.mono I) (fun _=>awpOps.mono I)
theorem awpQ.mono {P:Program} {o:Oper} {st:St} {K I:St->Prop} (h:awpQ P o st K) (U:∀s,K s->I s):awpQ P o st I:=by
 unfold awpQ at*;split at h
 ·split at h
  ·obtain⟨x,hc,hx⟩:=h;exact⟨x,hc,U _ hx⟩
  ·exact h
 ·exact⟨h.1,fun hf=>⟨(h.2 hf).1,U _ (h.2 hf).2⟩⟩
theorem awpDraw.mono {P:Program} {all:Array Oper} {K U:St->Prop} (I:∀s,K s->U s):∀{l:List Oper} {N:List Fo} {st:St},awpDraw P all l N st K->awpDraw P all l N st U
 |[],_,_,h=>I _ h
 |o::rest,N,st,h=>by
  simp only[awpDraw]at h|-;split at h
  ·exact⟨h.1,awpDraw.mono I h.2⟩
  ·split at h
   ·exact⟨h.1,awpOps.mono I h.2⟩
   ·exact⟨h.1,guarded2.mono h.2 (fun _ hx=>awpQ.mono hx fun _=>awpDraw.mono I) (fun _=>awpDraw.mono I)⟩
theorem awpF.mono {P:Program} {S Fl FE:List Nat} {K U:St->Prop} (I:∀s,K s->U s):∀{k:Nat} {l:List Oper} {st:St},awpF P S Fl FE k l st K->awpF P S Fl FE k l st U
 |_,[],_,h=>I _ h
 |k,o::rest,st,h=>by
  simp only[awpF]at h|-;split at h
  ·split at h
   ·split at h
    ·obtain⟨x,H1,a,b,c⟩:=h
     exact⟨x,H1,a,b,awpF.mono I c⟩
    ·exact h
   ·exact⟨h.1,h.2.1,awpF.mono I h.2.2⟩
  ·exact⟨h.1,h.2.1,h.2.2.1,awpF.mono I h.2.2.2⟩
theorem awp.mono {P:Program} {n:Cf}:∀{c:Code} {st:St} {Q U:Ex->St->Prop},awp P n c st Q->(∀e s,Q e s->U e s)->awp P n c st U
 |.skip,_,_,_,h,hq=>hq _ _ h
 |.label _,_,_,_,h,hq=>hq _ _ h
 |.region _ ops true,_,_,_,h,hq=>by
  simp only[awp]at h|-;split at h
  ·obtain⟨a,b,c,S,Fl,FE,e,d⟩:=h
   exact⟨a,b,c,S,Fl,FE,e,awpF.mono (hq _) d⟩
  ·exact⟨h.1,h.2.1,awpDraw.mono (hq _) h.2.2⟩
 |.region _ _ false,_,_,_,h,hq=>awpOps.mono (hq _) h
 |.seq x y,_,_,_,h,hq=>awp.mono (c:=x) h fun e s I=>by
  cases e with
  |normal=>exact awp.mono (c:=y) I hq
  |exit id=>exact hq _ _ I
  |ret=>exact hq _ _ I
  |goto l=>exact hq _ _ I
 |.cond c x y,st,_,_,h,hq=>by
  simp only[awp,z3j]at h|-;split at h
  ·exact⟨fun e=>awp.mono (h.1 e) hq,fun e=>awp.mono (h.2 e) hq⟩
  ·exact h
 |.block id c,_,_,_,h,hq=>awp.mono (c:=c) h fun e s I=>by
  cases e with
  |exit i=>simp only[z14]at I|-;split<;>simp_all
  |normal=>exact hq _ _ I
  |ret=>exact hq _ _ I
  |goto l=>exact hq _ _ I
 |.loop _,_,_,_,h,hq=>LoopSem.mono h hq
 |.scope c,_,_,_,h,hq=>awp.mono (c:=c) h fun e s I=>by
  cases e with
  |goto l=>
   obtain⟨rest,h1,h2,h3⟩:=I;exact⟨rest,h1,h2,h3.mono hq⟩
  |normal=>exact hq _ _ I
  |exit i=>exact hq _ _ I
  |ret=>exact hq _ _ I
 |.exit _,_,_,_,h,hq=>hq _ _ h
 |.ret,_,_,_,h,hq=>hq _ _ h
 |.goto _,_,_,_,h,hq=>hq _ _ h
 |.refuse _,_,_,_,h,_=>h.elim
 |.rangeFunc ..,_,_,_,h,_=>h.elim
def zks (P:Program) (H:List O) (t:List (Nat×V)):ResultVar->Option (V×Prop)
 |.tmp i=>some (look t i,True)
 |.cell i ty=>match look t i with
  |.one c=>match tAg P ty,zv5 H c with
   |some (g,n),some (row,off,p)=>some (ldV g n row off,p/\off+wd g n<=row.length)
   |_,_=>none
  |_=>none
def resK (P:Program) (rs:List ResultVar) (st:St) (K:V->List O->Prop):Prop:=
 match rs with
 |[r]=>match zks P st.H st.t r with|some (x,p)=>p/\K x st.H|none=>False
 |rs=>match rs.mapM (zks P st.H st.t)with|some xs=>(∀x∈xs,x.2)/\K (.tup (xs.map (·.1))) st.H|none=>False
def endK (P:Program) (rs:List ResultVar) (K:V->List O->Prop):Ex->St->Prop
 |.exit _,_=>False
 |.goto _,_=>False
 |_,st=>resK P rs st K
def zm7:Nat->List V->List (Nat×V)
 |_,[]=>[]
 |i,x::xs=>(i,x)::zm7 (i+1) xs
theorem zo3:∀(xs:List V) (i j:Nat),look (zm7 i xs) j=if i<=j then xs.getD (j-i) .un else .un
 |[],i,j=>by simp[zm7,look]
 |x::xs,i,j=>by
  simp only[zm7,zfb]
  by_cases e:i=j
  ·subst e;simp
  ·rw[if_neg e,zo3 xs (i+1) j]
   by_cases h:i<=j
   ·rw[if_pos (by omega),if_pos h]
    have:j-i=(j-(i+1))+1:=by omega
    rw[this,Wb9]
   ·rw[if_neg (by omega),if_neg h]
def z1q (tmps:Array Value):ResultVar->Sem Value
 |.tmp t=>pure (tmps.getD t undef)
 |.cell a t=>do loadVar t (<-asAddr (tmps.getD a undef))
theorem z7j {P:Program} {ctx:Env} {n:Cf} {st:St} {a:Act} {E:Env} (h:SR ctx n st a E) {r:ResultVar} {x:V} {p:Prop} (hr:zks P st.H st.t r=some (x,p)) (U:p):
  ∃v,(z1q a.tmps r).run P E.w=.ok v E.w/\VRel E x v:=by
 cases r with
 |tmp t=>simp only[zks]at hr;cases hr;exact⟨_,rfl,h.tm t⟩
 |cell i ty=>
  simp only[zks]at hr;split at hr
  ·rename_i c hc
   split at hr
   ·rename_i g m row off q hg I
    cases hr
    have ht:=h.tm i
    rw[hc]at ht;rw[<-h.H]at I;obtain⟨b,o,hv,aa⟩:=z7e h.rel (one_inv ht) I U.1;obtain⟨u,h1,h2⟩:=ybn (P:=P) hg aa U.2;exact⟨u,by simp[z1q,hv,asAddr,h1],h2⟩
   ·cases hr
  ·cases hr
theorem zuo {P:Program} {ctx:Env} {n:Cf} {st:St} {a:Act} {E:Env} (h:SR ctx n st a E):∀(rs:List ResultVar) (xs:List (V×Prop)),rs.mapM (zks P st.H st.t)=some xs->(∀x∈xs,x.2)->
  ∃vs:List Value,(rs.mapM (z1q a.tmps)).run P E.w=.ok vs E.w/\vs.length=xs.length/\∀(j:Nat) (x:V×Prop),xs[j]? =some x->∃v,vs[j]? =some v/\VRel E x.1 v
 |[],xs,hm,U=>by simp at hm;subst hm;exact⟨[],by simp,rfl,by simp⟩
 |r::rs,xs,hm,U=>by
  simp only[WbT,Option.pure_def,Option.bind_eq_bind]at hm
  cases hr:zks P st.H st.t r with
  |none=>simp[hr]at hm
  |some x=>
   cases I:rs.mapM (zks P st.H st.t)with
   |none=>simp[hr,I]at hm
   |some ys=>
    simp[hr,I]at hm;subst hm;obtain⟨x,p⟩:=x;obtain⟨v,h1,h2⟩:=z7j h hr (U (x,p) (by simp));obtain⟨vs,g1,g2,g3⟩:=zuo h rs ys I fun y hy=>U y (by simp[hy]);refine⟨v::vs,by simp[h1,g1],by simp[g2],fun j y hj=>?_⟩
    cases j with
    |zero=>simp at hj;subst hj;exact⟨v,rfl,h2⟩
    |succ j=>simpa using g3 j y (by simpa using hj)
theorem z80 (fn:Func) (tmps:Array Value):results fn tmps=(do
  let vs<-fn.results.mapM (z1q tmps)
  pure (if h:vs.size=1 then vs[0]else .tuple vs)):=by
 unfold results
 congr 1
theorem z7i {P:Program} {ctx:Env} {n:Cf} {st:St} {a:Act} {E:Env} (h:SR ctx n st a E) {fn:Func} {K:V->List O->Prop} (I:resK P fn.results.toList st K):
  ∃v x,(results fn a.tmps).run P E.w=.ok v E.w/\VRel E x v/\K x E.H:=by
 rw[z80]
 have hm:∀vs:List Value,(fn.results.toList.mapM (z1q a.tmps)).run P E.w=.ok vs E.w->(fn.results.mapM (z1q a.tmps)).run P E.w=.ok vs.toArray E.w:=by
  intro vs hv;rw[Array.mapM_eq_mapM_toList];simp[hv]
 unfold resK at I;split at I
 ·rename_i r hr
  split at I
  ·rename_i x p U
   obtain⟨v,h1,h2⟩:=z7j h U I.1
   have:=hm [v] (by rw[hr];simp[h1])
   refine⟨v,x,?_,h2,by rw[h.H];exact I.2⟩;simp[this]
  ·exact I.elim
 ·rename_i ab
  split at I
  ·rename_i xs U
   obtain⟨vs,g1,g2,g3⟩:=zuo h _ xs U I.1
   have:=hm vs g1
   have hlen:xs.length=fn.results.toList.length:=by
    have:=zuo h _ xs U I.1
    clear this
    have gen:∀(rs:List ResultVar) (xs:List (V×Prop)),rs.mapM (zks P st.H st.t)=some xs->xs.length=rs.length:=by
     intro rs
     induction rs with
     |nil=>intro xs h;simp at h;simp[h]
     |cons r rs ih=>
      intro xs h;simp only[WbT,Option.pure_def,Option.bind_eq_bind]at h
      cases hr:zks P st.H st.t r with
      |none=>simp[hr]at h
      |some x=>
       cases aa:rs.mapM (zks P st.H st.t)with
       |none=>simp[hr,aa]at h
       |some ys=>simp[hr,aa]at h;subst h;simp[ih ys aa]
    exact gen _ _ U
   have hsz:vs.toArray.size≠1:=by
    intro e;simp at e
    have:fn.results.toList.length=1:=by omega
    obtain⟨r,hr⟩:=List.length_eq_one_iff.1 this;exact ab r hr
   refine⟨.tuple vs.toArray,.tup (xs.map (·.1)),?_,?_,by rw[h.H];exact I.2⟩
   ·simp only[Sem.run_bind,this,Result.andThen_ok]
    rw[dif_neg hsz];rfl
   ·refine .tup (by simp[g2]) fun j y hj=>?_
    simp only[Wao,Wal]at hj;obtain⟨x,U,rfl⟩:=hj;obtain⟨v,hv,hr⟩:=g3 j x U;simp only[Wah,Wa6,hv,WaI];exact hr
  ·exact I.elim
theorem zvl {P:Program} {f:FuncId} {fn:Func} {c:Code} (hf:P.funcs[f]? =some fn) (hb:fn.body=some c) (aa:(fn.name== "runtime.NumGoroutine")=false) (ab:okC fn.ntmps c=true)
  {args:List V} {H:List O} {K:V->List O->Prop} (h:awp P ⟨fn.ntmps,H.length⟩ c ⟨zm7 0 args,H⟩ (endK P fn.results.toList K)):Ct P f args H K:=by
 refine⟨⟨fn,hf,aa,by simp[hb]⟩,fun E vs hE hH hn hv=>?_⟩
 have hs:SR E ⟨fn.ntmps,H.length⟩ ⟨zm7 0 args,H⟩ {tmps:=vs++Array.replicate (fn.ntmps-vs.size) undef,defers:=[]} E:=by
  refine⟨by simp;omega,by rw[hH];exact Wae _,rfl,fun i=>?_,hH,hE,Trans.refl E⟩;simp only[zo3,Waf,if_true,WaY];simp only[List.getD_eq_getElem?_getD]
  cases hx:args[i]? with
  |none=>simp only[Wca];exact .un
  |some x=>
   have ad:i<vs.size:=by rw[hn];exact(Wag.1 hx).1
   have:=hv i x hx
   simp only[WaI];rw[Wah]at this|-;rw[Wbe ad];exact this
 refine calls_of_wp hf hb (wp_mono (zh0 c _ _ h ab E _ E hs) ?_);rintro e a' w' ⟨x,st',E',rfl,rfl,hq,U⟩
 have fin:resK P fn.results.toList st' K->a'.defers=[]/\∃v,(results fn a'.tmps).run P E'.w=.ok v E'.w/\(∃v' x I,Ending.returned v=.returned v'/\I.w=E'.w/\K x I.H/\VRel I x v'/\HRel I/\Trans E I):=by
  intro hk;obtain⟨v,y,h1,h2,h3⟩:=z7i U hk;exact⟨U.defers,v,h1,v,y,E',rfl,rfl,h3,h2,U.rel,U.tr⟩
 cases x with
 |normal=>exact fin hq
 |exit id=>exact hq.elim
 |ret=>exact fin hq
 |goto l=>exact hq.elim
end Go.Lz

end
section
namespace Go.Lz
def zv9 (ks:List Nat) (t:List (Nat×V)):List (Nat×V):=
 match ks with
 |[]=>[]
 |k::ks=>(k,look t k)::zv9 ks t
def zos (m:Nat) (ks:List Nat) (t:List (Nat×V)):Bool:=
 match ks with
 |[]=>true
 |k::ks=>(look t k).lt m&&zos m ks t
theorem zyh {t:List (Nat×V)}:∀{ks:List Nat} {i:Nat},look (zv9 ks t) i=if i∈ks then look t i else .un
 |[],i=>by simp[zv9,look]
 |k::ks,i=>by
  simp only[zv9,zfb,zyh (ks:=ks),WaB]
  by_cases e:k=i
  ·subst e;simp
  ·simp[e,Ne.symm e]
theorem keepLt_iff {m:Nat} {t:List (Nat×V)}:∀{ks:List Nat},zos m ks t=true↔∀k∈ks,(look t k).lt m=true
 |[]=>by simp[zos]
 |k::ks=>by simp[zos,keepLt_iff (ks:=ks)]
theorem SR.purge {ctx:Env} {n:Cf} {st:St} {a:Act} {E:Env} (h:SR ctx n st a E) (ks:List Nat) (m:Nat) (hm:n.m<=m) (hk:zos m ks st.t=true) (I:((st.H.take m).all (O.lt m))=true):
  ∃E',E'.w=E.w/\SR ctx n ⟨zv9 ks st.t,st.H.take m⟩ a E':=by
 have hE:=h.rel
 have get:∀(id:Nat) (o:O),(E.H.take m)[id]? =some o->id<m/\E.H[id]? =some o:=by
  intro id o I;rw[WaQ]at I;split at I
  ·exact⟨by assumption,I⟩
  ·cases I
 have own:∀b,({E with H:=E.H.take m}:Env).own b->E.own b:=by
  rintro b ⟨id,o,I,hl,hb⟩;exact⟨id,o,(get id o I).2,hl,hb⟩
 have U:∀b,E.free b->({E with H:=E.H.take m}:Env).free b:=fun b hb=>⟨hb.1,hb.2.1,fun I=>hb.2.2 (own b I)⟩
 have hid:∀id,id<m->id<E.H.length->id<(E.H.take m).length/\(E.H.take m)[id]? =E.H[id]? /\E.bd id=E.bd id:=by
  intro id h1 h2;refine⟨by simp;omega,by rw[WaQ,if_pos h1],rfl⟩
 have into:∀{c:C} {v:Value},CRel E c v->c.lt m=true->CRel {E with H:=E.H.take m} c v:=fun hc hl=>hc.into (m:=m) U (fun _ _ _=>rfl) hid hl
 refine⟨{E with H:=E.H.take m},rfl,⟨h.len,h.hm,h.defers,fun i=>?_,by simp[h.H],?_,?_⟩⟩
 ·rw[zyh]
  split
  ·rename_i hi
   exact(h.tm i).into (m:=m) U (fun _ _ _=>rfl) hid (keepLt_iff.1 hk i hi)
  ·exact .un
 ·refine⟨fun id o ab=>?_,fun i j x y hx hy=>hE.dist i j x y (get i x hx).2 (get j y hy).2,fun i x hx=>hE.nofr i x (get i x hx).2,hE.frlt,hE.glob.of U (fun _ _ _=>rfl)⟩
  obtain⟨ai,ae⟩:=get id o ab
  have aa:o.lt m=true:=by
   rw[<-h.H]at I;exact Wak.1 I o (Wad ab)
  have:=hE.obj id o ae
  cases o with
  |cells cur sz rows=>
   obtain⟨h3,h4,h5,h6⟩:=this;refine⟨h3,h4,h5,fun hc=>?_⟩;obtain⟨arr,ty,h1,h2,h6⟩:=h6 hc;refine⟨arr,ty,h1,h2,fun i j c ad=>?_⟩;obtain⟨v,hv,hr⟩:=h6 i j c ad;exact⟨v,hv,into hr (z7w aa ad)⟩
  |map es=>
   obtain⟨af,clock,h1,h2,h3⟩:=this;refine⟨af,clock,h1,h2,fun i k x hi=>?_⟩;obtain⟨e,he,hk,hx⟩:=h3 i k x hi;simp only[O.lt,Wak,Wan]at aa
   have:=aa (k,x) (Wad hi)
   exact⟨e,he,into hk this.1,into hx this.2⟩
  |dead=>trivial
 ·have aj:ctx.H.length<=m:=WaF h.hm hm
  refine⟨h.tr.fr,h.tr.size,h.tr.os,h.tr.tape,h.tr.output,h.tr.keep,fun b hb I=>h.tr.own b hb (own b I),by have:=h.tr.len;simp;omega,fun id ver sz rows hid I=>h.tr.objC id ver sz rows hid (get id _ I).2,fun id es hid I=>h.tr.objM id es hid (get id _ I).2⟩
theorem LoopSem.purge {P:Program} {n:Cf} {body:Code} {st:St} {Q:Ex->St->Prop} (ks:List Nat) (m:Nat) (hm:n.m<=m) (hk:zos m ks st.t=true) (ho:((st.H.take m).all (O.lt m))=true)
  (h:LoopSem P n body ⟨zv9 ks st.t,st.H.take m⟩ Q):LoopSem P n body st Q:=by
 intro I ctx a E hs b k cs;obtain⟨E',hw,U⟩:=hs.purge ks m hm hk ho;rw[<-hw];exact h I ctx a E' U b k cs
def C.viewN (H:List O):Nat->C->C
 |0,c=>match c with|.slf rows=>.sl rows|c=>c
 |k+1,c=>match c with
  |.msl id ver lo hi=>match H[id]? with
   |some (.cells cur _ rows)=>if ver=cur then .sl (((rows.take hi).drop lo).map fun r=>r.map (C.viewN H k))else .msl id ver lo hi
   |_=>.msl id ver lo hi
  |.ref id ver row off=>match H[id]? with
   |some (.cells cur _ rows)=>if ver=cur/\row<rows.length then .iptr ((rows.getD row []).map (C.viewN H k)) off else .ref id ver row off
   |_=>.ref id ver row off
  |.fn f cap=>.fn f (cap.map (C.viewN H k))
  |.ifc t cs=>.ifc t (cs.map (C.viewN H k))
  |.slf rows=>.sl rows
  |c=>c
def C.view (H:List O) (c:C):C:=C.viewN H 4 c
def zbw (H:List O) (k:Nat) (rows:List (List C)):List (List C):=rows.map fun r=>r.map (C.viewN H k)
def vMsl (H:List O) (k:Nat) (o:Option O) (id ver lo hi:Nat):C:=match o with
 |some (.cells cur _ rows)=>if ver=cur then .sl (zbw H k ((rows.take hi).drop lo))else .msl id ver lo hi
 |_=>.msl id ver lo hi
def vRef (H:List O) (k:Nat) (o:Option O) (id ver row off:Nat):C:=match o with
 |some (.cells cur _ rows)=>if ver=cur/\row<rows.length then .iptr ((rows.getD row []).map (C.viewN H k)) off else .ref id ver row off
 |_=>.ref id ver row off
section
variable {H:List O} {k:Nat}
theorem zle {kd:IntKind} {n:Int}:C.viewN H k (.int kd n)=.int kd n:=by cases k<;>rfl
theorem zip {b:Bool}:C.viewN H k (.bool b)=.bool b:=by cases k<;>rfl
theorem zld {b:List UInt8}:C.viewN H k (.str b)=.str b:=by cases k<;>rfl
theorem zpu {b:List (List C)}:C.viewN H k (.sl b)=.sl b:=by cases k<;>rfl
theorem yk1 {b:List (List C)}:C.viewN H k (.slf b)=.sl b:=by cases k<;>rfl
theorem yhb {b:List C} {o:Nat}:C.viewN H k (.iptr b o)=.iptr b o:=by cases k<;>rfl
theorem z61:C.viewN H k .nilfn=.nilfn:=by cases k<;>rfl
theorem ydq:C.viewN H k .nilif=.nilif:=by cases k<;>rfl
theorem yg5:C.viewN H k .nilp=.nilp:=by cases k<;>rfl
theorem yg6:C.viewN H k .nilm=.nilm:=by cases k<;>rfl
theorem ypf {i:Nat}:C.viewN H k (.mp i)=.mp i:=by cases k<;>rfl
theorem yg7 {id ver lo hi:Nat}:C.viewN H 4 (.msl id ver lo hi)=vMsl H 3 (H[id]?) id ver lo hi:=rfl
theorem yg8 {id ver lo hi:Nat}:C.viewN H 3 (.msl id ver lo hi)=vMsl H 2 (H[id]?) id ver lo hi:=rfl
theorem yg9 {id ver lo hi:Nat}:C.viewN H 2 (.msl id ver lo hi)=vMsl H 1 (H[id]?) id ver lo hi:=rfl
theorem yha {id ver lo hi:Nat}:C.viewN H 1 (.msl id ver lo hi)=vMsl H 0 (H[id]?) id ver lo hi:=rfl
theorem yg1 {id ver lo hi:Nat}:C.viewN H 4 (.ref id ver lo hi)=vRef H 3 (H[id]?) id ver lo hi:=rfl
theorem yg2 {id ver lo hi:Nat}:C.viewN H 3 (.ref id ver lo hi)=vRef H 2 (H[id]?) id ver lo hi:=rfl
theorem yg3 {id ver lo hi:Nat}:C.viewN H 2 (.ref id ver lo hi)=vRef H 1 (H[id]?) id ver lo hi:=rfl
theorem yg4 {id ver lo hi:Nat}:C.viewN H 1 (.ref id ver lo hi)=vRef H 0 (H[id]?) id ver lo hi:=rfl
theorem yk2 {f:FuncId} {cap:List C}:C.viewN H 4 (.fn f cap)=.fn f (cap.map (C.viewN H 3)):=rfl
theorem yk3 {f:FuncId} {cap:List C}:C.viewN H 3 (.fn f cap)=.fn f (cap.map (C.viewN H 2)):=rfl
theorem yk4 {f:FuncId} {cap:List C}:C.viewN H 2 (.fn f cap)=.fn f (cap.map (C.viewN H 1)):=rfl
theorem yk5 {f:FuncId} {cap:List C}:C.viewN H 1 (.fn f cap)=.fn f (cap.map (C.viewN H 0)):=rfl
theorem yhc {t:TypeId} {cs:List C}:C.viewN H 4 (.ifc t cs)=.ifc t (cs.map (C.viewN H 3)):=rfl
theorem yhd {t:TypeId} {cs:List C}:C.viewN H 3 (.ifc t cs)=.ifc t (cs.map (C.viewN H 2)):=rfl
theorem yhe {t:TypeId} {cs:List C}:C.viewN H 2 (.ifc t cs)=.ifc t (cs.map (C.viewN H 1)):=rfl
theorem yhf {t:TypeId} {cs:List C}:C.viewN H 1 (.ifc t cs)=.ifc t (cs.map (C.viewN H 0)):=rfl
theorem ykz:zbw H k []=[]:=rfl
theorem yg0 {r:List C} {rs:List (List C)}:zbw H k (r::rs)=r.map (C.viewN H k)::zbw H k rs:=rfl
theorem yk0 {a b:List (List C)}:zbw H k (a++b)=zbw H k a++zbw H k b:=by simp[zbw]
theorem yky {n:Nat} {r:List C}:zbw H k (List.replicate n r)=List.replicate n (r.map (C.viewN H k)):=by simp[zbw]
theorem ykx {rows:List (List C)} {i:Nat} {r:List C}:zbw H k (rows.set i r)=(zbw H k rows).set i (r.map (C.viewN H k)):=by simp[zbw,WaL]
theorem ygy {rows:List (List C)} {n:Nat}:zbw H k (rows.take n)=(zbw H k rows).take n:=by simp[zbw,List.map_take]
theorem ygz {rows:List (List C)} {n:Nat}:zbw H k (rows.drop n)=(zbw H k rows).drop n:=by simp[zbw,List.map_drop]
end
mutual
def V.view (H:List O):V->V
 |.one c=>.one (c.view H)
 |.agg cs=>.agg (cs.map (C.view H))
 |.tup vs=>.tup (z3n H vs)
 |.un=>.un
def z3n (H:List O):List V->List V
 |[]=>[]
 |v::vs=>v.view H::z3n H vs
end
theorem zz3 {H:List O}:∀{l:List V},z3n H l=l.map (V.view H)
 |[]=>rfl
 |c::r=>by simp[z3n,zz3 (l:=r)]
def Pu (P:Program) (f:FuncId) (args:List V) (x:V):Prop:=Ct P f args [] fun v H'=>v=x/\H'=[]
def Env.shut (E:Env):Env:={E with H:=[]}
theorem zvt {E:Env} (hE:HRel E):HRel E.shut:=⟨by simp[Env.shut],by simp[Env.shut],by simp[Env.shut],hE.frlt,hE.glob.of (fun b h=>⟨h.1,h.2.1,by rintro⟨id,o,I,_⟩;simp[Env.shut]at I⟩) (fun _ _ _=>rfl)⟩
theorem yaf {E:Env} (b:Nat) (h:E.free b):E.shut.free b:=⟨h.1,h.2.1,by rintro⟨id,o,I,_⟩;simp[Env.shut]at I⟩
theorem zo5 {E E1:Env} {H':List O} (hE:HRel E) (hw:E1.w=E.w) (hf:∀b,E.free b->E1.free b)
  (hH:∀id cur sz rows,H'[id]? =some (.cells cur sz rows)->E.H[id]? =some (.cells cur sz rows)/\((E.bd id).cap≠0->E1.free (E.bd id).blk)):
  ∀(k:Nat) {c:C} {v:Value},CRel E c v->(C.viewN H' k c).lt 0=true->CRel E1 (C.viewN H' k c) v
 |0,c,v,h,hl=>by
  cases c with
  |slf rows=>exact(zlh h).1.into (m:=0) hf (fun _ _ _=>by rw[hw]) (fun id h=>by omega) hl
  |_=>exact h.into (m:=0) hf (fun _ _ _=>by rw[hw]) (fun id h=>by omega) hl
 |k+1,c,v,h,hl=>by
  cases c with
  |msl id ver lo hi=>
   simp only[C.viewN]at hl|-;split at hl
   ·rename_i cur sz rows ad
    obtain⟨ho,af⟩:=hH _ _ _ _ ad;split at hl
    ·rename_i e
     simp only[ad,e,if_true];subst e;obtain⟨h1,h2,a,cap,rfl,h3,h4⟩:=zpf h ho rfl;obtain⟨g3,g4,g5,g7⟩:=hE.obj id _ ho
     have hlen:((rows.take hi).drop lo).length=hi-lo:=by simp;omega
     by_cases hz:hi-lo=0
     ·have aj:(rows.take hi).drop lo=[]:=WaJ (by omega)
      rw[aj,hz];exact .sl (fun _ _=>undef) 0 rfl (Waf _) (Waf _) (by simp) (by simp) (by simp[at2])
     have ae:(E.bd id).cap≠0:=by omega
     obtain⟨arr,ty,g1,g2,g6⟩:=g7 ae
     have hsz:∀r∈((rows.take hi).drop lo).map (fun r=>r.map (C.viewN H' k)),r.length=sz:=by
      intro r hr;obtain⟨r0,ai,rfl⟩:=Wau.1 hr;rw[Waq];exact g5 r0 (Wa2 (Wa5 ai))
     have key:∀i j c,at2 (((rows.take hi).drop lo).map (fun r=>r.map (C.viewN H' k))) i j=some c->∃c0,at2 rows (lo+i) j=some c0/\c=C.viewN H' k c0:=by
      intro i j c ab;obtain⟨r,hr,I⟩:=at2_some.1 ab;rw[Wao,Wa0,WaQ]at hr;split at hr
      ·simp only[Wal]at hr
       obtain⟨r0,ai,rfl⟩:=hr;simp only[Wao,Wal]at I;obtain⟨c0,U,rfl⟩:=I;exact⟨c0,at2_some.2 ⟨r0,ai,U⟩,rfl⟩
      ·simp at hr
     have aa:∀i j,∃y,∀c,at2 (((rows.take hi).drop lo).map (fun r=>r.map (C.viewN H' k))) i j=some c->arr[(E.bd id).off+lo*sz+(i*sz+j)]? =some y/\CRel E1 c y:=by
      intro i j
      cases hc:at2 (((rows.take hi).drop lo).map (fun r=>r.map (C.viewN H' k))) i j with
      |none=>exact⟨undef,by simp⟩
      |some c=>
       obtain⟨c0,U,rfl⟩:=key i j c hc;obtain⟨y,hy,hr⟩:=g6 _ _ _ U;exact⟨y,fun c' e=>by cases e;exact⟨by rw[<-hy];congr 1;rw[Wav];omega,zo5 hE hw hf hH k hr (z7w hl hc)⟩⟩
     refine .sl (fun i j=>Classical.choose (aa i j)) sz (by rw[Waq];exact hlen.symm) (by rw[Waq];omega) (by rw[Waq];omega) hsz (fun al=>?_) (fun i j c ab=>?_)
     ·refine⟨(E.bd id).blk,(E.bd id).off+lo*sz,by rw[h4 (by omega)],(af ae),fun i j c ab=>?_⟩
      have:=(WaW (aa i j) c ab).1
      rw[hw];rw[g1.cell?];exact this
     ·exact(WaW (aa i j) c ab).2
    ·simp[C.lt]at hl
   ·simp[C.lt]at hl
  |ref id ver row off=>
   simp only[C.viewN]at hl|-;split at hl
   ·rename_i cur sz rows ad
    obtain⟨ho,af⟩:=hH _ _ _ _ ad;split at hl
    ·rename_i e
     rw[if_pos e]
     have hv:=zxd h ho e.1
     obtain⟨g3,g4,g5,g7⟩:=hE.obj id _ ho
     have ae:(E.bd id).cap≠0:=by omega
     have ak:=ORel.rowIn hE ho row
     have aa:∀j,∃y,∀c,((rows.getD row []).map (C.viewN H' k))[j]? =some c->E1.w.cell? ⟨(E.bd id).blk,(E.bd id).off+row*sz+j,none⟩=some y/\CRel E1 c y:=by
      intro j
      cases hc:((rows.getD row []).map (C.viewN H' k))[j]? with
      |none=>exact⟨undef,by simp⟩
      |some c=>
       have hm:=Wad hc
       simp only[Wao,Wal]at hc;obtain⟨c0,U,rfl⟩:=hc;obtain⟨y,hy,hr⟩:=ak j c0 U;exact⟨y,fun c' e=>by cases e;exact⟨by rw[hw];exact hy,zo5 hE hw hf hH k hr (ltRow_iff.1 (show zem 0 _=true from hl) _ hm)⟩⟩
     refine .iptr (b:=(E.bd id).blk) (o:=(E.bd id).off+row*sz) (fun j=>Classical.choose (aa j)) (by rw[hv,Waz]) (af ae) (fun j c I=>?_) (fun j c I=>?_)
     ·exact(WaW (aa j) c I).1
     ·exact(WaW (aa j) c I).2
    ·simp[C.lt]at hl
   ·simp[C.lt]at hl
  |fn f cap=>
   simp only[C.viewN]at hl|-
   cases h with
   | @fn _ _ vs hn hv=>
     refine .fn (by simpa using hn) fun j c I=>?_
     have hm:=Wad I
     simp only[Wao,Wal]at I;obtain⟨c0,U,rfl⟩:=I;exact zo5 hE hw hf hH k (hv j c0 U) (ltRow_iff.1 (show zem 0 _=true from hl) _ hm)
  |ifc t cs=>
   simp only[C.viewN]at hl|-
   cases h with
   | @ifc _ _ vs hn hv=>
     refine .ifc (by simpa using hn) fun j c I=>?_
     have hm:=Wad I
     simp only[Wao,Wal]at I;obtain⟨c0,U,rfl⟩:=I;exact zo5 hE hw hf hH k (hv j c0 U) (ltRow_iff.1 (show zem 0 _=true from hl) _ hm)
  |slf rows=>exact(zlh h).1.into (m:=0) hf (fun _ _ _=>by rw[hw]) (fun id h=>by omega) hl
  |_=>exact h.into (m:=0) hf (fun _ _ _=>by rw[hw]) (fun id h=>by omega) hl
theorem ydr {E:Env} (hE:HRel E) (k:Nat) {c:C} {v:Value} (h:CRel E c v) (hl:(C.viewN E.H k c).lt 0=true):CRel E.shut (C.viewN E.H k c) v:=
 zo5 (E1:=E.shut) hE rfl yaf (fun id _ _ _ I=>⟨I,fun hc=>⟨hE.lt I hc,hE.nofr id _ I hc,by rintro⟨i,o,hi,_⟩;simp[Env.shut]at hi⟩⟩) k h hl
theorem z19 {E:Env} (hE:HRel E) {c:C} {v:Value} (h:CRel E c v) (hl:(c.view E.H).lt 0=true):CRel E.shut (c.view E.H) v:=ydr hE 4 h hl
theorem z9z {E E1:Env} {H':List O} (hE:HRel E) (hw:E1.w=E.w) (hf:∀b,E.free b->E1.free b)
  (U:∀id cur sz rows,H'[id]? =some (.cells cur sz rows)->E.H[id]? =some (.cells cur sz rows)/\((E.bd id).cap≠0->E1.free (E.bd id).blk)) {x:V} {v:Value} (h:VRel E x v):(x.view H').lt 0=true->VRel E1 (x.view H') v:=by
 induction h with
 |one h=>intro hl;exact .one (zo5 hE hw hf U 4 h hl)
 |agg hn h=>
  intro hl;refine .agg (by simpa using hn) fun j c I=>?_
  have hm:=ltRow_iff.1 (show zem 0 _=true from hl) c (Wad I)
  simp only[Wao,Wal]at I;obtain⟨c0,aa,rfl⟩:=I;exact zo5 hE hw hf U 4 (h j c0 aa) hm
 |tup hn h ih=>
  intro hl;simp only[V.view,V.lt,zz3]at hl|-;refine .tup (by simpa using hn) fun j x I=>?_
  have hm:=Wad I
  have hx:=ltVs_iff.1 hl x hm
  simp only[Wao,Wal]at I;obtain⟨x0,ab,rfl⟩:=I;exact ih j x0 ab hx
 |un=>intro _;exact .un
theorem zw4 {E:Env} (hE:HRel E) {x:V} {v:Value} (h:VRel E x v):(x.view E.H).lt 0=true->VRel E.shut (x.view E.H) v:=by
 induction h with
 |one h=>intro hl;exact .one (z19 hE h hl)
 |agg hn h=>
  intro hl;refine .agg (by simpa using hn) fun j c I=>?_
  have hm:=ltRow_iff.1 (show zem 0 _=true from hl) c (Wad I)
  simp only[Wao,Wal]at I;obtain⟨c0,U,rfl⟩:=I;exact z19 hE (h j c0 U) hm
 |tup hn h ih=>
  intro hl;simp only[V.view,V.lt,zz3]at hl|-;refine .tup (by simpa using hn) fun j x I=>?_
  have hm:=Wad I
  have hx:=ltVs_iff.1 hl x hm
  simp only[Wao,Wal]at I;obtain⟨x0,aa,rfl⟩:=I;exact ih j x0 aa hx
 |un=>intro _;exact .un
theorem yay {P:Program} {f:FuncId} {fn:Func} {c:Code} (hf:P.funcs[f]? =some fn) (hb:fn.body=some c) (I:(fn.name== "runtime.NumGoroutine")=false) (aa:okC fn.ntmps c=true)
  {args:List V} {x:V} (h:awp P ⟨fn.ntmps,0⟩ c ⟨zm7 0 args,[]⟩ (endK P fn.results.toList fun v H=>v.view H=x/\x.lt 0=true)):Pu P f args x:=by
 have:=zvl (H:=[]) hf hb I aa h
 refine⟨this.1,fun E vs h1 h2 h3 h4=>Calls.mono (this.2 E vs h1 h2 h3 h4) ?_⟩;rintro e w' ⟨v,y,E',rfl,rfl,⟨rfl,hl⟩,hv,hh,tr⟩;refine⟨v,_,E'.shut,rfl,rfl,⟨rfl,rfl⟩,zw4 hh hv hl,zvt hh,?_⟩
 have e0:∀b,¬E.own b:=by rintro b ⟨id,o,U,_⟩;simp[h2]at U
 refine⟨tr.fr,tr.size,tr.os,tr.tape,tr.output,fun b hb _=>tr.keep b hb (e0 b),?_,by simp[h2],by simp[Env.shut],by simp[Env.shut]⟩;rintro b hb ⟨id,o,U,_⟩;simp[Env.shut]at U
def C.own:C->Bool
 |.msl .. =>true
 |.ref .. =>true
 |.fn _ cap=> !cap.isEmpty
 |.ifc _ cs=> !cs.isEmpty
 |_=>false
def V.own:V->Bool
 |.agg cs=>cs.any C.own
 |.one c=>c.own
 |.tup _=>true
 |.un=>false
def C.scalar:C->Bool
 |.int .. |.bool _|.str _|.nilp|.nilif|.nilfn|.nilm=>true
 |_=>false
mutual
def V.scalar:V->Bool
 |.one c=>c.scalar
 |.agg cs=>cs.all C.scalar
 |.tup vs=>zyc vs
 |.un=>true
def zyc:List V->Bool
 |[]=>true
 |v::vs=>v.scalar&&zyc vs
end
theorem scalars_iff:∀{l:List V},zyc l=true↔∀c∈l,c.scalar=true
 |[]=>by simp[zyc]
 |c::r=>by simp[zyc,scalars_iff (l:=r)]
theorem z1n {E E':Env} {c:C} {v:Value} (h:CRel E c v) (I:c.scalar=true):CRel E' c v:=by
 cases h with
 |int h=>exact .int h
 |bool=>exact .bool
 |str h hl=>exact .str h hl
 |nilfn=>exact .nilfn
 |nilif=>exact .nilif
 |nilp=>exact .nilp
 |nilm=>exact .nilm
 |_=>simp[C.scalar]at I
theorem z5g {E E':Env} {x:V} {v:Value} (h:VRel E x v):x.scalar=true->VRel E' x v:=by
 induction h with
 |one h=>intro I;exact .one (z1n h I)
 |agg hn h=>
  intro I;exact .agg hn fun j c U=>z1n (h j c U) (Wak.1 (show _=true from I) c (Wad U))
 |tup hn h ih=>
  intro I;exact .tup hn fun j x U=>ih j x U (scalars_iff.1 I x (Wad U))
 |un=>intro _;exact .un
theorem zvn {P:Program} {f:FuncId} {args aa:List V} {H:List O} {x:V} {K:V->List O->Prop} (h:Pu P f aa x) (ha:args.map (V.view H)=aa) (hl:ltVs 0 aa=true) (hx:x.lt 0=true)
  (hb:args.all (fun a=> !a.own)=true\/x.scalar=true) (hk:K x H):Ct P f args H K:=by
 refine⟨h.1,fun E vs hE hH hn hv=>?_⟩;subst hH;subst ha
 have main:∀(Fr:Nat->Prop),(∀b,Fr b->b<E.w.heap.size)->(∀b,E.free b->¬Fr b)->(∀(j:Nat) (y:V),args[j]? =some y->VRel ⟨E.w,Fr,E.bd,[]⟩ (y.view E.H) (vs.getD j undef))->
   (∀(E':Env) (v:Value),E'.H=[]->E'.Fr=Fr->Trans ⟨E.w,Fr,E.bd,[]⟩ E'->VRel E' x v->VRel ⟨E'.w,E.Fr,E.bd,E.H⟩ x v)->
   Calls P f vs E.w fun e w'=>∃v x E',e=.returned v/\E'.w=w'/\K x E'.H/\VRel E' x v/\HRel E'/\Trans E E':=by
  intro Fr ad aq ai aj;refine Calls.mono (h.2 ⟨E.w,Fr,E.bd,[]⟩ vs ⟨by simp,by simp,by simp,ad,hE.glob.of (fun b hb=>⟨hb.1,aq b hb,by rintro⟨id,o,ho,_⟩;simp at ho⟩) (fun _ _ _=>rfl)⟩ rfl (by simpa using hn) (fun j y U=>?_)) ?_
  ·simp only[Wao,Wal]at U
   obtain⟨z,hz,rfl⟩:=U;exact ai j z hz
  ·rintro e w' ⟨v,y,E',rfl,rfl,⟨rfl,af⟩,ar,hh,tr⟩
   obtain⟨t2,au⟩:=zi9 hE E'.w tr.size tr.os tr.tape tr.output (fun b hb=>tr.keep b hb (by rintro⟨id,o,ho,_⟩;simp at ho));exact⟨v,y,⟨E'.w,E.Fr,E.bd,E.H⟩,rfl,rfl,hk,aj E' v af tr.fr tr ar,au,t2⟩
 have ak:∀(j:Nat) (y:V),args[j]? =some y->(y.view E.H).lt 0=true:=fun j y U=>ltVs_iff.1 hl _ (Wau.2 ⟨y,Wad U,rfl⟩)
 rcases hb with hb|hb
 ·--nothing is ao
  refine main (fun b=>E.Fr b\/E.own b) (fun b hb=>hb.elim (hE.frlt b) hE.own_lt) (fun b hb h=>h.elim hb.2.1 hb.2.2) (fun j y U=>?_) (fun E' v af ad tr hv=>?_)
  ·have ab:y.own=false:=by
    have:=Wak.1 hb y (Wad U);simpa using this
   have hr:=hv j y U
   have al:=ak j y U
   have I:∀b,E.free b->(⟨E.w,fun b=>E.Fr b\/E.own b,E.bd,[]⟩:Env).free b:=fun b hb=>⟨hb.1,fun h=>h.elim hb.2.1 hb.2.2,by rintro⟨id,o,ho,_⟩;simp at ho⟩
   have cell:∀{c:C} {u:Value},CRel E c u->c.own=false->(c.view E.H).lt 0=true->CRel ⟨E.w,fun b=>E.Fr b\/E.own b,E.bd,[]⟩ (c.view E.H) u:=by
    intro c u hc ho ae
    cases c with
    |msl id ver lo hi=>simp[C.own]at ho
    |ref id ver r off=>simp[C.own]at ho
    |fn f cap=>
     have:cap=[]:=by simpa [C.own]using ho
     subst this;exact hc.into (m:=0) I (fun _ _ _=>rfl) (fun id h=>by omega) ae
    |ifc t cap=>
     have:cap=[]:=by simpa [C.own]using ho
     subst this;exact hc.into (m:=0) I (fun _ _ _=>rfl) (fun id h=>by omega) ae
    |slf rows=>exact(zlh hc).1.into (m:=0) I (fun _ _ _=>rfl) (fun id h=>by omega) ae
    |_=>exact hc.into (m:=0) I (fun _ _ _=>rfl) (fun id h=>by omega) ae
   generalize vs.getD j undef=u at hr
   cases hr with
   |one hc=>exact .one (cell hc ab al)
   |agg hn h=>
    refine .agg (by simpa using hn) fun k c hk=>?_
    have hm:=ltRow_iff.1 (show zem 0 _=true from al) c (Wad hk)
    simp only[Wao,Wal]at hk;obtain⟨c0,an,rfl⟩:=hk;refine cell (h k c0 an) ?_ hm
    have:=Wb6.1 (show List.any _ C.own=false from ab) c0 (Wad an)
    simpa using this
   |tup hn h=>simp[V.own]at ab
   |un=>exact .un
  ·have I:∀b,E'.free b->(⟨E'.w,E.Fr,E.bd,E.H⟩:Env).free b:=fun b hb=>by
    have h1:=hb.2.1
    rw[ad]at h1;exact⟨hb.1,fun h=>h1 (.inl h),fun h=>h1 (.inr h)⟩
   exact VRel.into (E:=E') (m:=0) I (fun _ _ _=>rfl) (fun id h=>by omega) hv hx
 ·--av is ao aw not ax back
  refine main E.Fr hE.frlt (fun b hb=>hb.2.1) (fun j y U=>?_) (fun E' v af ad tr hv=>z5g hv hb);exact zw4 hE (hv j y U) (ak j y U)
end Go.Lz

end
