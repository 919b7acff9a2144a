/- The parts of a proof: V141 -/
import Derived.Test.YtcceddpmmgabjaaGreatQt5
set_option linter.unusedVariables false
set_option linter.unusedSimpArgs false
open Go.Proofs.Tryz
section
namespace Go.Lz
open Go.Proofs
attribute [-go_sem] zl6 g_b gd_b
set_option maxRecDepth 100000
set_option maxHeartbeats 4000000
theorem zsq {p:xtm} {r:Int} (h:zgd p=some r):
  Pu prog 79 [.agg (xtr p)] (.one (.int .i64 r)):=by
 have F:=trivial;have R:=trivial
 refine pA func79 ?_;simp only[f79];unfold zgd at h;refine bi h fun aH h aW=>?_;refine tt ?_;refine zw8 3 1 (by simp[go_sem]) ?_
 refine lE (fun(an:(List Str)×Nat) (ao:Nat)=>match an,ao with|(aI,aJ),aq=>⟨[(1,.one (.ref 0 0 0 0)),(3,.one (.msl 1 aq 0 aI.length)),(4,.one (.int .i64 (aJ:Int)))],[.cells 0 6 [(eP_ p)],.cells aq 1 (aI.map eS)]⟩) (fun(ar:List Str) (au:Nat)=>match ar,au with|aH,b6=>⟨[(1,.one (.ref 0 0 0 0)),(3,.one (.msl 1 b6 0 aH.length))],[.cells 0 6 [(eP_ p)],.cells b6 1 (aH.map eS)]⟩) (fun(_:List Str)=>some 0) 0 aW ?_ ?_
 intro i6 b6 bj;obtain rfl:=Wab bj;dsimp only at h|-;refine bi h fun aw h aP=>?_;refine tt ?_
 refine lE (fun(an:(List Str)×Nat) (ao:Nat)=>match an,ao with|(ax,ay),aj=>⟨[(1,.one (.ref 0 0 0 0)),(3,.one (.msl 1 aj 0 ax.length)),(5,.one (.int .i64 (ay:Int)))],[.cells 0 6 [(eP_ p)],.cells aj 1 (ax.map eS)]⟩) (fun(ar:List Str) (au:Nat)=>match ar,au with|aw,aG=>⟨[(1,.one (.ref 0 0 0 0)),(3,.one (.msl 1 aG 0 aw.length))],[.cells 0 6 [(eP_ p)],.cells aG 1 (aw.map eS)]⟩) (fun(_:List Str)=>some 2) b6 aP ?_ ?_
 intro i15 aG aX;obtain rfl:=Wab aX;dsimp only at h|-;refine bi h fun I h aQ=>?_;refine tt ?_
 refine lE (fun(an:(List Str)×Nat) (ao:Nat)=>match an,ao with|(az,aA),ak=>⟨[(1,.one (.ref 0 0 0 0)),(3,.one (.msl 1 ak 0 az.length)),(6,.one (.int .i64 (aA:Int)))],[.cells 0 6 [(eP_ p)],.cells ak 1 (az.map eS)]⟩) (fun(ar:List Str) (au:Nat)=>match ar,au with|I,af=>⟨[(1,.one (.ref 0 0 0 0)),(3,.one (.msl 1 af 0 I.length))],[.cells 0 6 [(eP_ p)],.cells af 1 (I.map eS)]⟩) (fun(_:List Str)=>some 4) aG aQ ?_ ?_
 intro i24 af aY;obtain rfl:=Wab aY;dsimp only at h|-;refine bi h fun aZ h aR=>?_;refine tt ?_
 refine lX aR (fun|al,_=>⟨[(1,.one (.ref 0 0 0 0)),(3,.one (.msl 1 af 0 I.length)),(7,.one (.int .i64 (al:Int)))],[.cells 0 6 [(eP_ p)],.cells af 1 (I.map eS)]⟩) (fun|(.inl bD),_=>⟨[],[]⟩|(.inr ()),_=>⟨[(1,.one (.ref 0 0 0 0))],[.cells 0 6 [(eP_ p)],.cells af 1 (I.map eS)]⟩) (fun|(.inl _)=>none|(.inr _)=>some 6) ?_ ?_
 intro i30 bl aK
 rcases aZ with av|⟨⟩
 cases aK;obtain rfl:=Wab aK;obtain⟨⟩:=bl;dsimp only at h|-;refine bi h fun a4 h aS=>?_;refine tt ?_
 refine lX aS (fun|aB,_=>⟨[(1,.one (.ref 0 0 0 0)),(9,.one (.int .i64 (aB:Int)))],[.cells 0 6 [(eP_ p)],.cells af 1 (I.map eS)]⟩) (fun|(.inl bE),_=>⟨[],[]⟩|(.inr ()),_=>⟨[],[.cells 0 6 [(eP_ p)],.cells af 1 (I.map eS)]⟩) (fun|(.inl _)=>none|(.inr _)=>some 10) ?_ ?_
 intro i40 bm aL
 rcases a4 with av|⟨⟩
 cases aL;obtain rfl:=Wab aL;obtain⟨⟩:=bm;dsimp only at h|-;cases h;exact fin;intro a5 bN aB bn bO U aC a6;obtain⟨⟩:=bn;dsimp only[zgw]at U|-;refine tr ?_;intros;refine fl U F ?_ ?_<;>intro U _ F;refine bx U F fun bF U bw F=>?_;refine bi U fun bG U aT=>?_;refine tr ?_;intros;refine cD (zsp aT) ?_;refine tr ?_;intros;refine fv U F ?_ ?_<;>intro U _ F;cases U;refine tt ?_;refine wn aB F fun F=>?_
 exact bk a6 aC ();cases U;obtain rfl:=sr aC
 try dsimp only at h
 cases h;exact fin;cases U;refine tt ?_;exact xt aC a5 ();intro a7 bP al bo bQ ab aD a8;obtain⟨⟩:=bo;dsimp only[zjt]at ab|-;refine tr ?_;intros;refine fl ab F ?_ ?_<;>intro ab _ F;refine bi ab fun a9 ab aU=>?_;refine tt ?_
 refine lX aU (fun|aE,_=>⟨[(1,.one (.ref 0 0 0 0)),(3,.one (.msl 1 af 0 I.length)),(7,.one (.int .i64 (al:Int))),(8,.one (.int .i64 (aE:Int)))],[.cells 0 6 [(eP_ p)],.cells af 1 (I.map eS)]⟩) (fun|(.inl bH),_=>⟨[],[]⟩|(.inr ()),_=>⟨[(1,.one (.ref 0 0 0 0)),(3,.one (.msl 1 af 0 I.length)),(7,.one (.int .i64 (al:Int)))],[.cells 0 6 [(eP_ p)],.cells af 1 (I.map eS)]⟩) (fun|(.inl _)=>none|(.inr _)=>some 8) ?_ ?_
 intro i33 bp aM
 rcases a9 with av|⟨⟩
 cases aM;obtain rfl:=Wab aM;obtain⟨⟩:=bp;dsimp only at ab|-;cases ab;refine tt ?_;refine wn al F fun F=>?_;exact bk a8 aD ();intro ba bR aE bq bS aa aF bb;obtain⟨⟩:=bq;dsimp only[zjs]at aa|-;refine fl aa F ?_ ?_<;>intro aa _ F;refine bx aa F fun bI aa bz F=>?_;refine bx aa F fun bJ aa bA F=>?_;refine tr ?_;intros;refine fi aa F ?_ ?_<;>intro aa _ F;cases aa;obtain rfl:=sr aF
 try dsimp only at ab
 cases ab;obtain rfl:=sr aD
 try dsimp only at h
 cases h;exact fin;cases aa;refine tt ?_;refine wn aE F fun F=>?_;exact bk bb aF ();cases aa;refine tt ?_;exact xt aF ba ();cases ab;refine tt ?_;exact xt aD a7 ();intro bc bT br ak bU ad aN bf;obtain⟨az,aA⟩:=br;dsimp only[zgx]at ad|-;refine tr ?_;intros;refine fl ad F ?_ ?_<;>intro ad _ F;refine bx ad F fun bK ad bB F=>?_;refine nd ad F fun ad F=>?_;cases ad;refine tr ?_;intros;refine wn aA F fun F=>?_
 exact bk bf aN (ak+1);cases ad;refine tt ?_;exact xt aN bc ak;intro bg bV bs aj bW ae aO bh;obtain⟨ax,ay⟩:=bs;dsimp only[zgy]at ae|-;refine tr ?_;intros;refine fl ae F ?_ ?_<;>intro ae _ F;refine bx ae F fun bL ae bC F=>?_;refine nd ae F fun ae F=>?_;cases ae;refine tr ?_;intros;refine wn ay F fun F=>?_;exact bk bh aO (aj+1);cases ae;refine tt ?_;exact xt aO bg aj;intro bt m6 s6 aq o6 ai aV bu
 obtain⟨aI,aJ⟩:=s6;dsimp only[zgz]at ai|-;refine tr ?_;intros;refine fl ai F ?_ ?_<;>intro ai _ F;refine bx ai F fun bX ai bM F=>?_;refine nd ai F fun ai F=>?_;cases ai;refine tr ?_;intros;refine wn aJ F fun F=>?_;exact bk bu aV (aq+1);cases ai;refine tt ?_;exact xt aV bt aq
theorem zl9 {kind:Str} {r:List Int} (h:zdx kind=some r):
  Pu prog 114 [.one (.str kind)] (.one (.sl (r.map eI))):=by
 have F:=trivial;have R:=trivial
 refine pA func114 ?_;simp only[f114];unfold zdx at h;refine fi h F ?_ ?_<;>intro h _ F;cases h;exact fin;refine fi h F ?_ ?_<;>intro h _ F;cases h;exact fin;refine tt ?_;refine fi h F ?_ ?_<;>intro h _ F;cases h;exact fin;refine fi h F ?_ ?_<;>intro h _ F;cases h;exact fin;refine fi h F ?_ ?_<;>intro h _ F;cases h;exact fin;refine fi h F ?_ ?_<;>intro h _ F;cases h;exact fin;refine tt ?_
 refine fi h F ?_ ?_<;>intro h _ F;cases h;exact fin;refine fi h F ?_ ?_<;>intro h _ F;cases h;exact fin;refine fi h F ?_ ?_<;>intro h _ F;cases h;exact fin;refine fi h F ?_ ?_<;>intro h _ F;cases h;exact fin;cases h;exact fin
theorem zlp {kind:Str} {r:List Int} (h:za5 kind=some r):
  Pu prog 46 [.one (.str kind)] (.one (.sl (r.map eI))):=by
 have F:=trivial;have R:=trivial
 refine pA func46 ?_;simp only[f46];unfold za5 at h;refine fi h F ?_ ?_<;>intro h _ F;cases h;exact fin;refine fi h F ?_ ?_<;>intro h _ F;cases h;exact fin;refine tt ?_;refine fi h F ?_ ?_<;>intro h _ F;cases h;exact fin;refine fi h F ?_ ?_<;>intro h _ F;cases h;exact fin;refine fi h F ?_ ?_<;>intro h _ F;cases h;exact fin;refine fi h F ?_ ?_<;>intro h _ F;cases h;exact fin;refine tt ?_
 refine fi h F ?_ ?_<;>intro h _ F;cases h;exact fin;refine fi h F ?_ ?_<;>intro h _ F;cases h;exact fin;refine fi h F ?_ ?_<;>intro h _ F;cases h;exact fin;refine fi h F ?_ ?_<;>intro h _ F;cases h;exact fin;cases h;exact fin
theorem zf2 {op:Int} {kind:Int} {r:Int} (h:zag op kind=some r):
  Pu prog 48 [.one (.int .i64 op),.one (.int .i64 kind)] (.one (.int .i64 r)):=by
 have F:=trivial;have R:=trivial
 refine pA func48 ?_;simp only[f48];unfold zag at h;refine bi h fun U h I=>?_;refine tr ?_;intros;refine cS (zii I) ?_;refine fi h F ?_ ?_<;>intro h _ F;cases h;exact fin;refine tt ?_;refine fi h F ?_ ?_<;>intro h _ F;refine fi h F ?_ ?_<;>intro h _ F;cases h;exact fin;cases h;exact fin;refine fi h F ?_ ?_<;>intro h _ F;refine tt ?_;refine fi h F ?_ ?_<;>intro h _ F;refine fi h F ?_ ?_<;>intro h _ F
 cases h;exact fin;cases h;exact fin;refine fi h F ?_ ?_<;>intro h _ F;refine tt ?_;refine fi h F ?_ ?_<;>intro h _ F;cases h;exact fin;cases h;exact fin;refine fi h F ?_ ?_<;>intro h _ F;refine tt ?_;refine fi h F ?_ ?_<;>intro h _ F;refine fi h F ?_ ?_<;>intro h _ F;cases h;exact fin;cases h;exact fin;refine fi h F ?_ ?_<;>intro h _ F;cases h;exact fin;refine tt ?_;refine fi h F ?_ ?_<;>intro h _ F
 cases h;exact fin;refine fi h F ?_ ?_<;>intro h _ F;refine tt ?_;refine fi h F ?_ ?_<;>intro h _ F;refine fi h F ?_ ?_<;>intro h _ F;cases h;exact fin;cases h;exact fin;cases h;exact fin;cases h;exact fin;refine tt ?_;refine fi h F ?_ ?_<;>intro h _ F;cases h;exact fin;refine fi h F ?_ ?_<;>intro h _ F;cases h;exact fin;refine tt ?_;refine fi h F ?_ ?_<;>intro h _ F;refine fi h F ?_ ?_<;>intro h _ F
 refine fi h F ?_ ?_<;>intro h _ F;cases h;exact fin;cases h;exact fin;cases h;exact fin;cases h;exact fin;refine tt ?_;refine fi h F ?_ ?_<;>intro h _ F;refine fi h F ?_ ?_<;>intro h _ F;cases h;exact fin;cases h;exact fin;refine fi h F ?_ ?_<;>intro h _ F;refine tt ?_;refine fi h F ?_ ?_<;>intro h _ F;refine fi h F ?_ ?_<;>intro h _ F;cases h;exact fin;cases h;exact fin;refine fi h F ?_ ?_<;>intro h _ F
 cases h;exact fin;refine tt ?_;refine fi h F ?_ ?_<;>intro h _ F;cases h;exact fin;refine fi h F ?_ ?_<;>intro h _ F;refine tt ?_;refine fi h F ?_ ?_<;>intro h _ F;refine fi h F ?_ ?_<;>intro h _ F;cases h;exact fin;cases h;exact fin;cases h;exact fin;cases h;exact fin;refine tt ?_;refine fi h F ?_ ?_<;>intro h _ F;cases h;exact fin;refine fi h F ?_ ?_<;>intro h _ F;cases h;exact fin
 refine tt ?_;refine fi h F ?_ ?_<;>intro h _ F;refine fi h F ?_ ?_<;>intro h _ F;refine fi h F ?_ ?_<;>intro h _ F;cases h;exact fin;cases h;exact fin;cases h;exact fin;cases h;exact fin
theorem zrc {U:xtm->xtn->Option Int} {p:xtm} {e:xtn} {r:Int}
  (I:∀(x0:xtm) (x1:xtn) (r:Int),U x0 x1=some r->Pu prog 18 [.agg (xtr x0),.agg (xto x1)] (.one (.int .i64 r))) (h:zat U p e=some r):
  Pu prog 18 [.agg (xtr p),.agg (xto e)] (.one (.int .i64 r)):=by
 have F:=trivial;have R:=trivial
 refine pA func18 ?_;simp only[f18];unfold zat at h;refine tt ?_;refine fi h F ?_ ?_<;>intro h _ F;cases h;exact fin;refine fi h F ?_ ?_<;>intro h _ F;refine bi h fun aK h aj=>?_;refine tr ?_;intros;refine cS (za1 aj) ?_;refine tr ?_;intros;refine fi h F ?_ ?_<;>intro h _ F;cases h;exact fin;refine by_ h F fun aL h aw F=>?_;refine tr ?_;intros;refine fv h F ?_ ?_<;>intro h _ F;refine tr ?_
 intros;refine fi h F ?_ ?_<;>intro h _ F;exact(by omega:False).elim;cases h;exact fin;cases h;exact fin;refine fi h F ?_ ?_<;>intro h _ F;refine bi h fun aM h ak=>?_;refine tr ?_;intros;refine cS (za1 ak) ?_;refine tr ?_;intros;refine fi h F ?_ ?_<;>intro h _ F;cases h;exact fin;refine by_ h F fun aN h ax F=>?_;refine tr ?_;intros;refine fi h F ?_ ?_<;>intro h _ F;refine bx h F fun aO h ay F=>?_
 refine bi h fun aP h al=>?_;refine tr ?_;intros;refine cD (I _ _ _ al) ?_;refine tr ?_;intros;refine fi h F ?_ ?_<;>intro h _ F;cases h;exact fin;cases h;exact fin;cases h;exact fin;refine fi h F ?_ ?_<;>intro h _ F;refine bi h fun aQ h an=>?_;refine tr ?_;intros;refine cS (zcb an) ?_;refine fi h F ?_ ?_<;>intro h _ F;cases h;exact fin;refine by_ h F fun aR h az F=>?_;refine bi h fun aS h ao=>?_
 refine tr ?_;intros;refine cS (zlp ao) ?_;refine fi h F ?_ ?_<;>intro h _ F;cases h;exact fin;refine tr ?_;intros;refine fi h F ?_ ?_<;>intro h _ F;cases h;exact fin;refine by_ h F fun aA h aq F=>?_;cases h;exact fin;refine tt ?_;refine fi h F ?_ ?_<;>intro h _ F;refine bi h fun aB h aa=>?_;refine tr ?_;intros;refine cS (zex aa) ?_;refine fi h F ?_ ?_<;>intro h _ F;cases h;exact fin
 refine bx h F fun aC h ar F=>?_;refine bi h fun aD h ab=>?_;refine tr ?_;intros;refine cD (I _ _ _ ab) ?_;cases h;exact fin;refine bx h F fun aE h au F=>?_;refine bi h fun aF h ad=>?_;refine tr ?_;intros;refine cD (I _ _ _ ad) ?_;refine tr ?_;intros;refine fi h F ?_ ?_<;>intro h _ F;refine bx h F fun aG h av F=>?_;refine bi h fun aH h ae=>?_;refine tr ?_;intros;refine cD (I _ _ _ ae) ?_
 refine tr ?_;intros;refine fi h F ?_ ?_<;>intro h _ F;refine bi h fun aI h af=>?_;refine tr ?_;intros;refine cS (zf2 af) ?_;cases h;exact fin;cases h;exact fin;refine bi h fun aJ h ai=>?_;refine tr ?_;intros;refine cS (zf2 ai) ?_;cases h;exact fin
theorem zrb (n:Nat):(∀(I:xtm) (U:xtn) (r:Int),(zao n) I U=some r->Pu prog 18 [.agg (xtr I),.agg (xto U)] (.one (.int .i64 r))):=by
 induction n with
 |zero=>exact fun _ _ r h=>(by cases h)
 |succ n ih=>
  have aa:=ih
  exact fun _ _ r h=>zrc aa h
theorem za4 {p:xtm} {e:xtn} {r:Int} (h:zaj p e=some r):Pu prog 18 [.agg (xtr p),.agg (xto e)] (.one (.int .i64 r)):=(zrb 1000000) _ _ _ h
theorem zra {aa:(List xtp)->Str->Option Bool} {l:List xtp} {name:Str} {r:Bool}
  (I:∀(x0:List xtp) (x1:Str) (r:Bool),aa x0 x1=some r->Pu prog 196 [.one (.sl (x0.map xts)),.one (.str x1)] (.one (.bool r))) (h:zfh aa l name=some r):
  Pu prog 196 [.one (.sl (l.map xts)),.one (.str name)] (.one (.bool r)):=by
 have F:=trivial;have R:=trivial
 refine pA func196 ?_;simp only[f196];unfold zfh at h;refine bi h fun ao h af=>?_;refine tt ?_
 refine lX af (fun|ab,_=>⟨[(0,.one (.sl (l.map xts))),(1,.one (.str name)),(5,.one (.int .i64 (ab:Int)))],[]⟩) (fun|(.inl ar),_=>⟨[],[]⟩|(.inr ()),_=>⟨[],[]⟩) (fun|(.inl _)=>none|(.inr _)=>some 0) ?_ ?_
 intro i3 b3 ae
 rcases ao with aq|⟨⟩
 cases ae;obtain rfl:=Wab ae;obtain⟨⟩:=b3;dsimp only at h|-;cases h;exact fin;intro af3 m3 ab a3 o3 U ho3 ih3;obtain⟨⟩:=a3;dsimp only[zh2]at U|-;refine tr ?_;intros;refine fl U F ?_ ?_<;>intro U _ F;refine bx U F fun aw U au F=>?_;refine tr ?_;intros;refine fi U F ?_ ?_<;>intro U _ F;refine tt ?_;refine fi U F ?_ ?_<;>intro U _ F;cases U;obtain rfl:=sr ho3
 try dsimp only at h
 cases h;exact fin;refine fi U F ?_ ?_<;>intro U _ F;exact(by omega:False).elim;refine bi U fun ax U ai=>?_;refine tr ?_;intros;refine cS (I _ _ _ ai) ?_;refine fv U F ?_ ?_<;>intro U _ F;cases U;obtain rfl:=sr ho3
 try dsimp only at h
 cases h;exact fin;refine bi U fun ay U aj=>?_;refine tr ?_;intros;refine cS (I _ _ _ aj) ?_;refine fv U F ?_ ?_<;>intro U _ F;cases U;obtain rfl:=sr ho3
 try dsimp only at h
 cases h;exact fin;cases U;refine tt ?_;refine wn ab F fun F=>?_;exact bk ih3 ho3 ();refine fi U F ?_ ?_<;>intro U _ F;refine tt ?_;refine fi U F ?_ ?_<;>intro U _ F;cases U;obtain rfl:=sr ho3
 try dsimp only at h
 cases h;exact fin;refine bi U fun az U ak=>?_;refine tr ?_;intros;refine cS (I _ _ _ ak) ?_;refine fv U F ?_ ?_<;>intro U _ F;cases U;obtain rfl:=sr ho3
 try dsimp only at h
 cases h;exact fin;refine bi U fun aA U al=>?_;refine tr ?_;intros;refine cS (I _ _ _ al) ?_;refine fv U F ?_ ?_<;>intro U _ F;cases U;obtain rfl:=sr ho3
 try dsimp only at h
 cases h;exact fin;cases U;refine tt ?_;refine wn ab F fun F=>?_;exact bk ih3 ho3 ();refine bi U fun aB U an=>?_;refine tr ?_;intros;refine cS (I _ _ _ an) ?_;refine fv U F ?_ ?_<;>intro U _ F;cases U;obtain rfl:=sr ho3
 try dsimp only at h
 cases h;exact fin;refine bi U fun av U ad=>?_;refine tr ?_;intros;refine cS (I _ _ _ ad) ?_;refine fv U F ?_ ?_<;>intro U _ F;cases U;obtain rfl:=sr ho3
 try dsimp only at h
 cases h;exact fin;cases U;refine tt ?_;refine wn ab F fun F=>?_;exact bk ih3 ho3 ();cases U;refine tt ?_;exact xt ho3 af3 ()
theorem zq9 (n:Nat):(∀(I:List xtp) (U:Str) (r:Bool),(zfg n) I U=some r->Pu prog 196 [.one (.sl (I.map xts)),.one (.str U)] (.one (.bool r))):=by
 induction n with
 |zero=>exact fun _ _ r h=>(by cases h)
 |succ n ih=>
  have aa:=ih
  exact fun _ _ r h=>zra aa h
theorem znc {l:List xtp} {name:Str} {r:Bool} (h:zhl l name=some r):Pu prog 196 [.one (.sl (l.map xts)),.one (.str name)] (.one (.bool r)):=(zq9 1000000) _ _ _ h
theorem ztw {p:xtm} {s:xtp} {r:Bool} (h:zhm p s=some r):
  Pu prog 178 [.agg (xtr p),.agg (xts s)] (.one (.bool r)):=by
 have F:=trivial;have R:=trivial
 refine pA func178 ?_;simp only[f178];unfold zhm at h;refine bi h fun au h aa=>?_;refine tr ?_;intros;refine cS (za1 aa) ?_;refine fi h F ?_ ?_<;>intro h _ F;cases h;exact fin;refine by_ h F fun av h aj F=>?_;refine tr ?_;intros;refine fi h F ?_ ?_<;>intro h _ F;refine fi h F ?_ ?_<;>intro h _ F;refine tt ?_;refine fi h F ?_ ?_<;>intro h _ F;refine bx h F fun aw h ak F=>?_;refine bi h fun ax h ab=>?_
 refine tr ?_;intros;refine cD (za4 ab) ?_;refine tr ?_;intros;refine fi h F ?_ ?_<;>intro h _ F;refine bx h F fun ay h al F=>?_;refine bi h fun az h ad=>?_;refine tr ?_;intros;refine cD (za4 ad) ?_;refine tr ?_;intros;refine fi h F ?_ ?_<;>intro h _ F;refine bi h fun aA h ae=>?_;refine tr ?_;intros;refine cD (znc ae) ?_;cases h;exact fin;cases h;exact fin;cases h;exact fin;refine fi h F ?_ ?_<;>intro h _ F
 refine bx h F fun aB h an F=>?_;refine bi h fun aC h af=>?_;refine tr ?_;intros;refine cD (za4 af) ?_;refine tr ?_;intros;refine fi h F ?_ ?_<;>intro h _ F;refine bx h F fun ao h ai F=>?_;refine bi h fun aq h I=>?_;refine tr ?_;intros;refine cD (za4 I) ?_;refine tr ?_;intros;refine fi h F ?_ ?_<;>intro h _ F;refine bi h fun ar h U=>?_;refine tr ?_;intros;refine cD (znc U) ?_;cases h;exact fin
 cases h;exact fin;cases h;exact fin;cases h;exact fin;cases h;exact fin;cases h;exact fin
theorem ztx {p:xtm} {s:xtp} {r:Bool} (h:zhn p s=some r):
  Pu prog 179 [.agg (xtr p),.agg (xts s)] (.one (.bool r)):=by
 have F:=trivial;have R:=trivial
 refine pA func179 ?_;simp only[f179];unfold zhn at h;refine bi h fun aw h ad=>?_;refine tr ?_;intros;refine cS (zcb ad) ?_;refine fi h F ?_ ?_<;>intro h _ F;cases h;exact fin;refine by_ h F fun ax h aq F=>?_;refine bi h fun aj h ae=>?_;refine tr ?_;intros;refine cS (zl9 ae) ?_;refine tr ?_;intros;refine fi h F ?_ ?_<;>intro h _ F;refine bi h fun ak h af=>?_;refine tt ?_
 refine lX af (fun|U,_=>⟨[(2,.one (.ref 0 0 0 0)),(3,.one (.ref 1 0 0 0)),(6,.one (.sl (aj.map eI))),(7,.one (.int .i64 (U:Int)))],[.cells 0 6 [(eP_ p)],.cells 0 15 [[.int .i64 s.Kind,.str s.Name,.int .i64 s.Target.Op,.int .i64 s.Target.N,.int .i64 s.Target.Kind,.str s.Target.Name,.sl (s.Target.Args.map xto),.int .i64 s.Value.Op,.int .i64 s.Value.N,.int .i64 s.Value.Kind,.str s.Value.Name,.sl (s.Value.Args.map xto),.sl (s.Args.map xto),.sl (s.Body.map xts),.sl (s.Else.map xts)]]]⟩) (fun|(.inl ar),_=>⟨[],[]⟩|(.inr ()),_=>⟨[],[.cells 0 6 [(eP_ p)],.cells 0 15 [[.int .i64 s.Kind,.str s.Name,.int .i64 s.Target.Op,.int .i64 s.Target.N,.int .i64 s.Target.Kind,.str s.Target.Name,.sl (s.Target.Args.map xto),.int .i64 s.Value.Op,.int .i64 s.Value.N,.int .i64 s.Value.Kind,.str s.Value.Name,.sl (s.Value.Args.map xto),.sl (s.Args.map xto),.sl (s.Body.map xts),.sl (s.Else.map xts)]]]⟩) (fun|(.inl _)=>none|(.inr _)=>some 0) ?_ ?_
 intro i6 b6 ab
 rcases ak with al|⟨⟩
 cases ab;obtain rfl:=Wab ab;obtain⟨⟩:=b6;dsimp only at h|-;cases h;exact fin;intro an m6 U a6 o6 I aa ao;obtain⟨⟩:=a6;dsimp only[zkd]at I|-;refine tr ?_;intros;refine fl I F ?_ ?_<;>intro I _ F;refine bx I F fun ay I au F=>?_;refine bi I fun az I ai=>?_;refine tr ?_;intros;refine cD (za4 ai) ?_;refine bx I F fun aA I av F=>?_;refine tr ?_;intros;refine fi I F ?_ ?_<;>intro I _ F
 cases I;refine tt ?_;refine wn U F fun F=>?_;exact bk ao aa ();cases I;obtain rfl:=sr aa
 try dsimp only at h
 cases h;exact fin;cases I;refine tt ?_;exact xt aa an ();cases h;exact fin
theorem zu0 {p:xtm} {s:xtp} {r:Bool} (h:zfy p s=some r):
  Pu prog 152 [.agg (xtr p),.agg (xts s)] (.one (.bool r)):=by
 have F:=trivial;have R:=trivial
 refine pA func152 ?_;simp only[f152];unfold zfy at h;refine tt ?_;refine fi h F ?_ ?_<;>intro h _ F;refine bi h fun aj h I=>?_;refine tr ?_;intros;refine cS (za1 I) ?_;refine bi h fun ak h U=>?_;refine tr ?_;intros;refine cS (za4 U) ?_;refine fi h F ?_ ?_<;>intro h _ F;refine by_ h F fun al h ai F=>?_;refine tr ?_;intros;refine fi h F ?_ ?_<;>intro h _ F;cases h;exact fin;refine fi h F ?_ ?_<;>intro h _ F
 cases h;exact fin;refine bi h fun an h aa=>?_;refine tr ?_;intros;refine cS (za4 aa) ?_;cases h;exact fin;cases h;exact fin;refine fi h F ?_ ?_<;>intro h _ F;refine bi h fun ao h ab=>?_;refine tr ?_;intros;refine cS (za4 ab) ?_;cases h;exact fin;refine fi h F ?_ ?_<;>intro h _ F;refine bi h fun aq h ad=>?_;refine tr ?_;intros;refine cS (za4 ad) ?_;cases h;exact fin;refine fi h F ?_ ?_<;>intro h _ F
 refine bi h fun ar h ae=>?_;refine tr ?_;intros;refine cS (ztw ae) ?_;cases h;exact fin;refine bi h fun au h af=>?_;refine tr ?_;intros;refine cS (ztx af) ?_;cases h;exact fin
theorem zqj {aa:xtm->(List xtp)->Option Bool} {p:xtm} {l:List xtp} {r:Bool}
  (I:∀(x0:xtm) (x1:List xtp) (r:Bool),aa x0 x1=some r->Pu prog 115 [.agg (xtr x0),.one (.sl (x1.map xts))] (.one (.bool r))) (h:zcj aa p l=some r):
  Pu prog 115 [.agg (xtr p),.one (.sl (l.map xts))] (.one (.bool r)):=by
 have F:=trivial;have R:=trivial
 refine pA func115 ?_;simp only[f115];unfold zcj at h;refine bi h fun ak h ae=>?_;refine tt ?_
 refine lX ae (fun|ab,_=>⟨[(1,.one (.sl (l.map xts))),(2,.one (.ref 0 0 0 0)),(5,.one (.int .i64 (ab:Int)))],[.cells 0 6 [(eP_ p)]]⟩) (fun|(.inl ao),_=>⟨[],[]⟩|(.inr ()),_=>⟨[],[.cells 0 6 [(eP_ p)]]⟩) (fun|(.inl _)=>none|(.inr _)=>some 0) ?_ ?_
 intro i3 b3 ad
 rcases ak with al|⟨⟩
 cases ad;obtain rfl:=Wab ad;obtain⟨⟩:=b3;dsimp only at h|-;cases h;exact fin;intro af3 m3 ab a3 o3 U ho3 ih3;obtain⟨⟩:=a3;dsimp only[zgt]at U|-;refine tr ?_;intros;refine fl U F ?_ ?_<;>intro U _ F;refine bx U F fun aq U an F=>?_;refine bi U fun ar U af=>?_;refine tr ?_;intros;refine cD (zu0 af) ?_;refine tr ?_;intros;refine fv U F ?_ ?_<;>intro U _ F;refine bi U fun au U ai=>?_
 refine tr ?_;intros;refine cD (I _ _ _ ai) ?_;refine tr ?_;intros;refine fv U F ?_ ?_<;>intro U _ F;refine bi U fun av U aj=>?_;refine tr ?_;intros;refine cD (I _ _ _ aj) ?_;refine tr ?_;intros;refine fv U F ?_ ?_<;>intro U _ F;cases U;refine tt ?_;refine wn ab F fun F=>?_;exact bk ih3 ho3 ();cases U;obtain rfl:=sr ho3
 try dsimp only at h
 cases h;exact fin;cases U;obtain rfl:=sr ho3
 try dsimp only at h
 cases h;exact fin;cases U;obtain rfl:=sr ho3
 try dsimp only at h
 cases h;exact fin;cases U;refine tt ?_;exact xt ho3 af3 ()
theorem zqi (n:Nat):(∀(I:xtm) (U:List xtp) (r:Bool),(zdj n) I U=some r->Pu prog 115 [.agg (xtr I),.one (.sl (U.map xts))] (.one (.bool r))):=by
 induction n with
 |zero=>exact fun _ _ r h=>(by cases h)
 |succ n ih=>
  have aa:=ih
  exact fun _ _ r h=>zqj aa h
theorem zsn {p:xtm} {l:List xtp} {r:Bool} (h:zdc p l=some r):Pu prog 115 [.agg (xtr p),.one (.sl (l.map xts))] (.one (.bool r)):=(zqi 1000000) _ _ _ h
theorem zso {p:xtm} {r:Int} (h:zbg p=some r):
  Pu prog 80 [.agg (xtr p)] (.one (.int .i64 r)):=by
 have F:=trivial;have R:=trivial
 refine pA func80 ?_;simp only[f80];unfold zbg at h;refine bi h fun aF h av=>?_;refine tt ?_
 refine lX av (fun|ai,_=>⟨[(1,.one (.ref 0 0 0 0)),(3,.one (.int .i64 (ai:Int)))],[.cells 0 6 [(eP_ p)]]⟩) (fun|(.inl aT),_=>⟨[],[]⟩|(.inr ()),_=>⟨[(1,.one (.ref 0 0 0 0))],[.cells 0 6 [(eP_ p)]]⟩) (fun|(.inl _)=>none|(.inr _)=>some 0) ?_ ?_
 intro i3 b3 au
 rcases aF with ab|⟨⟩
 cases au;obtain rfl:=Wab au;obtain⟨⟩:=b3;dsimp only at h|-;refine bi h fun aw h an=>?_;refine tt ?_
 refine lX an (fun|aj,_=>⟨[(1,.one (.ref 0 0 0 0)),(5,.one (.int .i64 (aj:Int)))],[.cells 0 6 [(eP_ p)]]⟩) (fun|(.inl aM),_=>⟨[],[]⟩|(.inr ()),_=>⟨[(1,.one (.ref 0 0 0 0))],[.cells 0 6 [(eP_ p)]]⟩) (fun|(.inl _)=>none|(.inr _)=>some 2) ?_ ?_
 intro i11 aG ak
 rcases aw with ab|⟨⟩
 cases ak;obtain rfl:=Wab ak;obtain⟨⟩:=aG;dsimp only at h|-;refine bi h fun ax h ao=>?_;refine tt ?_
 refine lX ao (fun|ad,_=>⟨[(1,.one (.ref 0 0 0 0)),(6,.one (.int .i64 (ad:Int)))],[.cells 0 6 [(eP_ p)]]⟩) (fun|(.inl aN),_=>⟨[],[]⟩|(.inr ()),_=>⟨[],[.cells 0 6 [(eP_ p)]]⟩) (fun|(.inl _)=>none|(.inr _)=>some 4) ?_ ?_
 intro i17 aH al
 rcases ax with ab|⟨⟩
 cases al;obtain rfl:=Wab al;obtain⟨⟩:=aH;dsimp only at h|-;cases h;exact fin;intro ay aU ad aI aV U ae az;obtain⟨⟩:=aI;dsimp only[zd7]at U|-;refine tr ?_;intros;refine fl U F ?_ ?_<;>intro U _ F;refine bx U F fun aO U aK F=>?_;refine bi U fun aP U aq=>?_;refine tr ?_;intros;refine cD (zsn aq) ?_;refine tr ?_;intros;refine fv U F ?_ ?_<;>intro U _ F;cases U;refine tt ?_;refine wn ad F fun F=>?_
 exact bk az ae ();cases U;obtain rfl:=sr ae
 try dsimp only at h
 cases h;exact fin;cases U;refine tt ?_;exact xt ae ay ();intro aA aW aj aJ aX aa af aB;obtain⟨⟩:=aJ;dsimp only[zd8]at aa|-;refine tr ?_;intros;refine fl aa F ?_ ?_<;>intro aa _ F;refine bx aa F fun aQ aa aL F=>?_;refine bi aa fun aR aa ar=>?_;refine tr ?_;intros;refine cS (zl9 ar) ?_;refine tr ?_;intros;refine fi aa F ?_ ?_<;>intro aa _ F;cases aa;obtain rfl:=sr af
 try dsimp only at h
 cases h;exact fin;cases aa;refine tt ?_;refine wn aj F fun F=>?_;exact bk aB af ();cases aa;refine tt ?_;exact xt af aA ();intro af3 m3 ai a3 o3 I ho3 ih3;obtain⟨⟩:=a3;dsimp only[zd9]at I|-;refine tr ?_;intros;refine fl I F ?_ ?_<;>intro I _ F;refine bx I F fun aY I aS F=>?_;refine bi I fun aZ I aC=>?_;refine tr ?_;intros;refine cS (zg9 aC) ?_;refine fi I F ?_ ?_<;>intro I _ F;refine fi I F ?_ ?_<;>intro I _ F
 refine bi I fun a4 I aD=>?_;refine tr ?_;intros;refine cS (zha aD) ?_;refine fv I F ?_ ?_<;>intro I _ F;cases I;refine tt ?_;refine wn ai F fun F=>?_;exact bk ih3 ho3 ();cases I;obtain rfl:=sr ho3
 try dsimp only at h
 cases h;exact fin;refine tt ?_;refine fi I F ?_ ?_<;>intro I _ F;refine bi I fun a5 I aE=>?_;refine tr ?_;intros;refine cS (zha aE) ?_;refine fv I F ?_ ?_<;>intro I _ F;cases I;refine tt ?_;refine wn ai F fun F=>?_;exact bk ih3 ho3 ();cases I;obtain rfl:=sr ho3
 try dsimp only at h
 cases h;exact fin;cases I;obtain rfl:=sr ho3
 try dsimp only at h
 cases h;exact fin;cases I;obtain rfl:=sr ho3
 try dsimp only at h
 cases h;exact fin;cases I;refine tt ?_;exact xt ho3 af3 ()
theorem zn7 {p:xtm} {labels:List Int} {r:List Int} (h:zdg p labels=some r):
  Pu prog 49 [.agg (xtr p),.one (.sl (labels.map eI))] (.one (.sl (r.map eI))):=by
 have F:=trivial;have R:=trivial
 refine pA func49 ?_;simp only[f49];unfold zdg at h;refine bi h fun aj h ay=>?_;refine tr ?_;intros;refine zw8 6 1 (by simp[go_sem]) ?_
 refine lE (fun(ak:(List Int)×Nat) (al:Nat)=>match ak,al with|(an,ai),ab=>⟨[(1,.one (.sl (labels.map eI))),(2,.one (.ref 0 0 0 0)),(5,.one (.int .i64 (w64 ((p.Vars.length:Int)+(p.Blocks.length:Int))))),(6,.one (.msl 1 ab 0 an.length)),(7,.one (.int .i64 (ai:Int)))],[.cells 0 6 [(eP_ p)],.cells ab 1 (an.map eI)]⟩) (fun(ao:List Int) (aq:Nat)=>match ao,aq with|aj,b6=>⟨[(2,.one (.ref 0 0 0 0)),(6,.one (.msl 1 b6 0 aj.length))],[.cells 0 6 [(eP_ p)],.cells b6 1 (aj.map eI)]⟩) (fun(_:List Int)=>some 0) 0 ay ?_ ?_
 intro i6 b6 aC;obtain rfl:=Wab aC;dsimp only at h|-;refine bi h fun ad h aw=>?_;refine tt ?_
 refine lE (fun(ak:(List Int)×Nat) (al:Nat)=>match ak,al with|(ae,af),aa=>⟨[(2,.one (.ref 0 0 0 0)),(6,.one (.msl 1 aa 0 ae.length)),(8,.one (.int .i64 (af:Int)))],[.cells 0 6 [(eP_ p)],.cells aa 1 (ae.map eI)]⟩) (fun(ao:List Int) (aq:Nat)=>match ao,aq with|ad,ar=>⟨[(6,.one (.msl 1 ar 0 ad.length))],[.cells 0 6 [(eP_ p)],.cells ar 1 (ad.map eI)]⟩) (fun(_:List Int)=>some 2) b6 aw ?_ ?_
 intro i16 ar az;obtain rfl:=Wab az;dsimp only at h|-;cases h;exact fin;intro aA aI aD aa aJ U au aB;obtain⟨ae,af⟩:=aD;dsimp only[zkz]at U|-;refine tr ?_;intros;refine fl U F ?_ ?_<;>intro U _ F;refine bx U F fun aG U aF F=>?_;refine nd U F fun U F=>?_;cases U;refine tr ?_;intros;refine wn af F fun F=>?_;exact bk aB au (aa+1);cases U;refine tt ?_;exact xt au aA aa;intro aE m6 s6 ab o6 I av ax
 obtain⟨an,ai⟩:=s6;dsimp only[zk0]at I|-;refine fi I F ?_ ?_<;>intro I _ F;refine tr ?_;intros;refine fl I F ?_ ?_<;>intro I _ F;refine bx I F fun aK I aH F=>?_;refine nd I F fun I F=>?_;cases I;refine tr ?_;intros
 have F:=And.intro (z18 ((p.Vars.length:Int)+(p.Blocks.length:Int))) F
 refine wn ai F fun F=>?_;exact bk ax av (ab+1);refine nd I F fun I F=>?_;cases I;refine tr ?_;intros
 have F:=And.intro (z18 ((p.Vars.length:Int)+(p.Blocks.length:Int))) F
 refine wn ai F fun F=>?_;exact bk ax av (ab+1);cases I;refine tt ?_;exact xt av aE ab
theorem zmc {l:xtq} {r:Int} (h:zd2 l=some r):
  Pu prog 88 [.agg (xt5 l)] (.one (.int .i64 r)):=by
 have F:=trivial;have R:=trivial
 refine pA func88 ?_;simp only[f88];unfold zd2 at h;refine bi h fun ao h ak=>?_;refine tt ?_
 refine lX ak (fun|aa,_=>⟨[(1,.one (.ref 0 0 0 0)),(3,.one (.int .i64 (aa:Int)))],[.cells 0 2 [(eQ_ l)]]⟩) (fun|(.inl av),_=>⟨[],[]⟩|(.inr ()),_=>⟨[],[.cells 0 2 [(eQ_ l)]]⟩) (fun|(.inl _)=>none|(.inr _)=>some 0) ?_ ?_
 intro i3 b3 af
 rcases ao with aq|⟨⟩
 cases af;obtain rfl:=Wab af;obtain⟨⟩:=b3;dsimp only at h|-;cases h;exact fin;intro af3 m3 aa a3 o3 I ho3 ih3;obtain⟨⟩:=a3;dsimp only[zd1]at I|-;refine tr ?_;intros;refine fl I F ?_ ?_<;>intro I _ F;refine bi I fun ai I al=>?_;refine tt ?_
 refine lX al (fun|(ab,ad),_=>⟨[(1,.one (.ref 0 0 0 0)),(3,.one (.int .i64 (aa:Int))),(4,.one (.bool ab)),(5,.one (.int .i64 (ad:Int)))],[.cells 0 2 [(eQ_ l)]]⟩) (fun|ai,_=>⟨[(1,.one (.ref 0 0 0 0)),(3,.one (.int .i64 (aa:Int))),(4,.one (.bool ai))],[.cells 0 2 [(eQ_ l)]]⟩) (fun _=>some 2) ?_ ?_
 intro i7 b7 ar;obtain rfl:=Wab ar;obtain⟨⟩:=b7;dsimp only at I|-;refine fv I F ?_ ?_<;>intro I _ F;cases I;obtain rfl:=sr ho3
 try dsimp only at h
 cases h;exact fin;cases I;refine tt ?_;refine wn aa F fun F=>?_;exact bk ih3 ho3 ();intro aj m7 s7 a7 o7 U ae au;obtain⟨ab,ad⟩:=s7;obtain⟨⟩:=a7;dsimp only[zcq]at U|-;refine tr ?_;intros;refine fl U F ?_ ?_<;>intro U _ F;refine fv U F ?_ ?_<;>intro U _ F;refine bi U fun aw U an=>?_;refine tr ?_;intros;refine cS (zak an) ?_;cases U;refine tt ?_;refine wn ad F fun F=>?_;exact bk au ae ()
 cases U;refine tt ?_;exact xt ae aj ();cases U;refine tt ?_;exact xt ae aj ();cases I;refine tt ?_;exact xt ho3 af3 ()
theorem zs1 {l:xtq} {labels:List Int} {rules:List (A2 Int)} {r:Bool} (h:zgm l labels rules=some r):
  Pu prog 153 [.agg (xt5 l),.one (.sl (labels.map eI)),.one (.sl (rules.map (eA2 eI)))] (.one (.bool r)):=by
 have F:=trivial;have R:=trivial
 refine pA func153 ?_;simp only[f153];unfold zgm at h;refine bi h fun ae h ab=>?_;refine tt ?_
 refine lX ab (fun|U,_=>⟨[(1,.one (.sl (labels.map eI))),(2,.one (.sl (rules.map (eA2 eI)))),(3,.one (.ref 0 0 0 0)),(7,.one (.int .i64 (U:Int)))],[.cells 0 2 [(eQ_ l)]]⟩) (fun|(.inl al),_=>⟨[],[]⟩|(.inr ()),_=>⟨[],[.cells 0 2 [(eQ_ l)]]⟩) (fun|(.inl _)=>none|(.inr _)=>some 0) ?_ ?_
 intro i3 b3 aa
 rcases ae with af|⟨⟩
 cases aa;obtain rfl:=Wab aa;obtain⟨⟩:=b3;dsimp only at h|-;cases h;exact fin;intro af3 m3 U a3 o3 I ho3 ih3;obtain⟨⟩:=a3;dsimp only[zhb]at I|-;refine tr ?_;intros;refine fl I F ?_ ?_<;>intro I _ F;refine bx I F fun an I ai F=>?_;refine tr ?_;intros;refine fi I F ?_ ?_<;>intro I _ F;cases I;obtain rfl:=sr ho3
 try dsimp only at h
 cases h;exact fin;refine tr ?_;intros;refine fi I F ?_ ?_<;>intro I _ F;cases I;obtain rfl:=sr ho3
 try dsimp only at h
 cases h;exact fin;refine tr ?_;intros;refine fi I F ?_ ?_<;>intro I _ F;cases I;obtain rfl:=sr ho3
 try dsimp only at h
 cases h;exact fin;refine tr ?_;intros;refine fi I F ?_ ?_<;>intro I _ F;cases I;obtain rfl:=sr ho3
 try dsimp only at h
 cases h;exact fin;refine by_ I F fun ao I aj F=>?_;refine by_ I F fun aq I ak F=>?_;refine bi I fun ar I ad=>?_;refine tr ?_;intros;refine cD (zak ad) ?_;refine tr ?_;intros;refine fv I F ?_ ?_<;>intro I _ F;cases I;refine tt ?_;refine wn U F fun F=>?_;exact bk ih3 ho3 ();cases I;obtain rfl:=sr ho3
 try dsimp only at h
 cases h;exact fin;cases I;refine tt ?_;exact xt ho3 af3 ()
theorem zs0 {l:xtq} {fixed:List Int} {rules:List (A2 Int)} {r:(List Int)×Bool} (h:zgl l fixed rules=some r):
  Pu prog 116 [.agg (xt5 l),.one (.sl (fixed.map eI)),.one (.sl (rules.map (eA2 eI)))] (.tup [.one (.sl (r.1.map eI)),.one (.bool r.2)]):=by
 have F:=trivial;have R:=trivial
 refine pA func116 ?_;simp only[f116];unfold zgl at h;refine bi h fun a6 h aR=>?_;refine tr ?_;intros;refine cS (zmc aR) ?_;refine fi h F ?_ ?_<;>intro h _ F;cases h;exact fin;refine bi h fun a7 h aS=>?_;refine tt ?_;refine zw8 9 1 (by simp[go_sem]) ?_
 refine lE (fun(a8:(List Int)×Nat) (a9:Nat)=>match a8,a9 with|(aw,aB),aq=>⟨[(1,.one (.sl (fixed.map eI))),(2,.one (.sl (rules.map (eA2 eI)))),(3,.one (.ref 0 0 0 0)),(8,.one (.int .i64 a6)),(9,.one (.msl 1 aq 0 aw.length)),(10,.one (.int .i64 (aB:Int)))],[.cells 0 2 [(eQ_ l)],.cells aq 1 (aw.map eI)]⟩) (fun(aC:((List Int)×Bool)⊕(List Int)) (ba:Nat)=>match aC,ba with|(.inl bt),_=>⟨[],[]⟩|(.inr ab),b7=>⟨[(1,.one (.sl (fixed.map eI))),(2,.one (.sl (rules.map (eA2 eI)))),(3,.one (.ref 0 0 0 0)),(9,.one (.msl 1 b7 0 ab.length))],[.cells 0 2 [(eQ_ l)],.cells b7 1 (ab.map eI)]⟩) (fun(aC:((List Int)×Bool)⊕(List Int))=>match aC with|(.inl _)=>none|(.inr _)=>some 0) 0 aS ?_ ?_
 intro i7 b7 aP
 rcases a7 with ai|ab
 cases aP;obtain rfl:=Wab aP;dsimp only at h|-;refine bi h fun aT h aI=>?_;refine tt ?_
 refine lX aI (fun|ay,_=>⟨[(1,.one (.sl (fixed.map eI))),(2,.one (.sl (rules.map (eA2 eI)))),(3,.one (.ref 0 0 0 0)),(9,.one (.msl 1 b7 0 ab.length)),(12,.one (.int .i64 (ay:Int)))],[.cells 0 2 [(eQ_ l)],.cells b7 1 (ab.map eI)]⟩) (fun|(.inl bu),_=>⟨[],[]⟩|(.inr ()),_=>⟨[(1,.one (.sl (fixed.map eI))),(2,.one (.sl (rules.map (eA2 eI)))),(3,.one (.ref 0 0 0 0)),(9,.one (.msl 1 b7 0 ab.length))],[.cells 0 2 [(eQ_ l)],.cells b7 1 (ab.map eI)]⟩) (fun|(.inl _)=>none|(.inr _)=>some 2) ?_ ?_
 intro i17 bb aD
 rcases aT with ai|⟨⟩
 cases aD;obtain rfl:=Wab aD;obtain⟨⟩:=bb;dsimp only at h|-;refine bi h fun aU h aJ=>?_;refine tt ?_
 refine lX aJ (fun|(aj,ar),_=>⟨[(1,.one (.sl (fixed.map eI))),(2,.one (.sl (rules.map (eA2 eI)))),(3,.one (.ref 0 0 0 0)),(9,.one (.msl 1 b7 0 aj.length)),(15,.one (.bool ar))],[.cells 0 2 [(eQ_ l)],.cells b7 1 (aj.map eI)]⟩) (fun|(.inl bw),_=>⟨[],[]⟩|(.inr ak),_=>⟨[(2,.one (.sl (rules.map (eA2 eI)))),(3,.one (.ref 0 0 0 0)),(9,.one (.msl 1 b7 0 ak.length))],[.cells 0 2 [(eQ_ l)],.cells b7 1 (ak.map eI)]⟩) (fun|(.inl _)=>none|(.inr _)=>some 4) ?_ ?_
 intro i23 bc aE
 rcases aU with ai|ak
 cases aE;obtain rfl:=Wab aE;obtain⟨⟩:=bc;dsimp only at h|-;refine bi h fun bz h aK=>?_;refine tr ?_;intros;refine cS (zs1 aK) ?_;refine fv h F ?_ ?_<;>intro h _ F;cases h;exact fin;cases h;exact fin;intro aV bI bf bg bJ ad az aW;obtain⟨aj,ar⟩:=bf;obtain⟨⟩:=bg;dsimp only[zc7]at ad|-;refine fv ad F ?_ ?_<;>intro ad _ F;refine bi ad fun aX ad aL=>?_;refine tt ?_
 refine lX aL (fun|(ae,au,al),_=>⟨[(1,.one (.sl (fixed.map eI))),(2,.one (.sl (rules.map (eA2 eI)))),(3,.one (.ref 0 0 0 0)),(9,.one (.msl 1 b7 0 ae.length)),(15,.one (.bool au)),(16,.one (.int .i64 (al:Int)))],[.cells 0 2 [(eQ_ l)],.cells b7 1 (ae.map eI)]⟩) (fun|(.inl bA),_=>⟨[],[]⟩|(.inr (an,av)),_=>⟨[(1,.one (.sl (fixed.map eI))),(2,.one (.sl (rules.map (eA2 eI)))),(3,.one (.ref 0 0 0 0)),(9,.one (.msl 1 b7 0 an.length)),(15,.one (.bool av))],[.cells 0 2 [(eQ_ l)],.cells b7 1 (an.map eI)]⟩) (fun|(.inl _)=>none|(.inr _)=>some 6) ?_ ?_
 intro i28 bh aF
 rcases aX with ai|⟨an,av⟩
 cases aF;obtain rfl:=Wab aF;obtain⟨⟩:=bh;dsimp only at ad|-;cases ad;refine tt ?_;exact bk aW az ();intro aY bK bj bl bL I ao aA;obtain⟨ae,au,al⟩:=bj;obtain⟨⟩:=bl;dsimp only[zcc]at I|-;refine tr ?_;intros;refine fl I F ?_ ?_<;>intro I _ F;refine bx I F fun aG I bo F=>?_;refine by_ I F fun bB I bp F=>?_;refine by_ I F fun bC I bq F=>?_;refine bi I fun bD I aM=>?_;refine tr ?_
 intros;refine cD (zak aM) ?_;refine tr ?_;intros;refine fv I F ?_ ?_<;>intro I _ F;cases I;refine tr ?_;intros;refine wn al F fun F=>?_;exact bk aA ao ();refine by_ I F fun bE I br F=>?_;refine tr ?_;intros;refine fi I F ?_ ?_<;>intro I _ F;refine bi I fun aH I aN=>?_;refine tr ?_;intros;refine cD (ze1 aN) ?_;refine tr ?_;intros;refine fi I F ?_ ?_<;>intro I _ F;cases I;obtain rfl:=sr ao
 try dsimp only at ad
 cases ad;obtain rfl:=sr az
 try dsimp only at h
 cases h;exact fin
 have R:=And.intro (show(List.map eI ae).set aG.a1.toNat [.int .i64 aH]=List.map eI (ae.set aG.a1.toNat aH) by simp[go_sem,WaL]) R
 cases I;refine tr ?_;intros;refine wn al F fun F=>?_;exact bk aA ao ();cases I;refine tt ?_;refine wn al F fun F=>?_;exact bk aA ao ();cases I;refine tt ?_;exact xt ao aY ();cases ad;refine tt ?_;exact xt az aV ();intro aZ bM ay bm bN U af a4;obtain⟨⟩:=bm;dsimp only[zec]at U|-;refine tr ?_;intros;refine fl U F ?_ ?_<;>intro U _ F;refine bx U F fun bF U bs F=>?_;refine tr ?_;intros;refine fi U F ?_ ?_<;>intro U _ F
 cases U;obtain rfl:=sr af
 try dsimp only at h
 cases h;exact fin;refine tr ?_;intros;refine fi U F ?_ ?_<;>intro U _ F;cases U;obtain rfl:=sr af
 try dsimp only at h
 cases h;exact fin;refine fi U F ?_ ?_<;>intro U _ F;cases U;obtain rfl:=sr af
 try dsimp only at h
 cases h;exact fin;refine tr ?_;intros;refine fi U F ?_ ?_<;>intro U _ F;cases U;obtain rfl:=sr af
 try dsimp only at h
 cases h;exact fin;cases U;refine tt ?_;refine wn ay F fun F=>?_;exact bk a4 af ();cases U;refine tt ?_;exact xt af aZ ();intro bn m7 s7 aq o7 aa ax aQ;obtain⟨aw,aB⟩:=s7;dsimp only[zed]at aa|-;refine tr ?_;intros;refine fl aa F ?_ ?_<;>intro aa _ F;refine bx aa F fun bO aa bG F=>?_;refine tr ?_;intros;refine fi aa F ?_ ?_<;>intro aa _ F;refine bi aa fun bP aa a5=>?_;refine tr ?_;intros
 refine cS (zbt a5) ?_;refine fv aa F ?_ ?_<;>intro aa _ F;refine nd aa F fun aa F=>?_;cases aa;refine tr ?_;intros;refine wn aB F fun F=>?_;exact bk aQ ax (aq+1);cases aa;obtain rfl:=sr ax
 try dsimp only at h
 cases h;exact fin;refine bi aa fun bH aa aO=>?_;refine tr ?_;intros;refine cS (zbt aO) ?_;refine fv aa F ?_ ?_<;>intro aa _ F;refine nd aa F fun aa F=>?_;cases aa;refine tr ?_;intros;refine wn aB F fun F=>?_;exact bk aQ ax (aq+1);cases aa;obtain rfl:=sr ax
 try dsimp only at h
 cases h;exact fin;cases aa;refine tt ?_;exact xt ax bn aq
theorem ztt {p:xtm} {r:List Int} (h:zhk p=some r):
  Pu prog 117 [.agg (xtr p)] (.one (.sl (r.map eI))):=by
 have F:=trivial;have R:=trivial
 refine pA func117 ?_;simp only[f117];unfold zhk at h;refine bi h fun ai h ax=>?_;refine tt ?_;refine zw8 3 1 (by simp[go_sem]) ?_
 refine lE (fun(aj:(List Int)×Nat) (ak:Nat)=>match aj,ak with|(al,an),ab=>⟨[(1,.one (.ref 0 0 0 0)),(3,.one (.msl 1 ab 0 al.length)),(4,.one (.int .i64 (an:Int)))],[.cells 0 6 [(eP_ p)],.cells ab 1 (al.map eI)]⟩) (fun(ao:List Int) (aq:Nat)=>match ao,aq with|ai,b6=>⟨[(1,.one (.ref 0 0 0 0)),(3,.one (.msl 1 b6 0 ai.length))],[.cells 0 6 [(eP_ p)],.cells b6 1 (ai.map eI)]⟩) (fun(_:List Int)=>some 0) 0 ax ?_ ?_
 intro i6 b6 aB;obtain rfl:=Wab aB;dsimp only at h|-;refine bi h fun ad h av=>?_;refine tt ?_
 refine lE (fun(aj:(List Int)×Nat) (ak:Nat)=>match aj,ak with|(ae,af),aa=>⟨[(1,.one (.ref 0 0 0 0)),(3,.one (.msl 1 aa 0 ae.length)),(5,.one (.int .i64 (af:Int)))],[.cells 0 6 [(eP_ p)],.cells aa 1 (ae.map eI)]⟩) (fun(ao:List Int) (aq:Nat)=>match ao,aq with|ad,ar=>⟨[(3,.one (.msl 1 ar 0 ad.length))],[.cells 0 6 [(eP_ p)],.cells ar 1 (ad.map eI)]⟩) (fun(_:List Int)=>some 2) b6 av ?_ ?_
 intro i15 ar ay;obtain rfl:=Wab ay;dsimp only at h|-;cases h;exact fin;intro az aI aC aa aJ I au aA;obtain⟨ae,af⟩:=aC;dsimp only[zj8]at I|-;refine tr ?_;intros;refine fl I F ?_ ?_<;>intro I _ F;refine bx I F fun aG I aF F=>?_;refine nd I F fun I F=>?_;cases I;refine tr ?_;intros;refine wn af F fun F=>?_;exact bk aA au (aa+1);cases I;refine tt ?_;exact xt au az aa;intro aD m6 s6 ab o6 U aw aE
 obtain⟨al,an⟩:=s6;dsimp only[zj9]at U|-;refine tr ?_;intros;refine fl U F ?_ ?_<;>intro U _ F;refine bx U F fun aK U aH F=>?_;refine nd U F fun U F=>?_;cases U;refine tr ?_;intros;refine wn an F fun F=>?_;exact bk aE aw (ab+1);cases U;refine tt ?_;exact xt aw aD ab
theorem zop {p:xtm} {i:Int} {r:Int} (h:zhe p i=some r):
  Pu prog 87 [.agg (xtr p),.one (.int .i64 i)] (.one (.int .i64 r)):=by
 have F:=trivial;have R:=trivial
 refine pA func87 ?_;simp only[f87];unfold zhe at h;cases h;exact fin
theorem zsi {U:xtm->xtn->Option (List Int)} {p:xtm} {e:xtn} {r:List Int}
  (I:∀(x0:xtm) (x1:xtn) (r:List Int),U x0 x1=some r->Pu prog 50 [.agg (xtr x0),.agg (xto x1)] (.one (.sl (r.map eI)))) (h:zdb U p e=some r):
  Pu prog 50 [.agg (xtr p),.agg (xto e)] (.one (.sl (r.map eI))):=by
 have F:=trivial;have R:=trivial
 refine pA func50 ?_;simp only[f50];unfold zdb at h;refine tt ?_;refine fi h F ?_ ?_<;>intro h _ F;refine bi h fun aW h aD=>?_;refine tr ?_;intros;refine cS (za1 aD) ?_;cases h;exact fin;refine fi h F ?_ ?_<;>intro h _ F;refine bi h fun aX h aE=>?_;refine tr ?_;intros;refine cD (zcb aE) ?_;cases h;exact fin;refine fi h F ?_ ?_<;>intro h _ F;refine bi h fun aY h aF=>?_;refine tr ?_;intros
 refine cD (zex aF) ?_;refine bi h fun aZ h aG=>?_;refine tr ?_;intros;refine cD (zop aG) ?_;cases h;exact fin;refine tt ?_;refine fi h F ?_ ?_<;>intro h _ F;refine bi h fun a4 h aH=>?_;refine tr ?_;intros;refine cS (za1 aH) ?_;refine bi h fun af h az=>?_;refine tr ?_;intros
 refine lE (fun(al:(List Int)×Nat) (an:Nat)=>match al,an with|(ao,aq),ae=>⟨[(2,.one (.ref 0 0 0 0)),(3,.one (.ref 1 0 0 0)),(5,.one (.msl 2 ae 0 ao.length)),(6,.one (.int .i64 (aq:Int)))],[.cells 0 6 [(eP_ p)],.cells 0 5 [[.int .i64 e.Op,.int .i64 e.N,.int .i64 e.Kind,.str e.Name,.sl (e.Args.map xto)]],.cells ae 1 (ao.map eI)]⟩) (fun(ar:List Int) (au:Nat)=>match ar,au with|af,av=>⟨[(5,.one (.msl 2 av 0 af.length))],[.cells 0 6 [(eP_ p)],.cells 0 5 [[.int .i64 e.Op,.int .i64 e.N,.int .i64 e.Kind,.str e.Name,.sl (e.Args.map xto)]],.cells av 1 (af.map eI)]⟩) (fun(_:List Int)=>some 1) 0 az ?_ ?_
 intro i11 av aI;obtain rfl:=Wab aI;dsimp only at h|-;cases h;exact fin;intro aJ a5 aO ae a6 aa aw aK;obtain⟨ao,aq⟩:=aO;dsimp only[zky]at aa|-;refine tr ?_;intros;refine fl aa F ?_ ?_<;>intro aa _ F;refine bx aa F fun aS aa aQ F=>?_;refine bi aa fun aT aa aA=>?_;refine tr ?_;intros;refine cD (I _ _ _ aA) ?_;refine nd aa F fun aa F=>?_;cases aa;refine tr ?_;intros;refine wn aq F fun F=>?_
 exact bk aK aw (ae+1);cases aa;refine tt ?_;exact xt aw aJ ae;refine bi h fun ai h aB=>?_;refine tt ?_;refine zw8 5 1 (by simp[go_sem]) ?_
 refine lE (fun(al:(List Int)×Nat) (an:Nat)=>match al,an with|(aj,ak),ad=>⟨[(2,.one (.ref 0 0 0 0)),(3,.one (.ref 1 0 0 0)),(5,.one (.msl 2 ad 0 aj.length)),(6,.one (.int .i64 (ak:Int)))],[.cells 0 6 [(eP_ p)],.cells 0 5 [[.int .i64 e.Op,.int .i64 e.N,.int .i64 e.Kind,.str e.Name,.sl (e.Args.map xto)]],.cells ad 1 (aj.map eI)]⟩) (fun(ar:List Int) (au:Nat)=>match ar,au with|ai,ax=>⟨[(5,.one (.msl 2 ax 0 ai.length))],[.cells 0 6 [(eP_ p)],.cells 0 5 [[.int .i64 e.Op,.int .i64 e.N,.int .i64 e.Kind,.str e.Name,.sl (e.Args.map xto)]],.cells ax 1 (ai.map eI)]⟩) (fun(_:List Int)=>some 1) 0 aB ?_ ?_
 intro i21 ax aL;obtain rfl:=Wab aL;dsimp only at h|-;cases h;exact fin;intro aM a7 aP ad a8 ab ay aN;obtain⟨aj,ak⟩:=aP;dsimp only[zkx]at ab|-;refine tr ?_;intros;refine fl ab F ?_ ?_<;>intro ab _ F;refine bx ab F fun aU ab aR F=>?_;refine bi ab fun aV ab aC=>?_;refine tr ?_;intros;refine cD (I _ _ _ aC) ?_;refine nd ab F fun ab F=>?_;cases ab;refine tr ?_;intros;refine wn ak F fun F=>?_
 exact bk aN ay (ad+1);cases ab;refine tt ?_;exact xt ay aM ad
theorem zsh (n:Nat):(∀(I:xtm) (U:xtn) (r:List Int),(zaz n) I U=some r->Pu prog 50 [.agg (xtr I),.agg (xto U)] (.one (.sl (r.map eI)))):=by
 induction n with
 |zero=>exact fun _ _ r h=>(by cases h)
 |succ n ih=>
  have aa:=ih
  exact fun _ _ r h=>zsi aa h
theorem zff {p:xtm} {e:xtn} {r:List Int} (h:zdf p e=some r):Pu prog 50 [.agg (xtr p),.agg (xto e)] (.one (.sl (r.map eI))):=(zsh 1000000) _ _ _ h
theorem zci {a:List Int} {b:List Int} {r:List Int} (h:zbk a b=some r):
  Pu prog 183 [.one (.sl (a.map eI)),.one (.sl (b.map eI))] (.one (.sl (r.map eI))):=by
 have F:=trivial;have R:=trivial
 refine pA func183 ?_;simp only[f183];unfold zbk at h;refine tr ?_;intros;refine fv h F ?_ ?_<;>intro h _ F;refine bi h fun aw h aM=>?_;refine tr ?_;intros;refine zw8 5 1 (by simp[go_sem]) ?_
 refine lE (fun(ax:(List Int)×Nat) (ay:Nat)=>match ax,ay with|(af,al),ai=>⟨[(1,.one (.sl (b.map eI))),(5,.one (.msl 0 ai 0 af.length)),(6,.one (.int .i64 (al:Int)))],[.cells ai 1 (af.map eI)]⟩) (fun(az:List Int) (aA:Nat)=>match az,aA with|aw,b6=>⟨[(5,.one (.msl 0 b6 0 aw.length))],[.cells b6 1 (aw.map eI)]⟩) (fun(_:List Int)=>some 0) 0 aM ?_ ?_
 intro i6 b6 aU;obtain rfl:=Wab aU;dsimp only at h|-;cases h;exact fin;intro aV m6 s6 ai o6 ab aB aK;obtain⟨af,al⟩:=s6;dsimp only[znb]at ab|-;refine tr ?_;intros;refine fl ab F ?_ ?_<;>intro ab _ F;refine bi ab fun aL ab aN=>?_;refine tt ?_
 refine lX aN (fun|(an,aC),_=>⟨[(1,.one (.sl (b.map eI))),(5,.one (.msl 0 ai 0 af.length)),(6,.one (.int .i64 (al:Int))),(7,.one (.bool an)),(8,.one (.int .i64 (aC:Int)))],[.cells ai 1 (af.map eI)]⟩) (fun|aL,_=>⟨[(1,.one (.sl (b.map eI))),(5,.one (.msl 0 ai 0 af.length)),(6,.one (.int .i64 (al:Int))),(7,.one (.bool aL))],[.cells ai 1 (af.map eI)]⟩) (fun _=>some 2) ?_ ?_
 intro i10 aW aO;obtain rfl:=Wab aO;obtain⟨⟩:=aW;dsimp only at ab|-;refine fv ab F ?_ ?_<;>intro ab _ F;cases ab;refine tt ?_;refine wn al F fun F=>?_;exact bk aK aB ai;refine bx ab F fun bf ab a7 F=>?_;refine nd ab F fun ab F=>?_;cases ab;refine tr ?_;intros;refine wn al F fun F=>?_;exact bk aK aB (ai+1);intro aD bn aX aY bo U ao aP;obtain⟨an,aC⟩:=aX;obtain⟨⟩:=aY;dsimp only[zkc]at U|-
 refine tr ?_;intros;refine fl U F ?_ ?_<;>intro U _ F;refine fv U F ?_ ?_<;>intro U _ F;cases U;refine tt ?_;exact xt ao aD ();refine bx U F fun bg U a8 F=>?_;refine bx U F fun bh U a9 F=>?_;cases U;refine tr ?_;intros;refine wn aC F fun F=>?_;exact bk aP ao ();cases U;refine tt ?_;exact xt ao aD ();cases ab;refine tt ?_;exact xt aB aV ai;refine nd h F fun h F=>?_;refine bi h fun aq h aI=>?_
 refine tr ?_;intros
 refine lE (fun(ax:(List Int)×Nat) (ay:Nat)=>match ax,ay with|(ad,aj),ae=>⟨[(1,.one (.sl (b.map eI))),(5,.one (.msl 0 ae 0 ad.length)),(6,.one (.int .i64 (aj:Int)))],[.cells ae 1 (ad.map eI)]⟩) (fun(az:List Int) (aA:Nat)=>match az,aA with|aq,aE=>⟨[(5,.one (.msl 0 aE 0 aq.length))],[.cells aE 1 (aq.map eI)]⟩) (fun(_:List Int)=>some 0) 0 aI ?_ ?_
 intro i23 aE aQ;obtain rfl:=Wab aQ;dsimp only at h|-;cases h;exact fin;intro aR bp aZ ae bq I ar aF;obtain⟨ad,aj⟩:=aZ;dsimp only[zna]at I|-;refine tr ?_;intros;refine fl I F ?_ ?_<;>intro I _ F;refine bi I fun aG I aJ=>?_;refine tt ?_
 refine lX aJ (fun|(ak,au),_=>⟨[(1,.one (.sl (b.map eI))),(5,.one (.msl 0 ae 0 ad.length)),(6,.one (.int .i64 (aj:Int))),(7,.one (.bool ak)),(8,.one (.int .i64 (au:Int)))],[.cells ae 1 (ad.map eI)]⟩) (fun|aG,_=>⟨[(1,.one (.sl (b.map eI))),(5,.one (.msl 0 ae 0 ad.length)),(6,.one (.int .i64 (aj:Int))),(7,.one (.bool aG))],[.cells ae 1 (ad.map eI)]⟩) (fun _=>some 2) ?_ ?_
 intro i27 a4 aS;obtain rfl:=Wab aS;obtain⟨⟩:=a4;dsimp only at I|-;refine fv I F ?_ ?_<;>intro I _ F;cases I;refine tt ?_;refine wn aj F fun F=>?_;exact bk aF ar ae;refine bx I F fun bj I ba F=>?_;refine nd I F fun I F=>?_;cases I;refine tr ?_;intros;refine wn aj F fun F=>?_;exact bk aF ar (ae+1);intro aH br a5 a6 bs aa av aT;obtain⟨ak,au⟩:=a5;obtain⟨⟩:=a6;dsimp only[zkb]at aa|-
 refine tr ?_;intros;refine fl aa F ?_ ?_<;>intro aa _ F;refine fv aa F ?_ ?_<;>intro aa _ F;cases aa;refine tt ?_;exact xt av aH ();refine bx aa F fun bl aa bb F=>?_;refine bx aa F fun bm aa bc F=>?_;cases aa;refine tr ?_;intros;refine wn au F fun F=>?_;exact bk aT av ();cases aa;refine tt ?_;exact xt av aH ();cases I;refine tt ?_;exact xt ar aR ae
theorem zuy {l:List (A2 Int)} {x:A2 Int} {r:List (A2 Int)} (h:zit l x=some r):
  Pu prog 197 [.one (.sl (l.map (eA2 eI))),.agg ((eA2 eI) x)] (.one (.sl (r.map (eA2 eI)))):=by
 have F:=trivial;have R:=trivial
 refine pA func197 ?_;simp only[f197];unfold zit at h;refine tr ?_;intros;refine fi h F ?_ ?_<;>intro h _ F;cases h;exact fin;refine bi h fun ab h ad=>?_;refine tt ?_
 refine lX ad (fun|aa,_=>⟨[(0,.one (.sl (l.map (eA2 eI)))),(3,.one (.ref 0 0 0 0)),(5,.one (.int .i64 (aa:Int)))],[.cells 0 2 [[.int .i64 x.a0,.int .i64 x.a1]]]⟩) (fun|ab,_=>⟨[(0,.one (.sl (l.map (eA2 eI)))),(3,.one (.ref 0 0 0 0)),(5,.one (.int .i64 (ab:Int)))],[.cells 0 2 [[.int .i64 x.a0,.int .i64 x.a1]]]⟩) (fun _=>some 0) ?_ ?_
 intro i3 b3 ae;obtain rfl:=Wab ae;obtain⟨⟩:=b3;dsimp only at h|-;refine tr ?_;intros;refine fl h F ?_ ?_<;>intro h _ F;refine bx h F fun aj h af F=>?_;refine tr ?_;intros;refine fi h F ?_ ?_<;>intro h _ F;cases h;exact fin;refine tt ?_
 first|refine⟨by kernel_rfl,[0],[4,5,7,8,9],[3,6],by kernel_rfl,?_⟩|refine⟨mo,zl5 (by kernel_rfl),by kernel_rfl,[0],[4,5,7,8,9],[3,6],by kernel_rfl,?_⟩
 refine nd h F fun h F=>?_;refine tt ?_
 repeat (first|(with_reducible intro _)|((with_reducible refine zlr ?_ ?_);first|((with_reducible refine sq_i ?_);exact sq_)|exact ss))
 refine fv h F ?_ ?_<;>intro h _ F;refine nd h F fun h F=>?_;refine nd h F fun h F=>?_;refine tr ?_;intros
 ·cases h
  have U:=F
  simp only[WaA,WaM]at U;refine fin (h:= ?_)
  (try simp-implicitDefEqProofs only[go_sem,simprocAttr,F,R])
  (repeat' (first|(with_reducible refine sq_i ?_;exact sq_)|(with_reducible apply And.intro)|(refine fun(_:(_:Nat)<=_)=>?_)))
  all_goals first|omega|(simp only[WaM,Waq,WaA];omega)|(intro r hr;first|(obtain⟨_,_,rfl⟩:=Wau.1 (Wa5 hr);rfl)|(obtain⟨_,_,rfl⟩:=Wau.1 (Wa2 hr);rfl)|(simp at hr;simp[hr];done))|(simp[go_sem,F];refine WaZ ?_;simp only[Waj,WaM,Waq,Wai,WaA];omega)|(refine sq_i ?_;intro H2 hA;simp only[zyv,zyu,Wat,WaK,and_true]at hA;simp[go_sem,hA]<;>omega)|(simp[go_sem,F];done)
 refine nd h F fun h F=>?_;refine nd h F fun h F=>?_;refine nd h F fun h F=>?_;refine nd h F fun h F=>?_;refine tr ?_;intros
 ·cases h
  have U:=F
  simp only[WaA,WaM]at U;refine fin (h:= ?_)
  (try simp-implicitDefEqProofs only[go_sem,simprocAttr,F,R])
  (repeat' (first|(with_reducible refine sq_i ?_;exact sq_)|(with_reducible apply And.intro)|(refine fun(_:(_:Nat)<=_)=>?_)))
  all_goals first|omega|(simp only[WaM,Waq,WaA];omega)|(intro r hr;first|(obtain⟨_,_,rfl⟩:=Wau.1 (Wa5 hr);rfl)|(obtain⟨_,_,rfl⟩:=Wau.1 (Wa2 hr);rfl)|(simp at hr;simp[hr];done))|(simp[go_sem,F];refine WaZ ?_;simp only[Waj,WaM,Waq,Wai,WaA];omega)|(refine sq_i ?_;intro H2 hA;simp only[zyv,zyu,Wat,WaK,and_true]at hA;simp[go_sem,hA]<;>omega)|(simp[go_sem,F];done)
 refine tr ?_;intros
 first|refine⟨by kernel_rfl,[0],[4,5,7,8,9],[3,6],by kernel_rfl,?_⟩|refine⟨mo,zl5 (by kernel_rfl),by kernel_rfl,[0],[4,5,7,8,9],[3,6],by kernel_rfl,?_⟩
 refine nd h F fun h F=>?_;refine tt ?_
 repeat (first|(with_reducible intro _)|((with_reducible refine zlr ?_ ?_);first|((with_reducible refine sq_i ?_);exact sq_)|exact ss))
 refine fv h F ?_ ?_<;>intro h _ F;refine nd h F fun h F=>?_;refine nd h F fun h F=>?_;refine tr ?_;intros
 ·cases h
  have U:=F
  simp only[WaA,WaM]at U;refine fin (h:= ?_)
  (try simp-implicitDefEqProofs only[go_sem,simprocAttr,F,R])
  (repeat' (first|(with_reducible refine sq_i ?_;exact sq_)|(with_reducible apply And.intro)|(refine fun(_:(_:Nat)<=_)=>?_)))
  all_goals first|omega|(simp only[WaM,Waq,WaA];omega)|(intro r hr;first|(obtain⟨_,_,rfl⟩:=Wau.1 (Wa5 hr);rfl)|(obtain⟨_,_,rfl⟩:=Wau.1 (Wa2 hr);rfl)|(simp at hr;simp[hr];done))|(simp[go_sem,F];refine WaZ ?_;simp only[Waj,WaM,Waq,Wai,WaA];omega)|(refine sq_i ?_;intro H2 hA;simp only[zyv,zyu,Wat,WaK,and_true]at hA;simp[go_sem,hA]<;>omega)|(simp[go_sem,F];done)
 refine nd h F fun h F=>?_;refine nd h F fun h F=>?_;refine nd h F fun h F=>?_;refine nd h F fun h F=>?_;refine tr ?_;intros
 ·cases h
  have U:=F
  simp only[WaA,WaM]at U;refine fin (h:= ?_)
  (try simp-implicitDefEqProofs only[go_sem,simprocAttr,F,R])
  (repeat' (first|(with_reducible refine sq_i ?_;exact sq_)|(with_reducible apply And.intro)|(refine fun(_:(_:Nat)<=_)=>?_)))
  all_goals first|omega|(simp only[WaM,Waq,WaA];omega)|(intro r hr;first|(obtain⟨_,_,rfl⟩:=Wau.1 (Wa5 hr);rfl)|(obtain⟨_,_,rfl⟩:=Wau.1 (Wa2 hr);rfl)|(simp at hr;simp[hr];done))|(simp[go_sem,F];refine WaZ ?_;simp only[Waj,WaM,Waq,Wai,WaA];omega)|(refine sq_i ?_;intro H2 hA;simp only[zyv,zyu,Wat,WaK,and_true]at hA;simp[go_sem,hA]<;>omega)|(simp[go_sem,F];done)
 intro af3 m3 aa a3 o3 I ho3 ih3;obtain⟨⟩:=a3;dsimp only[zkw]at I|-;refine tr ?_;intros;refine fl I F ?_ ?_<;>intro I _ F;refine bx I F fun ak I ai F=>?_;refine tr ?_;intros;refine fi I F ?_ ?_<;>intro I _ F;cases I;refine tr ?_;intros;refine wn aa F fun F=>?_;exact bk ih3 ho3 ();refine tr ?_;intros;refine fi I F ?_ ?_<;>intro I _ F;refine tr ?_;intros;refine fi I F ?_ ?_<;>intro I _ F
 cases I;refine tt ?_;refine wn aa F fun F=>?_;exact bk ih3 ho3 ();cases I;refine tt ?_;exact xt ho3 af3 ();cases I;refine tr ?_;intros;exact xt ho3 af3 ();cases I;refine tr ?_;intros;exact xt ho3 af3 ()
theorem zet {l:List (A2 Int)} {from_:List Int} {y:Int} {r:List (A2 Int)} (h:zca l from_ y=some r):
  Pu prog 182 [.one (.sl (l.map (eA2 eI))),.one (.sl (from_.map eI)),.one (.int .i64 y)] (.one (.sl (r.map (eA2 eI)))):=by
 have F:=trivial;have R:=trivial
 refine pA func182 ?_;simp only[f182];unfold zca at h;refine bi h fun aa h ae=>?_;refine tt ?_
 refine lX ae (fun|(ab,U),_=>⟨[(0,.one (.sl (ab.map (eA2 eI)))),(1,.one (.sl (from_.map eI))),(2,.one (.int .i64 y)),(7,.one (.int .i64 (U:Int)))],[]⟩) (fun|aa,_=>⟨[(0,.one (.sl (aa.map (eA2 eI))))],[]⟩) (fun _=>some 0) ?_ ?_
 intro i4 b4 ai;obtain rfl:=Wab ai;obtain⟨⟩:=b4;dsimp only at h|-;cases h;exact fin;intro aj m4 s4 a4 o4 I ad ak;obtain⟨ab,U⟩:=s4;obtain⟨⟩:=a4;dsimp only[zka]at I|-;refine tr ?_;intros;refine fl I F ?_ ?_<;>intro I _ F;refine bx I F fun an I al F=>?_;refine bi I fun ao I af=>?_;refine tr ?_;intros;refine cS (zuy af) ?_;cases I;refine tt ?_;refine wn U F fun F=>?_;exact bk ak ad ()
 cases I;refine tt ?_;exact xt ad aj ()
theorem zqh {U:xtm->(List (A2 Int))->xtn->(List Int)->Option (List (A2 Int))} {p:xtm} {l:List (A2 Int)} {e:xtn} {ad:List Int} {r:List (A2 Int)}
  (I:∀(x0:xtm) (x1:List (A2 Int)) (x2:xtn) (x3:List Int) (r:List (A2 Int)),U x0 x1 x2 x3=some r->Pu prog 184 [.agg (xtr x0),.one (.sl (x1.map (eA2 eI))),.agg (xto x2),.one (.sl (x3.map eI))] (.one (.sl (r.map (eA2 eI))))) (h:zes U p l e ad=some r):
  Pu prog 184 [.agg (xtr p),.one (.sl (l.map (eA2 eI))),.agg (xto e),.one (.sl (ad.map eI))] (.one (.sl (r.map (eA2 eI)))):=by
 have F:=trivial;have R:=trivial
 refine pA func184 ?_;simp only[f184];unfold zes at h;refine fi h F ?_ ?_<;>intro h _ F;refine bi h fun aU h av=>?_;refine tr ?_;intros;refine cD (zex av) ?_;refine bi h fun aV h aw=>?_;refine tr ?_;intros;refine cD (zop aw) ?_;refine bx h F fun aW h aP F=>?_;refine bi h fun aX h ax=>?_;refine tr ?_;intros;refine cD (zff ax) ?_;refine bi h fun aY h ay=>?_;refine tr ?_;intros;refine cD (zet ay) ?_
 refine bi h fun aZ h az=>?_;refine tr ?_;intros;refine cS (zet az) ?_;refine bi h fun ar h aA=>?_;refine tt ?_
 refine lX aA (fun|(au,af),_=>⟨[(1,.one (.sl (au.map (eA2 eI)))),(3,.one (.sl (ad.map eI))),(4,.one (.ref 0 0 0 0)),(6,.one (.ref 1 0 0 0)),(10,.one (.int .i64 (af:Int)))],[.cells 0 6 [(eP_ p)],.cells 0 5 [[.int .i64 e.Op,.int .i64 e.N,.int .i64 e.Kind,.str e.Name,.sl (e.Args.map xto)]]]⟩) (fun|ar,_=>⟨[(1,.one (.sl (ar.map (eA2 eI))))],[.cells 0 6 [(eP_ p)],.cells 0 5 [[.int .i64 e.Op,.int .i64 e.N,.int .i64 e.Kind,.str e.Name,.sl (e.Args.map xto)]]]⟩) (fun _=>some 0) ?_ ?_
 intro i10 aH aB;obtain rfl:=Wab aB;obtain⟨⟩:=aH;dsimp only at h|-;cases h;exact fin;intro aC a4 aI aJ a5 aa ai aD;obtain⟨au,af⟩:=aI;obtain⟨⟩:=aJ;dsimp only[zmw]at aa|-;refine tr ?_;intros;refine fl aa F ?_ ?_<;>intro aa _ F;refine bx aa F fun aQ aa aN F=>?_;refine bi aa fun aR aa an=>?_;refine tr ?_;intros;refine cD (I _ _ _ _ _ an) ?_;cases aa;refine tr ?_;intros;refine wn af F fun F=>?_
 exact bk aD ai ();cases aa;refine tt ?_;exact xt ai aC ();refine bi h fun aj h ao=>?_;refine tt ?_
 refine lX ao (fun|(ak,ae),_=>⟨[(1,.one (.sl (ak.map (eA2 eI)))),(3,.one (.sl (ad.map eI))),(4,.one (.ref 0 0 0 0)),(6,.one (.ref 1 0 0 0)),(10,.one (.int .i64 (ae:Int)))],[.cells 0 6 [(eP_ p)],.cells 0 5 [[.int .i64 e.Op,.int .i64 e.N,.int .i64 e.Kind,.str e.Name,.sl (e.Args.map xto)]]]⟩) (fun|aj,_=>⟨[(1,.one (.sl (aj.map (eA2 eI))))],[.cells 0 6 [(eP_ p)],.cells 0 5 [[.int .i64 e.Op,.int .i64 e.N,.int .i64 e.Kind,.str e.Name,.sl (e.Args.map xto)]]]⟩) (fun _=>some 0) ?_ ?_
 intro i17 aK aE;obtain rfl:=Wab aE;obtain⟨⟩:=aK;dsimp only at h|-;cases h;exact fin;intro aF a6 aL aM a7 ab al aG;obtain⟨ak,ae⟩:=aL;obtain⟨⟩:=aM;dsimp only[zmv]at ab|-;refine tr ?_;intros;refine fl ab F ?_ ?_<;>intro ab _ F;refine bx ab F fun aS ab aO F=>?_;refine bi ab fun aT ab aq=>?_;refine tr ?_;intros;refine cD (I _ _ _ _ _ aq) ?_;cases ab;refine tr ?_;intros;refine wn ae F fun F=>?_
 exact bk aG al ();cases ab;refine tt ?_;exact xt al aF ()
theorem zqg (n:Nat):(∀(I:xtm) (U:List (A2 Int)) (x2:xtn) (x3:List Int) (r:List (A2 Int)),(zch n) I U x2 x3=some r->Pu prog 184 [.agg (xtr I),.one (.sl (U.map (eA2 eI))),.agg (xto x2),.one (.sl (x3.map eI))] (.one (.sl (r.map (eA2 eI))))):=by
 induction n with
 |zero=>exact fun _ _ _ _ r h=>(by cases h)
 |succ n ih=>
  have aa:=ih
  exact fun _ _ _ _ r h=>zqh aa h
theorem zjp {p:xtm} {l:List (A2 Int)} {e:xtn} {I:List Int} {r:List (A2 Int)} (h:zf9 p l e I=some r):Pu prog 184 [.agg (xtr p),.one (.sl (l.map (eA2 eI))),.agg (xto e),.one (.sl (I.map eI))] (.one (.sl (r.map (eA2 eI)))):=(zqg 1000000) _ _ _ _ _ h
theorem zjm {p:xtm} {l:List (A2 Int)} {t:List xtn} {U:List Int} {r:(List (A2 Int))×(List Int)} (h:zda p l t U=some r):
  Pu prog 180 [.agg (xtr p),.one (.sl (l.map (eA2 eI))),.one (.sl (t.map xto)),.one (.sl (U.map eI))] (.tup [.one (.sl (r.1.map (eA2 eI))),.one (.sl (r.2.map eI))]):=by
 have F:=trivial;have R:=trivial
 refine pA func180 ?_;simp only[f180];unfold zda at h;refine bi h fun an h ai=>?_;refine tt ?_;refine yaz 10 _ (by simp[go_sem];rfl) ?_
 refine lX ai (fun|(ae,h_2,aa),_=>⟨[(1,.one (.sl (ae.map (eA2 eI)))),(2,.one (.sl (t.map xto))),(3,.one (.sl (U.map eI))),(4,.one (.ref 0 0 0 0)),(10,.one (.sl (h_2.map eI))),(11,.one (.int .i64 (aa:Int)))],[.cells 0 6 [(eP_ p)]]⟩) (fun|(ab,ad),_=>⟨[(1,.one (.sl (ab.map (eA2 eI)))),(10,.one (.sl (ad.map eI)))],[.cells 0 6 [(eP_ p)]]⟩) (fun _=>some 0) ?_ ?_
 intro i5 b5 ao;obtain rfl:=Wab ao;obtain⟨ab,ad⟩:=an;obtain⟨⟩:=b5;dsimp only at h|-;cases h;exact fin;intro aq m5 s5 a5 o5 I af ar;obtain⟨ae,h_2,aa⟩:=s5;obtain⟨⟩:=a5;dsimp only[zjn]at I|-;refine tr ?_;intros;refine fl I F ?_ ?_<;>intro I _ F;refine bx I F fun av I au F=>?_;refine bi I fun aw I aj=>?_;refine tr ?_;intros;refine cD (zjp aj) ?_;refine bi I fun ax I ak=>?_
 refine tr ?_;intros;refine cD (zff ak) ?_;refine bi I fun ay I al=>?_;refine tr ?_;intros;refine cD (zci al) ?_;cases I;refine tr ?_;intros;refine wn aa F fun F=>?_;exact bk ar af ();cases I;refine tt ?_;exact xt af aq ()
theorem zsj {s:xtp} {r:List xtn} (h:zga s=some r):
  Pu prog 181 [.agg (xts s)] (.one (.sl (r.map xto))):=by
 have F:=trivial;have R:=trivial
 refine pA func181 ?_;simp only[f181];unfold zga at h;refine fi h F ?_ ?_<;>intro h _ F;refine bx h F fun U h I F=>?_;cases h;exact fin;cases h;exact fin
theorem zqf {aa:xtm->(List (A2 Int))->(List xtp)->(List Int)->Option (List (A2 Int))} {p:xtm} {l:List (A2 Int)} {s:List xtp} {ad:List Int} {r:List (A2 Int)}
  (U:∀(x0:xtm) (x1:List (A2 Int)) (x2:List xtp) (x3:List Int) (r:List (A2 Int)),aa x0 x1 x2 x3=some r->Pu prog 154 [.agg (xtr x0),.one (.sl (x1.map (eA2 eI))),.one (.sl (x2.map xts)),.one (.sl (x3.map eI))] (.one (.sl (r.map (eA2 eI))))) (h:zer aa p l s ad=some r):
  Pu prog 154 [.agg (xtr p),.one (.sl (l.map (eA2 eI))),.one (.sl (s.map xts)),.one (.sl (ad.map eI))] (.one (.sl (r.map (eA2 eI)))):=by
 have F:=trivial;have R:=trivial
 refine pA func154 ?_;simp only[f154];unfold zer at h;refine bi h fun aH h aJ=>?_;refine tt ?_
 refine lX aJ (fun|(aI,ab),_=>⟨[(1,.one (.sl (aI.map (eA2 eI)))),(2,.one (.sl (s.map xts))),(3,.one (.sl (ad.map eI))),(4,.one (.ref 0 0 0 0)),(9,.one (.int .i64 (ab:Int)))],[.cells 0 6 [(eP_ p)]]⟩) (fun|aH,_=>⟨[(1,.one (.sl (aH.map (eA2 eI))))],[.cells 0 6 [(eP_ p)]]⟩) (fun _=>some 0) ?_ ?_
 intro i4 b4 aO;obtain rfl:=Wab aO;obtain⟨⟩:=b4;dsimp only at h|-;cases h;exact fin;intro aP m4 s4 a4 o4 I ae af;obtain⟨aI,ab⟩:=s4;obtain⟨⟩:=a4;dsimp only[zjo]at I|-;refine tr ?_;intros;refine fl I F ?_ ?_<;>intro I _ F;refine bx I F fun bl I aQ F=>?_;refine tr ?_;intros;refine fi I F ?_ ?_<;>intro I _ F;refine bi I fun bm I aK=>?_;refine tr ?_;intros;refine cD (zsj aK) ?_;refine bi I fun bn I aL=>?_
 refine tr ?_;intros;refine cD (zjm aL) ?_;refine bi I fun bo I aM=>?_;refine tr ?_;intros;refine cD (zci aM) ?_;refine bi I fun bp I aN=>?_;refine tr ?_;intros;refine cD (za1 aN) ?_;refine bi I fun aR I ai=>?_;refine tr ?_;intros;refine cD (zet ai) ?_;cases I;refine tr ?_;intros;refine wn ab F fun F=>?_;exact bk af ae ();refine fi I F ?_ ?_<;>intro I _ F;refine bi I fun aS I aj=>?_;refine tr ?_
 intros;refine cS (zff aj) ?_;refine bi I fun aT I ak=>?_;refine tr ?_;intros;refine cS (zci ak) ?_;refine fi I F ?_ ?_<;>intro I _ F;exact(by omega:False).elim;refine bi I fun aU I al=>?_;refine tr ?_;intros;refine cS (zjp al) ?_;refine bi I fun aV I an=>?_;refine tr ?_;intros;refine cS (U _ _ _ _ _ an) ?_;refine bi I fun aW I ao=>?_;refine tr ?_;intros;refine cS (U _ _ _ _ _ ao) ?_
 cases I;refine tt ?_;refine wn ab F fun F=>?_;exact bk af ae ();refine fi I F ?_ ?_<;>intro I _ F;refine bi I fun aX I aq=>?_;refine tr ?_;intros;refine cS (zff aq) ?_;refine bi I fun aY I ar=>?_;refine tr ?_;intros;refine cS (zci ar) ?_;refine bi I fun aZ I au=>?_;refine tr ?_;intros;refine cS (zjp au) ?_;refine bi I fun a5 I av=>?_;refine tr ?_;intros;refine cS (U _ _ _ _ _ av) ?_;refine bi I fun a6 I aw=>?_
 refine tr ?_;intros;refine cS (U _ _ _ _ _ aw) ?_;cases I;refine tt ?_;refine wn ab F fun F=>?_;exact bk af ae ();refine fi I F ?_ ?_<;>intro I _ F;refine bi I fun a7 I ax=>?_;refine tr ?_;intros;refine cS (za1 ax) ?_;refine bi I fun a8 I ay=>?_;refine tr ?_;intros;refine cS (zjm ay) ?_;refine bi I fun a9 I az=>?_;refine tr ?_;intros;refine cS (zci az) ?_;refine bi I fun ba I aA=>?_;refine tr ?_
 intros;refine cS (zet aA) ?_;refine bi I fun bb I aB=>?_;refine tr ?_;intros;refine cD (zci aB) ?_;refine bi I fun bc I aC=>?_;refine tr ?_;intros;refine cD (U _ _ _ _ _ aC) ?_;cases I;refine tr ?_;intros;refine wn ab F fun F=>?_;exact bk af ae ();refine tt ?_;refine fi I F ?_ ?_<;>intro I _ F;refine bi I fun bf I aD=>?_;refine tr ?_;intros;refine cS (zjm aD) ?_;refine bi I fun bg I aE=>?_
 refine tr ?_;intros;refine cD (zci aE) ?_;refine bi I fun bh I aF=>?_;refine tr ?_;intros;refine cD (zcb aF) ?_;refine bi I fun bj I aG=>?_;refine tr ?_;intros;refine cD (zet aG) ?_;cases I;refine tr ?_;intros;refine wn ab F fun F=>?_;exact bk af ae ();cases I;refine tt ?_;refine wn ab F fun F=>?_;exact bk af ae ();cases I;refine tt ?_;exact xt ae aP ()
theorem zqe (n:Nat):(∀(I:xtm) (U:List (A2 Int)) (x2:List xtp) (x3:List Int) (r:List (A2 Int)),(zdi n) I U x2 x3=some r->Pu prog 154 [.agg (xtr I),.one (.sl (U.map (eA2 eI))),.one (.sl (x2.map xts)),.one (.sl (x3.map eI))] (.one (.sl (r.map (eA2 eI))))):=by
 induction n with
 |zero=>exact fun _ _ _ _ r h=>(by cases h)
 |succ n ih=>
  have aa:=ih
  exact fun _ _ _ _ r h=>zqf aa h
theorem zsg {p:xtm} {l:List (A2 Int)} {s:List xtp} {I:List Int} {r:List (A2 Int)} (h:zoq p l s I=some r):Pu prog 154 [.agg (xtr p),.one (.sl (l.map (eA2 eI))),.one (.sl (s.map xts)),.one (.sl (I.map eI))] (.one (.sl (r.map (eA2 eI)))):=(zqe 1000000) _ _ _ _ _ h
theorem zsk {p:xtm} {r:List (A2 Int)} (h:zgb p=some r):
  Pu prog 118 [.agg (xtr p)] (.one (.sl (r.map (eA2 eI)))):=by
 have F:=trivial;have R:=trivial
 refine pA func118 ?_;simp only[f118];unfold zgb at h;refine bi h fun aa h ae=>?_;refine tt ?_;refine yaz 3 _ (by simp[go_sem];rfl) ?_
 refine lX ae (fun|(ab,U),_=>⟨[(1,.one (.ref 0 0 0 0)),(3,.one (.sl (ab.map (eA2 eI)))),(4,.one (.int .i64 (U:Int)))],[.cells 0 6 [(eP_ p)]]⟩) (fun|aa,_=>⟨[(3,.one (.sl (aa.map (eA2 eI))))],[.cells 0 6 [(eP_ p)]]⟩) (fun _=>some 0) ?_ ?_
 intro i4 b4 ai;obtain rfl:=Wab ai;obtain⟨⟩:=b4;dsimp only at h|-;cases h;exact fin;intro aj m4 s4 a4 o4 I ad ak;obtain⟨ab,U⟩:=s4;obtain⟨⟩:=a4;dsimp only[zjq]at I|-;refine tr ?_;intros;refine fl I F ?_ ?_<;>intro I _ F;refine bx I F fun an I al F=>?_;refine bi I fun ao I af=>?_;refine tr ?_;intros;refine cD (zsg af) ?_;cases I;refine tr ?_;intros;refine wn U F fun F=>?_;exact bk ak ad ()
 cases I;refine tt ?_;exact xt ad aj ()
theorem zsm {p:xtm} {r:(List Int)×Int} (h:zbo p=some r):
  Pu prog 81 [.agg (xtr p)] (.tup [.one (.sl (r.1.map eI)),.one (.int .i64 r.2)]):=by
 have F:=trivial;have R:=trivial
 refine pA func81 ?_;simp only[f81];unfold zbo at h;refine bi h fun ad h I=>?_;refine tr ?_;intros;refine cD (ztt I) ?_;refine bi h fun ae h U=>?_;refine tr ?_;intros;refine cD (zn7 U) ?_;refine bi h fun af h aa=>?_;refine tr ?_;intros;refine cD (zsk aa) ?_;refine bi h fun ai h ab=>?_;refine tr ?_;intros;refine cD (zs0 ab) ?_;refine tr ?_;intros;refine fv h F ?_ ?_<;>intro h _ F;refine nd h F fun h F=>?_
 cases h;exact fin;cases h;exact fin
theorem zsf {p:xtm} {r:xtm×Int} (h:zf8 p=some r):
  Pu prog 38 [.agg (xtr p)] (.tup [.agg (xtr r.1),.one (.int .i64 r.2)]):=by
 have F:=trivial;have R:=trivial
 refine pA func38 ?_;simp only[f38];unfold zf8 at h;refine bi h fun cv h a5=>?_;refine tr ?_;intros;refine cS (zts a5) ?_;refine fv h F ?_ ?_<;>intro h _ F;refine bi h fun cw h a6=>?_;refine tr ?_;intros;refine cS (zs2 a6) ?_;refine fi h F ?_ ?_<;>intro h _ F;refine bi h fun cx h a7=>?_;refine tr ?_;intros;refine cS (zsq a7) ?_;refine fi h F ?_ ?_<;>intro h _ F;refine bi h fun cy h a9=>?_
 refine tr ?_;intros;refine cS (zso a9) ?_;refine fi h F ?_ ?_<;>intro h _ F;refine bi h fun af h ba=>?_;refine tr ?_;intros;refine cS (zsm ba) ?_;refine tt ?_;refine fi h F ?_ ?_<;>intro h _ F;refine tr ?_;intros;refine fv h F ?_ ?_<;>intro h _ F;refine tr ?_;intros;refine fv h F ?_ ?_<;>intro h _ F;refine bi h fun bH h bb=>?_;refine tr ?_;intros
 refine lX bb (fun|a4,_=>⟨[(2,.one (.ref 1 0 0 0)),(7,.one (.sl (af.1.map eI))),(9,.one (.ref 2 0 0 0)),(10,.one (.int .i64 a4))],[.cells 0 6 [(eP_ p)],.cells 0 6 [[.slf [],.slf [],.slf [],.slf [],.slf [],.slf []]],.cells 0 6 [[.sl (p.Lattice.Names.map eS),.sl (p.Lattice.Below.map (eA2 eI)),.sl (p.Sites.map xtw),.slf [],.slf [],.sl (p.Tasks.map xt0)]]]⟩) (fun|_,_=>⟨[(2,.one (.ref 1 0 0 0)),(7,.one (.sl (af.1.map eI))),(9,.one (.ref 2 0 0 0))],[.cells 0 6 [(eP_ p)],.cells 0 6 [[.slf [],.slf [],.slf [],.slf [],.slf [],.slf []]],.cells 0 6 [[.sl (p.Lattice.Names.map eS),.sl (p.Lattice.Below.map (eA2 eI)),.sl (p.Sites.map xtw),.slf [],.slf [],.sl (p.Tasks.map xt0)]]]⟩) (fun _=>some 0) ?_ ?_
 intro i8 b8 bI;obtain rfl:=Wab bI;obtain⟨⟩:=bH;obtain⟨⟩:=b8;dsimp only at h|-;refine bi h fun bc h aP=>?_;refine tt ?_
 refine lX aP (fun|aE,_=>⟨[(2,.one (.ref 1 0 0 0)),(7,.one (.sl (af.1.map eI))),(9,.one (.ref 2 0 0 0)),(11,.one (.int .i64 aE))],[.cells 0 6 [(eP_ p)],.cells 0 6 [[.slf [],.slf [],.slf [],.slf [],.slf [],.slf []]],.cells 0 6 [[.sl (p.Lattice.Names.map eS),.sl (p.Lattice.Below.map (eA2 eI)),.sl (p.Sites.map xtw),.slf [],.slf [],.sl (p.Tasks.map xt0)]]]⟩) (fun|_,_=>⟨[(2,.one (.ref 1 0 0 0)),(9,.one (.ref 2 0 0 0))],[.cells 0 6 [(eP_ p)],.cells 0 6 [[.slf [],.slf [],.slf [],.slf [],.slf [],.slf []]],.cells 0 6 [[.sl (p.Lattice.Names.map eS),.sl (p.Lattice.Below.map (eA2 eI)),.sl (p.Sites.map xtw),.slf [],.slf [],.sl (p.Tasks.map xt0)]]]⟩) (fun _=>some 2) ?_ ?_
 intro i12 bJ bf;obtain rfl:=Wab bf;obtain⟨⟩:=bc;obtain⟨⟩:=bJ;dsimp only at h|-;refine bi h fun cg h aQ=>?_;refine tr ?_;intros;refine cS (zeb aQ) ?_;refine fv h F ?_ ?_<;>intro h _ F;cases h;exact fin;cases h;exact fin;intro bg cA aE bK cB ai bh ch;obtain⟨⟩:=bK;dsimp only[zjk]at ai|-;refine tr ?_;intros;refine fi ai F ?_ ?_<;>intro ai _ F;refine by_ ai F fun cj ai b3 F=>?_
 cases ai;cases ai;refine tt ?_;exact xt bh bg ();intro bL m8 a4 a8 o8 av bM cC;obtain⟨⟩:=a8;dsimp only[zjl]at av|-;refine tr ?_;intros;refine fi av F ?_ ?_<;>intro av _ F;refine by_ av F fun cE av ck F=>?_;cases av;cases av;refine tt ?_;exact xt bM bL ();refine nd h F fun h F=>?_;refine bi h fun bj h aR=>?_;refine tr ?_;intros
 refine lX aR (fun|aF,_=>⟨[(2,.one (.ref 1 0 0 0)),(7,.one (.sl (af.1.map eI))),(9,.one (.ref 2 0 0 0)),(10,.one (.int .i64 aF))],[.cells 0 6 [(eP_ p)],.cells 0 6 [[.slf [],.slf [],.slf [],.slf [],.slf [],.slf []]],.cells 0 6 [[.sl (p.Lattice.Names.map eS),.sl (p.Lattice.Below.map (eA2 eI)),.sl (p.Sites.map xtw),.slf [],.msl 3 0 0 p.Blocks.length,.sl (p.Tasks.map xt0)]],.cells 0 3 (p.Blocks.map xty)]⟩) (fun|_,_=>⟨[(2,.one (.ref 1 0 0 0)),(7,.one (.sl (af.1.map eI))),(9,.one (.ref 2 0 0 0))],[.cells 0 6 [(eP_ p)],.cells 0 6 [[.slf [],.slf [],.slf [],.slf [],.slf [],.slf []]],.cells 0 6 [[.sl (p.Lattice.Names.map eS),.sl (p.Lattice.Below.map (eA2 eI)),.sl (p.Sites.map xtw),.slf [],.msl 3 0 0 p.Blocks.length,.sl (p.Tasks.map xt0)]],.cells 0 3 (p.Blocks.map xty)]⟩) (fun _=>some 0) ?_ ?_
 intro i18 bN bl;obtain rfl:=Wab bl;obtain⟨⟩:=bj;obtain⟨⟩:=bN;dsimp only at h|-;refine bi h fun aC h aS=>?_;refine tt ?_
 refine lX aS (fun|(ao,aw),_=>⟨[(2,.one (.ref 1 0 0 0)),(7,.one (.sl (af.1.map eI))),(9,.one (.ref 2 0 0 0)),(11,.one (.int .i64 (aw:Int)))],[.cells 0 6 [(eP_ p)],.cells 0 6 [[.slf [],.slf [],.slf [],.slf [],.slf [],.slf []]],.cells 0 6 [[.sl (p.Lattice.Names.map eS),.sl (p.Lattice.Below.map (eA2 eI)),.sl (p.Sites.map xtw),.slf [],.msl 3 0 0 ao.length,.sl (p.Tasks.map xt0)]],.cells 0 3 (ao.map xty)]⟩) (fun|aC,_=>⟨[(2,.one (.ref 1 0 0 0)),(9,.one (.ref 2 0 0 0))],[.cells 0 6 [(eP_ p)],.cells 0 6 [[.slf [],.slf [],.slf [],.slf [],.slf [],.slf []]],.cells 0 6 [[.sl (p.Lattice.Names.map eS),.sl (p.Lattice.Below.map (eA2 eI)),.sl (p.Sites.map xtw),.slf [],.msl 3 0 0 aC.length,.sl (p.Tasks.map xt0)]],.cells 0 3 (aC.map xty)]⟩) (fun _=>some 2) ?_ ?_
 intro i23 bO bm;obtain rfl:=Wab bm;obtain⟨⟩:=bO;dsimp only at h|-;refine bi h fun cm h aT=>?_;refine tr ?_;intros;refine cS (zeb aT) ?_;refine fv h F ?_ ?_<;>intro h _ F;cases h;exact fin;cases h;exact fin;intro bn cG bP bQ cH aa aG bo;obtain⟨ao,aw⟩:=bP;obtain⟨⟩:=bQ;dsimp only[zji]at aa|-;refine tr ?_;intros;refine fl aa F ?_ ?_<;>intro aa _ F;refine by_ aa F fun aH aa b4 F=>?_
 refine bx aa F fun aA aa b5 F=>?_
 have R:=And.intro (show(List.map xty ao).set aw [.str aA.Name,.str aA.Kind,.int .i64 aH]=List.map xty (ao.set aw (⟨aA.Name,aA.Kind,aH⟩:xt1)) by simp[go_sem,WaL]) R
 cases aa;refine tr ?_;intros;refine wn aw F fun F=>?_;exact bk bo aG ();cases aa;refine tt ?_;exact xt aG bn ();intro bp cI aF bR cJ aj bq cn;obtain⟨⟩:=bR;dsimp only[zjj]at aj|-;refine tr ?_;intros;refine fi aj F ?_ ?_<;>intro aj _ F;refine by_ aj F fun cp aj b6 F=>?_;cases aj;cases aj;refine tt ?_;exact xt bq bp ();refine nd h F fun h F=>?_;refine tr ?_;intros;refine fv h F ?_ ?_<;>intro h _ F
 refine bi h fun ak h aU=>?_;refine tr ?_;intros
 refine lX aU (fun|(aq,ax),_=>⟨[(2,.one (.ref 1 0 0 0)),(7,.one (.sl (af.1.map eI))),(9,.one (.ref 2 0 0 0)),(10,.one (.int .i64 (ax:Int)))],[.cells 0 6 [(eP_ p)],.cells 0 6 [[.slf [],.slf [],.slf [],.slf [],.slf [],.slf []]],.cells 0 6 [[.sl (p.Lattice.Names.map eS),.sl (p.Lattice.Below.map (eA2 eI)),.sl (p.Sites.map xtw),.msl 3 0 0 aq.length,.slf [],.sl (p.Tasks.map xt0)]],.cells 0 7 (aq.map xtx)]⟩) (fun|ak,_=>⟨[(2,.one (.ref 1 0 0 0)),(7,.one (.sl (af.1.map eI))),(9,.one (.ref 2 0 0 0))],[.cells 0 6 [(eP_ p)],.cells 0 6 [[.slf [],.slf [],.slf [],.slf [],.slf [],.slf []]],.cells 0 6 [[.sl (p.Lattice.Names.map eS),.sl (p.Lattice.Below.map (eA2 eI)),.sl (p.Sites.map xtw),.msl 3 0 0 ak.length,.slf [],.sl (p.Tasks.map xt0)]],.cells 0 7 (ak.map xtx)]⟩) (fun _=>some 0) ?_ ?_
 intro i32 bS br;obtain rfl:=Wab br;obtain⟨⟩:=bS;dsimp only at h|-;refine bi h fun bs h aV=>?_;refine tt ?_
 refine lX aV (fun|aI,_=>⟨[(2,.one (.ref 1 0 0 0)),(7,.one (.sl (af.1.map eI))),(9,.one (.ref 2 0 0 0)),(11,.one (.int .i64 aI))],[.cells 0 6 [(eP_ p)],.cells 0 6 [[.slf [],.slf [],.slf [],.slf [],.slf [],.slf []]],.cells 0 6 [[.sl (p.Lattice.Names.map eS),.sl (p.Lattice.Below.map (eA2 eI)),.sl (p.Sites.map xtw),.msl 3 0 0 ak.length,.slf [],.sl (p.Tasks.map xt0)]],.cells 0 7 (ak.map xtx)]⟩) (fun|_,_=>⟨[(2,.one (.ref 1 0 0 0)),(9,.one (.ref 2 0 0 0))],[.cells 0 6 [(eP_ p)],.cells 0 6 [[.slf [],.slf [],.slf [],.slf [],.slf [],.slf []]],.cells 0 6 [[.sl (p.Lattice.Names.map eS),.sl (p.Lattice.Below.map (eA2 eI)),.sl (p.Sites.map xtw),.msl 3 0 0 ak.length,.slf [],.sl (p.Tasks.map xt0)]],.cells 0 7 (ak.map xtx)]⟩) (fun _=>some 2) ?_ ?_
 intro i38 bT bt;obtain rfl:=Wab bt;obtain⟨⟩:=bs;obtain⟨⟩:=bT;dsimp only at h|-;refine bi h fun cq h aW=>?_;refine tr ?_;intros;refine cS (zeb aW) ?_;refine fv h F ?_ ?_<;>intro h _ F;cases h;exact fin;cases h;exact fin;intro bu cK aI bU cM al bw cr;obtain⟨⟩:=bU;dsimp only[zjh]at al|-;refine tr ?_;intros;refine fi al F ?_ ?_<;>intro al _ F;refine by_ al F fun ct al b7 F=>?_
 cases al;cases al;refine tt ?_;exact xt bw bu ();intro bz m32 bV bW cN ab aJ bA;obtain⟨aq,ax⟩:=bV;obtain⟨⟩:=bW;dsimp only[zmu]at ab|-;refine tr ?_;intros;refine fl ab F ?_ ?_<;>intro ab _ F;refine bx ab F fun aK ab b9 F=>?_;refine bx ab F fun I ab ca F=>?_
 have R:=And.intro (show(List.map xtx aq).set ax [.str I.Name,.int .i64 I.Type_.Kind,.int .i64 I.Type_.Low,.int .i64 I.Type_.Len,.int .i64 I.Mode,.int .i64 aK,.int .i64 I.Safe]=List.map xtx (aq.set ax (⟨I.Name,I.Type_,I.Mode,aK,I.Safe⟩:xtv)) by simp[go_sem,WaL]) R
 cases ab;refine tr ?_;intros;refine wn ax F fun F=>?_;exact bk bA aJ ();cases ab;refine tt ?_;exact xt aJ bz ();refine nd h F fun h F=>?_;refine bi h fun an h aX=>?_;refine tr ?_;intros
 refine lX aX (fun|(ar,ay),_=>⟨[(2,.one (.ref 1 0 0 0)),(7,.one (.sl (af.1.map eI))),(9,.one (.ref 2 0 0 0)),(10,.one (.int .i64 (ay:Int)))],[.cells 0 6 [(eP_ p)],.cells 0 6 [[.slf [],.slf [],.slf [],.slf [],.slf [],.slf []]],.cells 0 6 [[.sl (p.Lattice.Names.map eS),.sl (p.Lattice.Below.map (eA2 eI)),.sl (p.Sites.map xtw),.msl 3 0 0 ar.length,.msl 4 0 0 p.Blocks.length,.sl (p.Tasks.map xt0)]],.cells 0 7 (ar.map xtx),.cells 0 3 (p.Blocks.map xty)]⟩) (fun|an,_=>⟨[(2,.one (.ref 1 0 0 0)),(7,.one (.sl (af.1.map eI))),(9,.one (.ref 2 0 0 0))],[.cells 0 6 [(eP_ p)],.cells 0 6 [[.slf [],.slf [],.slf [],.slf [],.slf [],.slf []]],.cells 0 6 [[.sl (p.Lattice.Names.map eS),.sl (p.Lattice.Below.map (eA2 eI)),.sl (p.Sites.map xtw),.msl 3 0 0 an.length,.msl 4 0 0 p.Blocks.length,.sl (p.Tasks.map xt0)]],.cells 0 7 (an.map xtx),.cells 0 3 (p.Blocks.map xty)]⟩) (fun _=>some 0) ?_ ?_
 intro i45 bX bB;obtain rfl:=Wab bB;obtain⟨⟩:=bX;dsimp only at h|-;refine bi h fun aD h aY=>?_;refine tt ?_
 refine lX aY (fun|(au,az),_=>⟨[(2,.one (.ref 1 0 0 0)),(7,.one (.sl (af.1.map eI))),(9,.one (.ref 2 0 0 0)),(11,.one (.int .i64 (az:Int)))],[.cells 0 6 [(eP_ p)],.cells 0 6 [[.slf [],.slf [],.slf [],.slf [],.slf [],.slf []]],.cells 0 6 [[.sl (p.Lattice.Names.map eS),.sl (p.Lattice.Below.map (eA2 eI)),.sl (p.Sites.map xtw),.msl 3 0 0 an.length,.msl 4 0 0 au.length,.sl (p.Tasks.map xt0)]],.cells 0 7 (an.map xtx),.cells 0 3 (au.map xty)]⟩) (fun|aD,_=>⟨[(2,.one (.ref 1 0 0 0)),(9,.one (.ref 2 0 0 0))],[.cells 0 6 [(eP_ p)],.cells 0 6 [[.slf [],.slf [],.slf [],.slf [],.slf [],.slf []]],.cells 0 6 [[.sl (p.Lattice.Names.map eS),.sl (p.Lattice.Below.map (eA2 eI)),.sl (p.Sites.map xtw),.msl 3 0 0 an.length,.msl 4 0 0 aD.length,.sl (p.Tasks.map xt0)]],.cells 0 7 (an.map xtx),.cells 0 3 (aD.map xty)]⟩) (fun _=>some 2) ?_ ?_
 intro i52 bY bC;obtain rfl:=Wab bC;obtain⟨⟩:=bY;dsimp only at h|-;refine bi h fun cu h aZ=>?_;refine tr ?_;intros;refine cS (zeb aZ) ?_;refine fv h F ?_ ?_<;>intro h _ F;cases h;exact fin;cases h;exact fin;intro bD cP bZ b0 cQ ad aL bE;obtain⟨au,az⟩:=bZ;obtain⟨⟩:=b0;dsimp only[zms]at ad|-;refine tr ?_;intros;refine fl ad F ?_ ?_<;>intro ad _ F;refine by_ ad F fun aM ad cb F=>?_
 refine bx ad F fun aB ad cc F=>?_
 have R:=And.intro (show(List.map xty au).set az [.str aB.Name,.str aB.Kind,.int .i64 aM]=List.map xty (au.set az (⟨aB.Name,aB.Kind,aM⟩:xt1)) by simp[go_sem,WaL]) R
 cases ad;refine tr ?_;intros;refine wn az F fun F=>?_;exact bk bE aL ();cases ad;refine tt ?_;exact xt aL bD ();intro bF cR b1 b2 cT ae aN bG;obtain⟨ar,ay⟩:=b1;obtain⟨⟩:=b2;dsimp only[zmt]at ae|-;refine tr ?_;intros;refine fl ae F ?_ ?_<;>intro ae _ F;refine bx ae F fun aO ae cd F=>?_;refine bx ae F fun U ae cf F=>?_
 have R:=And.intro (show(List.map xtx ar).set ay [.str U.Name,.int .i64 U.Type_.Kind,.int .i64 U.Type_.Low,.int .i64 U.Type_.Len,.int .i64 U.Mode,.int .i64 aO,.int .i64 U.Safe]=List.map xtx (ar.set ay (⟨U.Name,U.Type_,U.Mode,aO,U.Safe⟩:xtv)) by simp[go_sem,WaL]) R
 cases ae;refine tr ?_;intros;refine wn ay F fun F=>?_;exact bk bG aN ();cases ae;refine tt ?_;exact xt aN bF ();cases h;exact fin;cases h;exact fin;cases h;exact fin;cases h;exact fin;cases h;exact fin
theorem zue {a:xtq} {b:xtq} {r:Bool} (h:zhx a b=some r):
  Pu prog 83 [.agg (xt5 a),.agg (xt5 b)] (.one (.bool r)):=by
 have F:=trivial;have R:=trivial
 refine pA func83 ?_;simp only[f83];unfold zhx at h;refine tr ?_;intros;refine fi h F ?_ ?_<;>intro h _ F;refine tr ?_;intros;refine fi h F ?_ ?_<;>intro h _ F;refine bi h fun al h aj=>?_;refine tt ?_
 refine lX aj (fun|aa,_=>⟨[(2,.one (.ref 0 0 0 0)),(3,.one (.ref 1 0 0 0)),(5,.one (.int .i64 (aa:Int)))],[.cells 0 2 [(eQ_ a)],.cells 0 2 [(eQ_ b)]]⟩) (fun|(.inl aA),_=>⟨[],[]⟩|(.inr ()),_=>⟨[(2,.one (.ref 0 0 0 0)),(3,.one (.ref 1 0 0 0))],[.cells 0 2 [(eQ_ a)],.cells 0 2 [(eQ_ b)]]⟩) (fun|(.inl _)=>none|(.inr _)=>some 0) ?_ ?_
 intro i3 b3 af
 rcases al with ab|⟨⟩
 cases af;obtain rfl:=Wab af;obtain⟨⟩:=b3;dsimp only at h|-;refine bi h fun an h ak=>?_;refine tt ?_
 refine lX ak (fun|ad,_=>⟨[(2,.one (.ref 0 0 0 0)),(3,.one (.ref 1 0 0 0)),(6,.one (.int .i64 (ad:Int)))],[.cells 0 2 [(eQ_ a)],.cells 0 2 [(eQ_ b)]]⟩) (fun|(.inl av),_=>⟨[],[]⟩|(.inr ()),_=>⟨[],[.cells 0 2 [(eQ_ a)],.cells 0 2 [(eQ_ b)]]⟩) (fun|(.inl _)=>none|(.inr _)=>some 2) ?_ ?_
 intro i9 b9 ai
 rcases an with ab|⟨⟩
 cases ai;obtain rfl:=Wab ai;obtain⟨⟩:=b9;dsimp only at h|-;cases h;exact fin;intro ao m9 ad a9 o9 I ae aq;obtain⟨⟩:=a9;dsimp only[zij]at I|-;refine tr ?_;intros;refine fl I F ?_ ?_<;>intro I _ F;refine bx I F fun aw I ar F=>?_;refine bx I F fun ax I au F=>?_;refine tr ?_;intros;refine fi I F ?_ ?_<;>intro I _ F;cases I;refine tt ?_;refine wn ad F fun F=>?_;exact bk aq ae ();cases I
 obtain rfl:=sr ae
 try dsimp only at h
 cases h;exact fin;cases I;refine tt ?_;exact xt ae ao ();intro af3 m3 aa a3 o3 U ho3 ih3;obtain⟨⟩:=a3;dsimp only[zik]at U|-;refine tr ?_;intros;refine fl U F ?_ ?_<;>intro U _ F;refine bx U F fun aB U ay F=>?_;refine bx U F fun aC U az F=>?_;refine tr ?_;intros;refine fi U F ?_ ?_<;>intro U _ F;cases U;refine tt ?_;refine wn aa F fun F=>?_;exact bk ih3 ho3 ();cases U;obtain rfl:=sr ho3
 try dsimp only at h
 cases h;exact fin;cases U;refine tt ?_;exact xt ho3 af3 ();cases h;exact fin;cases h;exact fin
theorem zih {a:List Int} {b:List Int} {r:Bool} (h:zbl a b=some r):
  Pu prog 20 [.one (.sl (a.map eI)),.one (.sl (b.map eI))] (.one (.bool r)):=by
 have F:=trivial;have R:=trivial
 refine pA func20 ?_;simp only[f20];unfold zbl at h;refine tr ?_;intros;refine fi h F ?_ ?_<;>intro h _ F;refine bi h fun ad h ab=>?_;refine tt ?_
 refine lX ab (fun|U,_=>⟨[(0,.one (.sl (a.map eI))),(1,.one (.sl (b.map eI))),(5,.one (.int .i64 (U:Int)))],[]⟩) (fun|(.inl aj),_=>⟨[],[]⟩|(.inr ()),_=>⟨[],[]⟩) (fun|(.inl _)=>none|(.inr _)=>some 0) ?_ ?_
 intro i3 b3 aa
 rcases ad with ae|⟨⟩
 cases aa;obtain rfl:=Wab aa;obtain⟨⟩:=b3;dsimp only at h|-;cases h;exact fin;intro af3 m3 U a3 o3 I ho3 ih3;obtain⟨⟩:=a3;dsimp only[zdn]at I|-;refine tr ?_;intros;refine fl I F ?_ ?_<;>intro I _ F;refine bx I F fun ak I af F=>?_;refine bx I F fun al I ai F=>?_;refine tr ?_;intros;refine fi I F ?_ ?_<;>intro I _ F;cases I;refine tt ?_;refine wn U F fun F=>?_;exact bk ih3 ho3 ()
 cases I;obtain rfl:=sr ho3
 try dsimp only at h
 cases h;exact fin;cases I;refine tt ?_;exact xt ho3 af3 ();cases h;exact fin
theorem zri {aa:(List xtp)->(List xtp)->Option Bool} {a:List xtp} {b:List xtp} {r:Bool}
  (U:∀(x0:List xtp) (x1:List xtp) (r:Bool),aa x0 x1=some r->Pu prog 122 [.one (.sl (x0.map xts)),.one (.sl (x1.map xts))] (.one (.bool r))) (h:zfn aa a b=some r):
  Pu prog 122 [.one (.sl (a.map xts)),.one (.sl (b.map xts))] (.one (.bool r)):=by
 have F:=trivial;have R:=trivial
 refine pA func122 ?_;simp only[f122];unfold zfn at h;refine tr ?_;intros;refine fi h F ?_ ?_<;>intro h _ F;refine bi h fun an h af=>?_;refine tt ?_
 refine lX af (fun|ab,_=>⟨[(0,.one (.sl (a.map xts))),(1,.one (.sl (b.map xts))),(5,.one (.int .i64 (ab:Int)))],[]⟩) (fun|(.inl aq),_=>⟨[],[]⟩|(.inr ()),_=>⟨[],[]⟩) (fun|(.inl _)=>none|(.inr _)=>some 0) ?_ ?_
 intro i3 b3 ae
 rcases an with ao|⟨⟩
 cases ae;obtain rfl:=Wab ae;obtain⟨⟩:=b3;dsimp only at h|-;cases h;exact fin;intro af3 m3 ab a3 o3 I ho3 ih3;obtain⟨⟩:=a3;dsimp only[zif]at I|-;refine tr ?_;intros;refine fl I F ?_ ?_<;>intro I _ F;refine bx I F fun aw I ar F=>?_;refine bx I F fun ax I au F=>?_;refine tr ?_;intros;refine fi I F ?_ ?_<;>intro I _ F;refine tt ?_;refine fi I F ?_ ?_<;>intro I _ F;refine bi I fun ay I ai=>?_
 refine tr ?_;intros;refine cS (zig ai) ?_;refine fv I F ?_ ?_<;>intro I _ F;refine bi I fun az I aj=>?_;refine tr ?_;intros;refine cS (zig aj) ?_;refine fv I F ?_ ?_<;>intro I _ F;refine bi I fun aA I ak=>?_;refine tr ?_;intros;refine cS (zig ak) ?_;refine fv I F ?_ ?_<;>intro I _ F;refine bi I fun aB I al=>?_;refine tr ?_;intros;refine cS (U _ _ _ al) ?_;refine fv I F ?_ ?_<;>intro I _ F
 refine bi I fun av I ad=>?_;refine tr ?_;intros;refine cS (U _ _ _ ad) ?_;refine fv I F ?_ ?_<;>intro I _ F;cases I;refine tt ?_;refine wn ab F fun F=>?_;exact bk ih3 ho3 ();cases I;obtain rfl:=sr ho3
 try dsimp only at h
 cases h;exact fin;cases I;obtain rfl:=sr ho3
 try dsimp only at h
 cases h;exact fin;cases I;obtain rfl:=sr ho3
 try dsimp only at h
 cases h;exact fin;cases I;obtain rfl:=sr ho3
 try dsimp only at h
 cases h;exact fin;cases I;obtain rfl:=sr ho3
 try dsimp only at h
 cases h;exact fin;cases I;obtain rfl:=sr ho3
 try dsimp only at h
 cases h;exact fin;cases I;obtain rfl:=sr ho3
 try dsimp only at h
 cases h;exact fin;cases I;refine tt ?_;exact xt ho3 af3 ();cases h;exact fin
theorem zrh (n:Nat):(∀(I:List xtp) (U:List xtp) (r:Bool),(zfm n) I U=some r->Pu prog 122 [.one (.sl (I.map xts)),.one (.sl (U.map xts))] (.one (.bool r))):=by
 induction n with
 |zero=>exact fun _ _ r h=>(by cases h)
 |succ n ih=>
  have aa:=ih
  exact fun _ _ r h=>zri aa h
theorem zt8 {a:List xtp} {b:List xtp} {r:Bool} (h:zlz a b=some r):Pu prog 122 [.one (.sl (a.map xts)),.one (.sl (b.map xts))] (.one (.bool r)):=(zrh 1000000) _ _ _ h
theorem zpx {a:xt4} {b:xt4} {r:Bool} (h:zg3 a b=some r):
  Pu prog 84 [.agg (xt0 a),.agg (xt0 b)] (.one (.bool r)):=by
 have F:=trivial;have R:=trivial
 refine pA func84 ?_;simp only[f84];unfold zg3 at h;refine tt ?_;refine fi h F ?_ ?_<;>intro h _ F;refine tt ?_;refine fi h F ?_ ?_<;>intro h _ F;refine bi h fun aa h I=>?_;refine tr ?_;intros;refine cS (zih I) ?_;refine fv h F ?_ ?_<;>intro h _ F;refine bi h fun ab h U=>?_;refine tr ?_;intros;refine cS (zt8 U) ?_;cases h;exact fin;cases h;exact fin;cases h;exact fin;cases h;exact fin
theorem zt4 {a:xtm} {b:xtm} {r:Bool} (h:zhr a b=some r):
  Pu prog 39 [.agg (xtr a),.agg (xtr b)] (.one (.bool r)):=by
 have F:=trivial;have R:=trivial
 refine pA func39 ?_;simp only[f39];unfold zhr at h;refine bi h fun bl h az=>?_;refine tr ?_;intros;refine cS (zue az) ?_;refine fv h F ?_ ?_<;>intro h _ F;refine tr ?_;intros;refine fi h F ?_ ?_<;>intro h _ F;refine tr ?_;intros;refine fi h F ?_ ?_<;>intro h _ F;refine tr ?_;intros;refine fi h F ?_ ?_<;>intro h _ F;refine tr ?_;intros;refine fi h F ?_ ?_<;>intro h _ F;refine bi h fun aK h aA=>?_
 refine tt ?_
 refine lX aA (fun|al,_=>⟨[(2,.one (.ref 0 0 0 0)),(3,.one (.ref 1 0 0 0)),(5,.one (.int .i64 (al:Int)))],[.cells 0 6 [(eP_ a)],.cells 0 6 [(eP_ b)]]⟩) (fun|(.inl bm),_=>⟨[],[]⟩|(.inr ()),_=>⟨[(2,.one (.ref 0 0 0 0)),(3,.one (.ref 1 0 0 0))],[.cells 0 6 [(eP_ a)],.cells 0 6 [(eP_ b)]]⟩) (fun|(.inl _)=>none|(.inr _)=>some 0) ?_ ?_
 intro i4 b4 ay
 rcases aK with ad|⟨⟩
 cases ay;obtain rfl:=Wab ay;obtain⟨⟩:=b4;dsimp only at h|-;refine bi h fun aL h aB=>?_;refine tt ?_
 refine lX aB (fun|an,_=>⟨[(2,.one (.ref 0 0 0 0)),(3,.one (.ref 1 0 0 0)),(6,.one (.int .i64 (an:Int)))],[.cells 0 6 [(eP_ a)],.cells 0 6 [(eP_ b)]]⟩) (fun|(.inl a5),_=>⟨[],[]⟩|(.inr ()),_=>⟨[(2,.one (.ref 0 0 0 0)),(3,.one (.ref 1 0 0 0))],[.cells 0 6 [(eP_ a)],.cells 0 6 [(eP_ b)]]⟩) (fun|(.inl _)=>none|(.inr _)=>some 2) ?_ ?_
 intro i10 aM ao
 rcases aL with ad|⟨⟩
 cases ao;obtain rfl:=Wab ao;obtain⟨⟩:=aM;dsimp only at h|-;refine bi h fun aC h av=>?_;refine tt ?_
 refine lX av (fun|ae,_=>⟨[(2,.one (.ref 0 0 0 0)),(3,.one (.ref 1 0 0 0)),(7,.one (.int .i64 (ae:Int)))],[.cells 0 6 [(eP_ a)],.cells 0 6 [(eP_ b)]]⟩) (fun|(.inl a6),_=>⟨[],[]⟩|(.inr ()),_=>⟨[(2,.one (.ref 0 0 0 0)),(3,.one (.ref 1 0 0 0))],[.cells 0 6 [(eP_ a)],.cells 0 6 [(eP_ b)]]⟩) (fun|(.inl _)=>none|(.inr _)=>some 4) ?_ ?_
 intro i16 aN aq
 rcases aC with ad|⟨⟩
 cases aq;obtain rfl:=Wab aq;obtain⟨⟩:=aN;dsimp only at h|-;refine bi h fun aD h aw=>?_;refine tt ?_
 refine lX aw (fun|af,_=>⟨[(2,.one (.ref 0 0 0 0)),(3,.one (.ref 1 0 0 0)),(8,.one (.int .i64 (af:Int)))],[.cells 0 6 [(eP_ a)],.cells 0 6 [(eP_ b)]]⟩) (fun|(.inl a7),_=>⟨[],[]⟩|(.inr ()),_=>⟨[],[.cells 0 6 [(eP_ a)],.cells 0 6 [(eP_ b)]]⟩) (fun|(.inl _)=>none|(.inr _)=>some 6) ?_ ?_
 intro i22 aO ar
 rcases aD with ad|⟨⟩
 cases ar;obtain rfl:=Wab ar;obtain⟨⟩:=aO;dsimp only at h|-;cases h;exact fin;intro aE bn af aP bo I ai aF;obtain⟨⟩:=aP;dsimp only[zia]at I|-;refine tr ?_;intros;refine fl I F ?_ ?_<;>intro I _ F;refine bx I F fun a8 I aU F=>?_;refine bx I F fun a9 I aV F=>?_;refine bi I fun ba I ax=>?_;refine tr ?_;intros;refine cD (zpx ax) ?_;refine tr ?_;intros;refine fv I F ?_ ?_<;>intro I _ F
 cases I;refine tt ?_;refine wn af F fun F=>?_;exact bk aF ai ();cases I;obtain rfl:=sr ai
 try dsimp only at h
 cases h;exact fin;cases I;refine tt ?_;exact xt ai aE ();intro aG bp ae aQ bq U aj aH;obtain⟨⟩:=aQ;dsimp only[zib]at U|-;refine tr ?_;intros;refine fl U F ?_ ?_<;>intro U _ F;refine bx U F fun bb U aW F=>?_;refine bx U F fun bc U aX F=>?_;refine tr ?_;intros;refine fi U F ?_ ?_<;>intro U _ F;cases U;refine tt ?_;refine wn ae F fun F=>?_;exact bk aH aj ();cases U;obtain rfl:=sr aj
 try dsimp only at h
 cases h;exact fin;cases U;refine tt ?_;exact xt aj aG ();intro aI br an aR bs aa ak aJ;obtain⟨⟩:=aR;dsimp only[zic]at aa|-;refine tr ?_;intros;refine fl aa F ?_ ?_<;>intro aa _ F;refine bx aa F fun bf aa aY F=>?_;refine bx aa F fun bg aa aZ F=>?_;refine tr ?_;intros;refine fi aa F ?_ ?_<;>intro aa _ F;cases aa;refine tt ?_;refine wn an F fun F=>?_;exact bk aJ ak ();cases aa;obtain rfl:=sr ak
 try dsimp only at h
 cases h;exact fin;cases aa;refine tt ?_;exact xt ak aI ();intro aS m4 al a4 o4 ab au aT;obtain⟨⟩:=a4;dsimp only[zid]at ab|-;refine tr ?_;intros;refine fl ab F ?_ ?_<;>intro ab _ F;refine bx ab F fun bt ab bh F=>?_;refine bx ab F fun bu ab bj F=>?_;refine tr ?_;intros;refine fi ab F ?_ ?_<;>intro ab _ F;cases ab;refine tt ?_;refine wn al F fun F=>?_;exact bk aT au ();cases ab;obtain rfl:=sr au
 try dsimp only at h
 cases h;exact fin;cases ab;refine tt ?_;exact xt au aS ();cases h;exact fin;cases h;exact fin;cases h;exact fin;cases h;exact fin;cases h;exact fin
theorem zn6 {p:xtm} {r:Bool} (h:zfx p=some r):
  Pu prog 14 [.agg (xtr p)] (.one (.bool r)):=by
 have F:=trivial;have R:=trivial
 refine pA func14 ?_;simp only[f14];unfold zfx at h;refine bi h fun aa h I=>?_;refine tr ?_;intros;refine cS (zsf I) ?_;refine tt ?_;refine fi h F ?_ ?_<;>intro h _ F;refine bi h fun ab h U=>?_;refine tr ?_;intros;refine cS (zt4 U) ?_;cases h;exact fin;cases h;exact fin
end Go.Lz

end
